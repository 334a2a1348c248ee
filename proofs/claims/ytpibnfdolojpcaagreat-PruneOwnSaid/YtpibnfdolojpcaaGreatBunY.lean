import Derived.Test.YtpibnfdolojpcaaGreatBunL
import Derived.Test.YtpibnfdolojpcaaGreatBunN
import Derived.Test.YtpibnfdolojpcaaGreatBunI
import Derived.Test.YtpibnfdolojpcaaGreatBunS
import Derived.Test.YtpibnfdolojpcaaGreatBunR
import Derived.Test.YtpibnfdolojpcaaGreatBunV
import Derived.Test.YtpibnfdolojpcaaGreatBunC
import Derived.Test.YtpibnfdolojpcaaGreatBunU
import Derived.Test.YtpibnfdolojpcaaGreatBunQ
import Derived.Test.YtpibnfdolojpcaaGreatBunX
import Derived.Test.YtpibnfdolojpcaaGreatBunP
import Derived.Test.YtpibnfdolojpcaaGreatBunJ
import Derived.Test.YtpibnfdolojpcaaGreatBunO
import Derived.Test.YtpibnfdolojpcaaGreatBunE
import Derived.Test.YtpibnfdolojpcaaGreatBunK
import Derived.OpenShut
set_option maxHeartbeats 16000000
set_option maxRecDepth 100000
namespace Go.Proofs.YtpibnfdolojpcaaGreat
abbrev abi:=@if_neg
abbrev acg:=@if_pos
abbrev adi:=@List.mem_cons_of_mem
abbrev adj:=@Nat.le_refl
abbrev adk:=@List.mem_cons_self
abbrev adl:=@Decidable.not_not
abbrev adm:=@List.mem_append
abbrev adn:=@List.map_cons
abbrev ado:=@List.mem_singleton
abbrev adp:=@List.length_cons
abbrev adq:=@List.sum_cons
abbrev adr:=@List.mem_map
abbrev ads:=@List.mem_cons
abbrev adt:=@List.mem_append_right
abbrev adu:=@List.mem_append_left
abbrev adv:=@List.append_nil
abbrev adw:=@Go.IntWalk.i64_in
abbrev adx:=@List.find?_cons
abbrev ady:=@List.length_append
abbrev adz:=@List.mem_filter
abbrev adA:=@Nat.zero_le
abbrev adB:=@List.nil_append
abbrev adC:=@Go.callsIn_wide
abbrev adD:=@List.foldl_cons
abbrev adE:=@Int.natCast_nonneg
abbrev adF:=@Int.le_refl
abbrev adG:=@List.filter_cons
abbrev adH:=@List.map_append
abbrev adI:=@List.mem_singleton_self
abbrev adJ:=@List.filter_filter
abbrev adK:=@List.mem_map_of_mem
abbrev adL:=@Go.World.size_alloc
abbrev adM:=@List.length_reverse
abbrev adN:=@List.append_assoc
abbrev adO:=@Bool.and_eq_true
abbrev adP:=@Go.Oper.semAt_some
abbrev adQ:=@Go.run_takeDeferred
abbrev adR:=@List.length_map
abbrev adS:=@Int.toNat_of_nonneg
abbrev adT:=@List.pairwise_cons
abbrev adU:=@List.drop_eq_getElem_cons
abbrev adV:=@List.cons_append
abbrev adW:=@Decidable.byContradiction
abbrev adX:=@Option.mem_toList
section
open Go.ChangeShapes Go.WideShapes Go.ChangeAt Go.RowKit
def vP (S:ae) (cu cg:Int) (eV:Bool):Nat->Int->List (List UInt8)->Nat->Bool->Option (iz×Int)
 | 0,_,_,_,_=>none
 | _+1,at_,[],_,_=>some (⟨0,[],at_,true⟩,0)
 | n + 1,at_,p::l,h,m =>
  if eE S cu cg at_ p≠0 then some (bC,eE S cu cg at_ p)
  else if p=[46,46] then vP S cu cg eV n (aZ S at_) l h m
  else if aJ S.nodes (bp S at_ p)=false then (if l=[] then some (⟨at_,p,0,m⟩,0) else some (bC,5))
  else if (ac S.nodes (bp S at_ p)).kind=3/\(l≠[]\/m=true\/eV=true) then
   (if 8<h+1 then some (bC,12) else if (ac S.nodes (bp S at_ p)).data=[] then some (bC,5)
    else vP S cu cg eV n (if (ac S.nodes (bp S at_ p)).data.head?=some 47 then 1 else at_) (bg (ac S.nodes (bp S at_ p)).data++l) (h+1) (m || (l.isEmpty&&fg (ac S.nodes (bp S at_ p)).data)))
  else if (ac S.nodes (bp S at_ p)).kind≠1/\(l≠[]\/m=true) then some (bC,9)
  else if l=[] then some (⟨at_,p,bp S at_ p,m⟩,0)
  else vP S cu cg eV n (bp S at_ p) l h m
theorem qU {S:ae} {cu cg:Int} {eV:Bool} {r:iz×Int}:∀(n:Nat) (at_:Int) (l:List (List UInt8)) (h:Nat) (m:Bool),vP S cu cg eV n at_ l h m=some r->dg S cu cg eV at_ l h m=r
 | 0,_,_,_,_,k=>by cases k
 | n+1,at_,[],h,m,k=>by rw[qD];unfold vP at k;injection k
 | n + 1, at_, p::l,h,m,k=>by
  unfold vP at k;rw [dg];split at k
  ·rename_i c1;rw[acg c1];injection k
  ·rename_i c1
   rw[abi c1];split at k
   ·rename_i c2;rw[acg c2];exact qU n _ _ _ _ k
   ·rename_i c2
    rw[abi c2];split at k
    ·rename_i c3
     rw[acg c3];split at k
     ·rename_i c4;rw[acg c4];injection k
     ·rename_i c4;rw[abi c4];injection k
    ·rename_i c3
     rw[abi c3];split at k
     ·rename_i c4
      rw[acg c4];split at k
      ·rename_i c5;rw[dif_pos c5];injection k
      ·rename_i c5
       rw[dif_neg c5];split at k
       ·rename_i c6;rw[acg c6];injection k
       ·rename_i c6;rw[abi c6];exact qU n _ _ _ _ k
     ·rename_i c4
      rw[abi c4];split at k
      ·rename_i c5;rw[acg c5];injection k
      ·rename_i c5
       rw[abi c5];split at k
       ·rename_i c6;rw[acg c6];injection k
       ·rename_i c6;rw[abi c6];exact qU n _ _ _ _ k
def ZI:sM:=⟨0,[100],1,448,0,0,[],0⟩
def ZJ:sM:=⟨0,[108],3,0,0,0,[100,47],0⟩
def ZK:sM:=⟨1,[120],2,0,0,0,[],0⟩
def nV:ae:=PH (Tg 99 99) [ZI,ZJ,ZK]
def B_ (S:ae) (cu cg:Int) (p:List UInt8) (eV:Bool):Option (iz×Int):=if ku p=0 then vP S cu cg eV 40 1 (bg p) 0 (fg p) else some (bC,ku p)
theorem vQ {S:ae} {cu cg:Int} {p:List UInt8} {eV:Bool} {r:iz×Int} (h:B_ S cu cg p eV=some r):dV S cu cg p eV=r:=by
 unfold B_ at h;unfold dV;split
 ·rename_i h1;rw[acg h1]at h;exact qU _ _ _ _ _ h
 ·rename_i h1;rw[abi h1]at h;injection h
def Vk (S:ae) (m:eW):Option ae:=
 match B_ S 0 0 m.path false with
 | none=>none
 | some r=>some (if r.2≠0 then S
  else if r.1.no=0 then (if fQ S 0 0 0 (.da r.1.dir r.1.name 493)=0 then cH (cM S 0 0 0 (.da r.1.dir r.1.name 493)) (kW S 0 0 0 (.da r.1.dir r.1.name 493)) m.b m.n else cM S 0 0 0 (.da r.1.dir r.1.name 493))
  else cH S r.1.no m.b m.n)
theorem Rf {S T:ae} {m:eW} (h:Vk S m=some T):iA S m=T:=by
 unfold Vk at h;split at h
 ·cases h
 ·rename_i r hr
  injection h with h;have hp:m_ S m=r:=vQ hr;unfold iA sx;rw [hp];exact h
def Ca (S:ae):List eW->Option ae
 | []=>some S
 | m::l=>if na m=true then Ca S l else match Vk S m with|none=>none|some T=>Ca T l
theorem NW {S T:ae} {l:List eW} (h:Ca S l=some T):ey S l=T:=by
 induction l generalizing S with
 | nil=>injection h
 | cons m l ih =>
  unfold Ca at h;unfold ey;rw [adD];split at h
  ·rename_i h1;rw[acg h1];exact ih h
  ·rename_i h1
   rw[abi h1];split at h
   ·cases h
   ·rename_i T1 h2;rw[Rf h2];exact ih h
def Vl (S:ae) (it:dS):Option (ae×Int):=
 match B_ S 0 0 it.path false,(if it.kind=4 then B_ S 0 0 it.data false else some (bC,1)) with
 | some r,some y =>
  let c:Option lG:=if r.2≠0 then none else if r.1.no≠0 then none
   else if it.kind=1 then some (.da r.1.dir r.1.name 493)
   else if it.kind=2 then some (.cL r.1.dir r.1.name 420 it.data)
   else if it.kind=3 then some (.symlink r.1.dir r.1.name it.data)
   else if it.kind=4 then (if y.2=0 then some (.link y.1.no r.1.dir r.1.name) else none)
   else none
  let T:=match c with|some x=>cM S 0 0 0 x|none=>S
  let n:=match c with|some x=>kW S 0 0 0 x|none=>if r.2=0/\r.1.no≠0/\it.kind=1/\(ac S.nodes r.1.no).kind=1 then r.1.no else 0
  some (gj T n it,n)
 | _,_=>none
theorem Rg {S:ae} {it:dS} {r:ae×Int} (h:Vl S it=some r):gj (jD S it) (iU S it) it=r.1/\iU S it=r.2:=by
 unfold Vl at h;split at h
 case h_2=>cases h
 rename_i r1 y h1 h2;have hp:eJ S it=r1:=vQ h1;have hc:iH S it=(if r1.2≠0 then none else if r1.1.no≠0 then none
   else if it.kind=1 then some (.da r1.1.dir r1.1.name 493)
   else if it.kind=2 then some (.cL r1.1.dir r1.1.name 420 it.data)
   else if it.kind=3 then some (.symlink r1.1.dir r1.1.name it.data)
   else if it.kind=4 then (if y.2=0 then some (.link y.1.no r1.1.dir r1.1.name) else none)
   else none):=by
  unfold iH;rw [hp]
  by_cases h4:it.kind=4
  ·rw [acg h4]at h2
   have hl:vB S it=y:=vQ h2;rw [hl]
  ·rw[abi h4,abi h4]
 injection h with h;unfold jD iU;rw [hc,hp,<-h];exact ⟨rfl,rfl⟩
def zr (S:ae) (ns:List Int):List dS->Option (ae×List Int)
 | []=>some (S,ns)
 | it::l=>match Vl S it with|none=>none|some r=>zr r.1 (ns++[r.2]) l
theorem Jb {S:ae} {ns:List Int} {l:List dS} {r:ae×List Int} (h:zr S ns l=some r):dL (S,ns) l=r:=by
 induction l generalizing S ns with
 | nil=>injection h
 | cons it l ih =>
  unfold zr at h;unfold dL;rw [adD];split at h
  ·cases h
  ·rename_i r1 h1
   obtain⟨k1,k2⟩:=Rg h1;have:s8 (S,ns) it=(r1.1,ns++[r1.2]):=by unfold s8;rw[k1,k2]
   rw[this];exact ih h
def Es (ms:List eW) (is:List dS):Option ae:=
 match Ca (gP ms) ms with
 | none=>none
 | some T=>match zr T [] is with|none=>none|some r=>some (ee r.1 (r.2.zip is))
theorem Jc {ms:List eW} {is:List dS} {T:ae} (h:Es ms is=some T):gp ms is=T:=by
 unfold Es at h;split at h
 ·cases h
 ·rename_i T1 h1
  split at h
  ·cases h
  ·rename_i r h2
   injection h with h;unfold gp xP;rw [NW h1,Jb h2,h]
def NX (S:ae) (cu cg:Int):Nat->List aj->Option (List aj×aj×Int)
 | 0,_=>none
 | _+1,[]=>some ([],gO,0)
 | n+1,x::t=>if dQ S cu cg x≠0 then some ([],x,dQ S cu cg x) else
  match NX S cu cg n (ew S cu cg x++t) with|none=>none|some r=>some (x::r.1,r.2)
theorem Cb {S:ae} {cu cg:Int}:∀{n:Nat} {t:List aj} {r:List aj×aj×Int},NX S cu cg n t=some r->fw S cu cg t r.1 r.2.1 r.2.2
 | 0,_,_,h=>by cases h
 | n+1,[],r,h=>by injection h with h;subst h;exact .nil
 | n + 1,x::t,r,h=>by
  unfold NX at h;split at h
  ·rename_i h1;injection h with h;subst h;exact .bad h1
  ·rename_i h1
   split at h
   ·cases h
   ·rename_i r1 h2;injection h with h;subst h;exact .step (adl.1 h1) (Cb h2)
theorem Jd {S:ae} {cu cg:Int} {x y:aj} (h:y∈ew S cu cg x):y.dir=x.no:=by
 unfold ew at h;split at h
 ·rw [adr]at h
  obtain⟨z,_,rfl⟩:=h;rfl
 ·cases h
theorem eP.Vm {α:Type} {R:gJ α} {w:World} {b:Nat} {l:List α} (h:Has w b (.cells (R.cells l).toArray R.t)):eP R w (some ⟨b,0,none⟩) l:=.inr ⟨b,0,rfl,h.lt,fun i hi j hj=>by rw[Nat.zero_add,h.cell,gA];exact R.sw l i hi j hj⟩
theorem Cc {c:Nat} {S:ae} (h:dy c S) (hn:bj S) (hl:pP S) {r:Int->Nat} (hr:ul S r) {t:List im} {bc:List Int} {l:List NM} (hd:iC S t bc l):(∀x∈t,oB S r x)->∀y∈l,y.path.length<=300*(S.nodes.length+2):=by
 induction hd with
 | nil=>intro _ y hy;cases hy
 | none _ _ ih=>intro hp y hy;exact ih (fun x hx=>hp x (adi _ hx)) y hy
 | @step x t bc l _ _ ih =>
  intro hp y hy;rcases ads.1 hy with rfl|hy
  ·exact (hp x (adk ..)).1
  ·refine ih (fun z hz=>?_) y hy
   rcases adm.1 hz with hz|hz
   ·exact tc h hn hl hr (hp x (adk ..)) z hz
   ·exact hp z (adi _ hz)
def SI (S:ae) (w:World) (e:Ending) (w':World):Prop:=∃(dir:Int) (nm:List UInt8) (is:Bool),e=.returned (.tuple #[.int .i64 dir,bs nm,.bool is])/\nm.length<=255/\(is=true->nm≠[]/\∃p,(dV S 0 0 p false).2=0/\(dV S 0 0 p false).1.dir=dir/\(dV S 0 0 p false).1.name=nm)/\Ext w w'
theorem NY {w:World} {B:Nat} {f:cI} {s:av} (h:RS w B f s) (k:jk 140 s.t) (a:Int) :
  Calls Tryz.prog 13 #[.pointer (some ⟨f.bF,0,none⟩),.int .i64 a] w (SI s.t w):=by
 obtain⟨rows,r,hB,hl,hr,hp⟩:=Ep k;have KR:=zH (Ja h k rows hB hl hr hp);have hpl:=Cc k.iB.fE k.iB.JF k.iB.kids.up hr hB (fun x hx=>by rw[ado]at hx;subst hx;exact hp);have lM:s.t.nodes.length<=200:=by have:=k.iB.fE.count;have:=k.iB.last;omega
 obtain⟨Xt,F⟩:=h.Sh;have KP:Hid (∀(u:World) (p:List UInt8),Ext w u->p.length<=1000000->Calls Tryz.prog 40 #[.pointer (some ⟨f.bF,0,none⟩),.agg #[.int .i64 0,.int .i64 0],bs p,.bool false] u (iT u (dV s.t 0 0 p false))):=fun u p hu hp=>sY B f s.t Xt 0 0 p false u (F.ext hu) k.iB.fE (by omega) (by have:=k.iB.last;omega) hp
 have JG:=zH hpl;have HL:=zH hl;clear h F hB hl hr hp hpl;go_enter Tryz.func13,Tryz.ntmps13;go_wp2_with fail;refine KR.out.mono ?_;rintro e w1 ⟨v,rfl,hO,hE⟩;obtain ⟨A,cap,rfl,_,_,hat,_⟩:=hO.at_;obtain⟨n,hn⟩:=zE rows.length;rw [<-hn];have HN:=zH hn;have JE:=zH hat;have HE:=zH hE;clear KR hO hE hn hat
 by_cases h2:(n:Int)<2
 case pos =>
  have t2:decide ((n:Int)<2)=true:=decide_eq_true h2;clear h2;go_wp2_with fail;refine bodyPost_ret (v:=.tuple #[.int .i64 1,.string ⟨#[110,111,110,101]⟩,.bool false]) (by simp[results,Tryz.results13,go_sem]) rfl ?_;exact ⟨1,[110,111,110,101],false,rfl,by decide,(fun h=>by cases h),HE.out⟩
 case neg =>
  have t2:decide ((n:Int)<2)=false:=decide_eq_false h2;obtain ⟨d,hd⟩:∃d,n=d+1:=⟨n-1,by omega⟩;have RJ:1<=d:=by omega
  have lr:d<=200:=by have:=HL.out;have:=HN.out;omega
  subst hd;obtain ⟨q,hq⟩:∃q:Nat,((q:Nat):Int)=a % 18446744073709551616 % (d:Int):=⟨(a % 18446744073709551616 % (d:Int)).toNat,adS (Int.emod_nonneg _ (by omega))⟩;have hqd:q<d:=by have:=Int.emod_lt_of_pos (a % 18446744073709551616) (show (0:Int)<d by omega);omega
  have y1:(IntKind.u64.wrap a).tmod (d:Int)=(q:Int):=by
   rw[qo,Int.tmod_eq_emod_of_nonneg (Int.emod_nonneg _ (by decide)),hq]
  have y2:IntKind.u64.wrap (d:Int)=(d:Int):=by rw[qo];omega
  have y3:IntKind.i64.wrap (((d+1:Nat):Int)-1)=(d:Int):=by rw[adw _ (by omega)];omega
  have y3':IntKind.i64.wrap ((d:Int)+1-1)=(d:Int):=by rw[adw _ (by omega)];omega
  have y4:IntKind.i64.wrap (q:Int)=(q:Int):=adw _ (by omega);obtain⟨j,hj⟩:=zE (1+q);have y5:IntKind.i64.wrap (1+(q:Int))=(j:Int):=by rw[adw _ (by omega)];omega
  have y6:(0:Int)<=(j:Int):=adE _;have y7:(j:Int)<(d:Int)+1:=by omega
  have y8:((d:Int) == 0)=false:=by simp;omega
  have y9:(d:Int)≠0:=by omega
  have hjl:j<rows.length:=by have:=HN.out;omega
  obtain ⟨g,o,rfl,hg,hc⟩:∃b o,A=some ⟨b,o,none⟩/\b<w1.heap.size/\w1.cell? ⟨b,o+j*10,none⟩=some (.string (bs rows[j].path)):=by
   rcases JE.out with h|⟨b,o,hA,hb,hc⟩
   ·rw[h]at hjl;cases hjl
   ·exact⟨b,o,hA,hb,hc j hjl 0 (by decide)⟩
  have hpj:=JG.out rows[j] (List.getElem_mem hjl);obtain⟨p,hp⟩:=zE (rows[j].path);rw [<-hp]at hc hpj;obtain⟨R,hR⟩:=zE (dV s.t 0 0 p false);have KF:=KP.out w1 p HE.out (by omega);rw [<-hR]at KF;have FV:Hid (Calls Tryz.prog 40 #[.pointer (some ⟨f.bF,0,none⟩),.agg #[.int .i64 0,.int .i64 0],bs p,.bool false] w1 (aI w1 (.tuple #[.agg #[.int .i64 R.1.dir,bs R.1.name,R.1.no,.bool R.1.fR],.int .i64 R.2]))):=KF;have zI:=zH hR;have jA:Hid (R.1.name.length<=255):=by show _<=_;rw[hR];exact kN _ _ _ _ _
  clear h2 hq hqd hj hjl hp hpj KF hR RJ;go_wp2_with fail;refine FV.out.mono ?_;rintro e w2 ⟨rfl,b2⟩;go_upto_region 5 with fail;obtain ⟨W3,cj⟩:∃W,W=w2.alloc (.cells #[.int .i64 R.1.dir,bs R.1.name,R.1.no,.bool R.1.fR] 82):=⟨_,rfl⟩;obtain ⟨b8,fM⟩:∃b,b=w2.heap.size:=⟨_,rfl⟩;have E3:Ext w1 W3:=by rw[cj];exact b2.alloc _
  have X3:Has W3 b8 (.cells #[.int .i64 R.1.dir,bs R.1.name,R.1.no,.bool R.1.fR] 82):=by rw[cj,fM];exact Has.new _ _
  rw [<-cj,<-fM];clear cj fM b2 hc y1 y2 y3 y3' y4 y5 y6 y7 y8 y9 hg t2 FV;have x0:=X3.cell 0;have x1:=X3.cell 1;have xz:=X3.lt;simp only[gA,gB,gC]at x0 x1;obtain ⟨t0,_,_,t3⟩:=ig (p:=R.1.name);obtain⟨P,hP⟩:=zE (bs R.1.name);rw [<-hP]at x1 t0 t3;have HPP:=zH hP;clear hP X3;have fin:Hid (∀(is:Bool) (u:World),Ext W3 u->(is=true->R.2=0/\R.1.name≠[])->SI s.t w (.returned (.tuple #[.int .i64 R.1.dir,.string P,.bool is])) u):=by
   show ∀_ _,_;intro is u hu hi;refine ⟨R.1.dir,R.1.name,is,by rw[HPP.out],jA.out,fun Ih=>?_,HE.out.trans (E3.trans hu)⟩;obtain ⟨h5,h6⟩:=hi Ih;exact ⟨h6,p,by rw[<-zI.out];exact h5,by rw[<-zI.out],by rw[<-zI.out]⟩
  by_cases h5:R.2=0
  case neg =>
   have t5:(R.2 == 0)=false:=by simpa using h5
   clear h5;go_quiet (fail);go_wp2_with fail;go_ret3;exact fin.out false _ ((Ext.refl _).drewN nq) (fun h=>by cases h)
  case pos =>
   have t5:(R.2 == 0)=true:=by simpa using h5
   have H5:=zH h5
   by_cases h6:R.1.name=[]
   ·have t6:(R.1.name == [])=true:=by rw[h6];rfl
    rw[t6]at t0 t3;clear h5 h6 t6;go_quiet (fail);go_wp2_with fail;go_ret3;exact fin.out false _ ((Ext.refl _).drewN nq) (fun h=>by cases h)
   ·have t6:(R.1.name == [])=false:=by simpa using h6
    have H6:=zH h6;rw [t6]at t0 t3;clear h5 h6 t6;go_quiet (fail);go_wp2_with fail;go_ret3;exact fin.out true _ ((Ext.refl _).drewN nq) (fun _=>⟨H5.out,H6.out⟩)
theorem oz.ext {w w':World} {x:oy} {cs:Array Value} (h:oz w x cs) (E:Ext w w'):oz w' x cs:=by
 obtain⟨Am,cm,Ai,ci,Ap,cp,h0,h1,h2,h3,h4⟩:=h;exact ⟨Am,cm,Ai,ci,Ap,cp,h0,h1.ext E,h2.ext E,h3.ext E,h4⟩
theorem zt {x:oy} (h:I2 x):jk 140 (gp x.ms x.is)/\eH 140 ⟨gp x.ms x.is,0,0,x.plan,false⟩:=by
 have k:=xQ h.1.1.1 h.1.1.2;refine ⟨k,k.iB.fE,k.iB.JF,k.iB.last,adF _,by show (0:Int)<=_;omega,?_⟩;have:=h.2.2;show x.plan.length<=1000;omega
theorem dw.lies {w:World} {base:Nat} {v:Value} {l:List aj} (h:dw w base v l):∃A cap,v=.slice A l.length cap/\iO w A l/\l.length<=cap:=by
 obtain⟨A,cap,h1,h2,_,h3,_⟩:=h.at_;exact ⟨A,cap,h1,h3,h2⟩
def FX (s:av) (x:aj):lG:=if (ac s.t.nodes x.no).kind=1 then .lY x.dir x.name else .unlink x.dir x.name
def jE (s:av) (cu cg:Int) (x:aj):Int:=if fk s (cT s.t x.no)≠0 then fk s (cT s.t x.no) else zJ s cu cg (FX s x)
def iI (s:av) (cu cg:Int) (x:aj):av:=if fk s (cT s.t x.no)≠0 then s else ww s cu cg (FX s x)
inductive oX (cu cg:Int):av->List aj->av->Int->List (aj×Int)->Nat->Prop
 | nil (s):oX cu cg s [] s 0 [] 0
 | bad {s x t}:jP s cu cg x≠0->oX cu cg s (x::t) s (jP s cu cg x) [(x,jP s cu cg x)] 1
 | kids {s x t s1 e L k}:jP s cu cg x=0->oX cu cg s (nr s cu cg x) s1 e L k->e≠0->oX cu cg s (x::t) s1 e L (k+1)
 | one {s x t s1 L k}:jP s cu cg x=0->oX cu cg s (nr s cu cg x) s1 0 L k->jE s1 cu cg x≠0->oX cu cg s (x::t) (iI s1 cu cg x) (jE s1 cu cg x) (L++[(x,0)]) (k+2)
 | step {s x t s1 L k s2 e L2 k2}:jP s cu cg x=0->oX cu cg s (nr s cu cg x) s1 0 L k->jE s1 cu cg x=0->oX cu cg (iI s1 cu cg x) t s2 e L2 k2->oX cu cg s (x::t) s2 e (L++(x,0)::L2) (k+2+k2)
def lC (cu cg:Int) (s:av) (pre:List (aj×Int)):av:=pre.foldl (fun s x=>iI s cu cg x.1) s
def zM (cu cg:Int):av->List (aj×Int)->Prop
 | _,[]=>True
 | s,x::l=>jE s cu cg x.1=0/\zM cu cg (iI s cu cg x.1) l
theorem jS (cu cg:Int) (s:av) (a b:List (aj×Int)):lC cu cg s (a++b)=lC cu cg (lC cu cg s a) b:=by unfold lC;rw[List.foldl_append]
theorem gV (cu cg:Int) (s:av) (a b:List (aj×Int)):zM cu cg s (a++b)↔zM cu cg s a/\zM cu cg (lC cu cg s a) b:=by
 induction a generalizing s with
 | nil=>exact⟨fun h=>⟨trivial,h⟩,fun h=>h.2⟩
 | cons x a ih =>
  show _/\zM cu cg (iI s cu cg x.1) (a++b)↔(_/\_)/\_;rw [ih];exact and_assoc.symm
def tD (cu cg:Int) (s:av) (L:List (aj×Int)) (s':av) (e:Int):Prop:=
 (e=0/\zM cu cg s L/\lC cu cg s L=s'/\∀y∈L,y.2=0) \/
 (e≠0/\∃q y,L=q++[y]/\zM cu cg s q/\(∀z∈q,z.2=0)/\((y.2=e/\s'=lC cu cg s q)\/(y.2=0/\jE (lC cu cg s q) cu cg y.1=e/\s'=iI (lC cu cg s q) cu cg y.1)))
theorem tD.pre {cu cg:Int} {s s':av} {P L:List (aj×Int)} {e:Int} (hg:zM cu cg s P) (hz:∀y∈P,y.2=0) (h:tD cu cg (lC cu cg s P) L s' e):tD cu cg s (P++L) s' e:=by
 rcases h with⟨h0,h1,h2,h3⟩|⟨h0,q,y,h1,h2,h3,h4⟩
 ·refine .inl ⟨h0,(gV ..).2 ⟨hg,h1⟩,by rw[jS];exact h2,fun y hy=>?_⟩
  rcases adm.1 hy with hy|hy
  ·exact hz y hy
  ·exact h3 y hy
 ·refine .inr ⟨h0,P++q,y,by rw[h1,adN],(gV ..).2 ⟨hg,h2⟩,fun z hz2=>?_,by rw[jS];exact h4⟩
  rcases adm.1 hz2 with hz2|hz2
  ·exact hz z hz2
  ·exact h3 z hz2
theorem tD.zero {cu cg:Int} {s s':av} {L:List (aj×Int)} (h:tD cu cg s L s' 0):zM cu cg s L/\lC cu cg s L=s'/\∀y∈L,y.2=0:=by
 rcases h with⟨_,h⟩|⟨h,_⟩
 ·exact h
 ·exact absurd rfl h
theorem qV {cu cg:Int} {s s':av} {t:List aj} {e:Int} {L:List (aj×Int)} {k:Nat} (h:oX cu cg s t s' e L k):tD cu cg s L s' e:=by
 induction h with
 | nil s=>exact .inl ⟨rfl,trivial,rfl,fun y hy=>by cases hy⟩
 | bad h=>exact .inr ⟨h,[],_,rfl,trivial,fun z hz=>(by cases hz),.inl ⟨rfl,rfl⟩⟩
 | kids h1 _ h3 ih=>exact ih
 | @one s x t s1 L k h1 _ h3 ih =>
  obtain⟨g1,g2,g3⟩:=ih.zero;exact tD.pre g1 g3 (.inr ⟨h3,[],(x,0),rfl,trivial,fun z hz=>(by cases hz),.inr ⟨rfl,by rw[g2];rfl,by rw[g2];rfl⟩⟩)
 | @step s x t s1 L k s2 e L2 k2 h1 _ h3 _ ih Rh =>
  obtain⟨g1,g2,g3⟩:=ih.zero;have hx:tD cu cg s1 ([(x,0)]++L2) s2 e:=tD.pre ⟨h3,trivial⟩ (fun y hy=>by rw[ado]at hy;subst hy;rfl) Rh;exact tD.pre g1 g3 (by rw[g2];exact hx)
theorem Et {cu cg:Int} {s s':av} {t:List aj} {e:Int} {L:List (aj×Int)} {k:Nat} (h:oX cu cg s t s' e L k) :
  ∀ (s0:av) (pre:List (aj×Int)) (x:aj) (way:List (aj×List aj)) (m:Nat) (Lr:List (aj×Int)),lC cu cg s0 pre=s ->
   (e=0->DU (lC cu cg s0) (zM cu cg s0) cu cg (pre++L) ((x,[])::way) m Lr) ->
   ∃ M,DU (lC cu cg s0) (zM cu cg s0) cu cg pre ((x,t)::way) M (L++if e=0 then Lr else [])/\M<=k+(if e=0 then m else 0):=by
 induction h with
 | nil s =>
  intro s0 pre x way m Lr hs hr;rw [acg rfl,acg rfl];refine ⟨m,?_,by omega⟩;have:=hr rfl;rw [adv]at this;exact this
 | @bad s y t h =>
  intro s0 pre x way m Lr hs hr;rw [abi h,abi h,adv,<-hs];exact ⟨0+1,.bad (by rw[hs];exact h),by omega⟩
 | @kids s y t s1 e L k h1 hk h3 ih =>
  intro s0 pre x way m Lr hs hr;obtain ⟨M,g1,g2⟩:=ih s0 pre y ((x,t)::way) 0 [] hs (fun he=>absurd he h3);rw [abi h3]at g1 g2|-;rw [abi h3];rw [<-hs]at g1;exact ⟨M+1,.push (by rw[hs];exact h1) g1,by omega⟩
 | @one s y t s1 L k h1 hk h3 ih =>
  intro s0 pre x way m Lr hs hr;have hst:lC cu cg s0 (pre++L)=s1:=by rw[jS,hs];exact (qV hk).zero.2.1
  obtain ⟨M,g1,g2⟩:=ih s0 pre y ((x,t)::way) (0+1) [(y,0)] hs (fun _=>.take fun hgo=>by
   have:=((gV ..).1 hgo).2.1;rw [hst]at this;exact absurd this h3)
  rw[acg rfl]at g1 g2;rw [abi h3,abi h3,adv];rw [<-hs]at g1;exact ⟨M+1,.push (by rw[hs];exact h1) g1,by omega⟩
 | @step s y t s1 L k s2 e L2 k2 h1 hk h3 h4 ih Rh =>
  intro s0 pre x way m Lr hs hr;have hst:lC cu cg s0 (pre++L)=s1:=by rw[jS,hs];exact (qV hk).zero.2.1
  have wA:lC cu cg s0 (pre++L++[(y,0)])=iI s1 cu cg y:=by rw[jS,hst];rfl
  obtain ⟨M2,g3,g4⟩:=Rh s0 (pre++L++[(y,0)]) x way m Lr wA (fun he=>by
   have:=hr he;rw [show pre++L++[(y,0)]++L2=pre++(L++(y,0)::L2) by simp];exact this)
  obtain⟨M,g1,g2⟩:=ih s0 pre y ((x,t)::way) (M2+1) ((y,0)::(L2++if e=0 then Lr else [])) hs (fun _=>.take fun _=>g3);rw [acg rfl]at g1 g2;rw [<-hs]at g1;refine ⟨M+1,?_,by omega⟩;rw [show L++(y,0)::L2++(if e=0 then Lr else [])=L++(y,0)::(L2++if e=0 then Lr else []) by simp];exact .push (by rw[hs];exact h1) g1
def qW (s:av) (cu cg dir:Int) (nm:List UInt8) (s':av) (e:Int) (L:List (aj×Int)) (k:Nat):Prop:=
 (dp s cu cg dir nm≠0/\s'=s/\e=dp s cu cg dir nm/\L=[(cO s cu cg dir nm,e)])\/(dp s cu cg dir nm=0/\oX cu cg s [cO s cu cg dir nm] s' e L k)
theorem qW.NZ {s s':av} {cu cg dir:Int} {nm:List UInt8} {e:Int} {L:List (aj×Int)} {k:Nat} (h:qW s cu cg dir nm s' e L k):tD cu cg s L s' e:=by
 rcases h with⟨h1,rfl,rfl,rfl⟩|⟨_,h⟩
 ·exact .inr ⟨h1,[],_,rfl,trivial,fun z hz=>(by cases hz),.inl ⟨rfl,rfl⟩⟩
 ·exact qV h
theorem qW.up {s s':av} {cu cg dir:Int} {nm:List UInt8} {e:Int} {L:List (aj×Int)} {k:Nat} (h:qW s cu cg dir nm s' e L k):∃M,UpT (lC cu cg s) (zM cu cg s) cu cg dir nm M L/\M<=k:=by
 rcases h with⟨h1,rfl,rfl,rfl⟩|⟨h1,h⟩
 ·exact⟨0,.inl ⟨h1,rfl⟩,adA _⟩
 ·have e0:lC cu cg s []=s:=rfl
  cases h with
  | bad h2=>exact⟨0,.inr (.inl ⟨h1,h2,rfl⟩),adA _⟩
  | kids h2 hk h3 =>
   obtain⟨M,g1,g2⟩:=Et hk s [] (cO s cu cg dir nm) [] 0 [] rfl (fun he=>absurd he h3);rw [abi h3,adv]at g1;rw [abi h3]at g2;exact ⟨M,.inr (.inr ⟨h1,h2,g1⟩),by omega⟩
  | one h2 hk h3 =>
   have hst:=(qV hk).zero.2.1;obtain ⟨M,g1,g2⟩:=Et hk s [] (cO s cu cg dir nm) [] (0+1) [(cO s cu cg dir nm,0)] rfl (fun _=>.take fun hgo=>by
    have:=((gV ..).1 hgo).2.1;rw [adB,hst]at this;exact absurd this h3)
   rw[acg rfl]at g1 g2;exact ⟨M,.inr (.inr ⟨h1,h2,g1⟩),by omega⟩
  | step h2 hk h3 h4 =>
   cases h4
   obtain⟨M,g1,g2⟩:=Et hk s [] (cO s cu cg dir nm) [] (0+1) [(cO s cu cg dir nm,0)] rfl (fun _=>.take fun hgo=>.nil _);rw [acg rfl]at g1 g2;exact ⟨M,.inr (.inr ⟨h1,h2,g1⟩),by omega⟩
structure Left (S0 S:ae):Prop where
 mem:∀m∈S.nodes,∃m'∈S0.nodes,m'.no=m.no/\m.kind=m'.kind/\m.up=m'.up/\m.dev=m'.dev/\m.mode=m'.mode/\m.uid=m'.uid/\m.gid=m'.gid/\m.data=m'.data/\∀x∈m.af,x∈m'.af
 over:∀no,ar S.ah no=ar S0.ah no
theorem Left.refl (S:ae):Left S S:=⟨fun m hm=>⟨m,hm,rfl,rfl,rfl,rfl,rfl,rfl,rfl,rfl,fun _ h=>h⟩,fun _=>rfl⟩
theorem Left.trans {A B C:ae} (h:Left A B) (k:Left B C):Left A C:=by
 refine⟨fun m hm=>?_,fun no=>(k.over no).trans (h.over no)⟩;obtain ⟨b,hb,b1,b2,b3,b4,b5,b6,b7,b8,b9⟩:=k.mem m hm;obtain ⟨a,ha,a1,a2,a3,a4,a5,a6,a7,a8,a9⟩:=h.mem b hb;exact ⟨a,ha,a1.trans b1,b2.trans a2,b3.trans a3,b4.trans a4,b5.trans a5,b6.trans a6,b7.trans a7,b8.trans a8,fun x hx=>a9 x (b9 x hx)⟩
theorem ZL (ds:List eB) (d:Int) (q:dB) (no:Int):ar (ir ds d q) no=ar ds no:=by
 unfold ar ir;have key:∀(l:List eB) (k:Nat),(match (l.modify k fun x=>{x with q:=q}).find? (fun d=>d.over == no) with|some d=>d.root|none=>no)=(match l.find? (fun d=>d.over == no) with|some d=>d.root|none=>no):=by
  intro l
  induction l with
  | nil=>intro k;cases k<;>rfl
  | cons a l ih =>
   intro k
   cases k with
   | zero =>
    rw[List.modify_zero_cons,adx,adx]
    cases a.over == no<;>rfl
   | succ k =>
    rw[List.modify_succ_cons,adx,adx]
    cases a.over == no
    ·exact ih k
    ·rfl
 split
 ·exact key _ _
 ·rfl
theorem Je {S:ae} {now dir no:Int} {nm:List UInt8} (hi:aJ S.nodes dir=true) (kC:aJ S.nodes no=true):Left S (eN S now (ac S.nodes dir) (ac S.nodes no) nm):=by
 obtain ⟨_,jB,il⟩:=ak hi;obtain ⟨_,aW,hmem⟩:=ak kC;obtain ⟨M,hM⟩:∃M:ai,M=eL S (ac S.nodes dir).no now (cX (ac S.nodes dir).af nm):=⟨_,rfl⟩;have key:∀m∈(aE (aE S M) (fu now (ac S.nodes no))).nodes,∃m'∈S.nodes,m'.no=m.no/\m.kind=m'.kind/\m.up=m'.up/\m.dev=m'.dev/\m.mode=m'.mode/\m.uid=m'.uid/\m.gid=m'.gid/\m.data=m'.data/\∀x∈m.af,x∈m'.af:=fun m hm=>by
  rcases aQ hm with⟨hm,_⟩|rfl
  ·rcases aQ hm with⟨hm,_⟩|rfl
   ·exact⟨m,hm,rfl,rfl,rfl,rfl,rfl,rfl,rfl,rfl,fun _ h=>h⟩
   ·refine ⟨_,il,?_⟩
    rw[hM,jB];exact ⟨jB.symm,rfl,rfl,rfl,rfl,rfl,rfl,rfl,fun x hx=>(jO hx).1⟩
  ·exact⟨_,hmem,rfl,rfl,rfl,rfl,rfl,rfl,rfl,rfl,fun _ h=>h⟩
 have k2:Left S (aE (aE S M) (fu now (ac S.nodes no))):=⟨key,fun _=>rfl⟩;unfold eN bR;rw [<-hM];unfold ju;split
 ·unfold gK
  split
  ·exact⟨fun m hm=>key m (dJ hm).1,fun no'=>ZL _ _ _ _⟩
  ·exact k2
 ·exact k2
theorem qX {S:ae} {cu cg dir:Int} {nm:List UInt8} (h:ct S cu cg dir nm=0):aJ S.nodes dir=true/\aJ S.nodes (aK (ac S.nodes dir).af nm)=true/\dF S cu cg dir nm=ac S.nodes dir/\cv S cu cg dir nm=ac S.nodes (aK (ac S.nodes dir).af nm):=by
 obtain⟨z1,z2,_,z4,z5⟩:=eD h;exact ⟨(aT z1).1,z2,z4,z5⟩
theorem wK {S:ae} {cu cg dir:Int} {nm:List UInt8} (h:eR S cu cg dir nm=0):ct S cu cg dir nm=0:=by
 unfold eR at h;split at h
 ·rename_i h1;exact absurd h h1
 ·rename_i h1;exact adl.1 h1
theorem zu {S:ae} {cu cg dir:Int} {nm:List UInt8} (h:gi S cu cg dir nm=0):ct S cu cg dir nm=0:=by
 unfold gi at h;split at h
 ·rename_i h1;exact absurd h h1
 ·rename_i h1;exact adl.1 h1
theorem Ri {s:av} {cu cg:Int} {x:aj} (h:fQ s.t cu cg s.now (FX s x)=0):ct s.t cu cg x.dir x.name=0/\cM s.t cu cg s.now (FX s x)=eN s.t s.now (ac s.t.nodes x.dir) (ac s.t.nodes (aK (ac s.t.nodes x.dir).af x.name)) x.name:=by
 unfold FX at h|-;split at h
 ·rename_i hk
  rw[acg hk];have h':gi s.t cu cg x.dir x.name=0:=h;have hl:=zu h';obtain ⟨_,_,z4,z5⟩:=qX hl;refine ⟨hl,?_⟩;show gI s.t cu cg s.now x.dir x.name=_;unfold gI;rw [acg h',z4,z5]
 ·rename_i hk
  rw[abi hk];have h':eR s.t cu cg x.dir x.name=0:=h;have hl:=wK h';obtain ⟨_,_,z4,z5⟩:=qX hl;refine ⟨hl,?_⟩;show eS s.t cu cg s.now x.dir x.name=_;unfold eS;rw [acg h',z4,z5]
theorem FY (s:av):(Hq s).t=s.t/\(Hq s).plan=s.plan/\(Hq s).now=s.now:=by unfold Hq;split<;>exact⟨rfl,rfl,rfl⟩
structure Pl (c:Nat) (s:av):Prop where
 iB:fI c s.t
 c0:0<=s.count
 c1:s.count<=c
 plan:s.plan.length<=1000
theorem Pl.jR {c:Nat} {s:av} (h:Pl c s):eH c s:=⟨h.iB.fE,h.iB.JF,h.iB.last,h.c0,h.c1,h.plan⟩
theorem Pl.mono {c d:Nat} {s:av} (h:Pl c s) (FB:c<=d):Pl d s:=⟨h.iB.mono FB,h.c0,by have:=h.c1;omega,h.plan⟩
theorem Pl.go {c:Nat} {s:av} (h:Pl c s):Pl (c+1) (Hq s):=by
 have:=h.c0;have:=h.c1;refine ⟨by rw[(FY s).1];exact h.iB.mono (by omega),?_,?_,by rw[(FY s).2.1];exact h.plan⟩<;>unfold Hq<;>split
 ·omega
 ·show 0<=s.count+1;omega
 ·omega
 ·show s.count+1<=((c+1:Nat):Int);omega
theorem Pl.oc {c:Nat} {s:av} (h:Pl c s) (cu cg:Int) (x:lG) (hx:∀fr a gN b,x≠.rename fr a gN b):Pl (c+1) (ww s cu cg x):=by
 unfold ww;split
 ·exact h.go
 ·have:=h.go
  exact⟨h.iB.oc _ _ _ _ hx,this.c0,this.c1,this.plan⟩
theorem N_ (s:av) (x:aj):∀fr a gN b,FX s x≠.rename fr a gN b:=by
 intro fr a gN b;unfold FX;split<;>exact fun e=>by cases e
theorem Pl.one {c:Nat} {s:av} (h:Pl c s) (cu cg:Int) (x:aj):Pl (c+1) (iI s cu cg x):=by
 unfold iI;split
 ·exact h.mono (by omega)
 ·exact h.oc cu cg _ (N_ s x)
theorem Cd {ns:List ai} (hp:ns.Pairwise (fun a b=>a.no<b.no)) {n:ai} (hi:aJ ns n.no=true) (hle:n.af.length<(ac ns n.no).af.length):ma (bQ ns n)<ma ns:=by
 induction ns with
 | nil=>cases hi
 | cons a ns ih =>
  rw[adT]at hp
  by_cases he:a.no=n.no
  ·have h1:bQ ns n=ns:=sy fun m hm=>by have:=hp.1 m hm;omega
   have h2:ac (a::ns) n.no=a:=by unfold ac eF;rw[adx];simp[he]
   have h3:bQ (a::ns) n=n::bQ ns n:=by unfold bQ;rw[adn,acg (by simpa using he)]
   rw[h3,h1];rw [h2]at hle;unfold ma;rw [adn,adq,adn,adq];omega
  ·have h2:ac (a::ns) n.no=ac ns n.no:=by
    unfold ac eF;rw [adx];have:(a.no == n.no)=false:=by simpa using he
    rw[this]
   have h3:bQ (a::ns) n=a::bQ ns n:=by unfold bQ;rw[adn,abi (by simpa using he)]
   have po:aJ ns n.no=true:=by
    cases hb:aJ ns n.no with
    | true=>rfl
    | false =>
     rw[h2,(aU hb).1]at hle;exact absurd hle (Nat.not_lt_zero _)
   rw[h2]at hle;have:=ih hp.2 po hle;rw [h3];unfold ma at this|-;rw [adn,adq,adn,adq];omega
theorem Oa (ns:List ai) (no:Int):ma (fl ns no)<=ma ns:=by
 unfold fl
 induction ns with
 | nil=>exact adj _
 | cons a ns ih =>
  rw[adG];split
  ·unfold ma at ih|-
   rw[adn,adq,adn,adq];omega
  ·unfold ma at ih|-
   rw[adn,adq];omega
theorem Ob {l:List ay} {nm:List UInt8} {x:ay} (hx:x∈l) (he:x.1=nm):(cX l nm).length<l.length:=yp (by unfold has;rw[List.any_eq_true];exact⟨x,hx,by simpa using he⟩)
theorem Oc {c:Nat} {S:ae} (h:dy c S) {cu cg now dir:Int} {nm:List UInt8} (hl:ct S cu cg dir nm=0):aY (eN S now (ac S.nodes dir) (ac S.nodes (aK (ac S.nodes dir).af nm)) nm)<aY S:=by
 obtain⟨hi,kC,_⟩:=qX hl;obtain ⟨_,jB,il⟩:=ak hi;obtain⟨no,hn⟩:=zE (aK (ac S.nodes dir).af nm);rw [<-hn]at kC|-;obtain ⟨_,aW,hmem⟩:=ak kC;have hpos:=(h.bc.2 _ hmem).1;rw [aW]at hpos;obtain ⟨x,hx,sI,tI⟩:=nY (l:=(ac S.nodes dir).af) (nm:=nm) (by rw[<-hn];omega);have hK:=h.yJ _ il x hx;rw [tI,<-hn,jB]at hK;have hnd:no≠dir:=hK.1;obtain ⟨M,hM⟩:∃M:ai,M=eL S (ac S.nodes dir).no now (cX (ac S.nodes dir).af nm):=⟨_,rfl⟩;have j7:M.no=dir:=by rw[hM,jB];exact jB
 have CG:M.af=cX (ac S.nodes dir).af nm:=by rw[hM];rfl
 have a1:aY (aE S M)<aY S:=by
  refine Cd h.bc.1 (by rw[j7];exact hi) ?_;rw [j7,CG];exact Ob hx sI
 have a2:aY (aE (aE S M) (fu now (ac S.nodes no)))<=aY (aE S M):=by
  have e1:(fu now (ac S.nodes no)).no=no:=aW;have e2:ac (aE S M).nodes no=ac S.nodes no:=oL (by rw[j7];exact hnd);have:=qM (S:=aE S M) (n:=fu now (ac S.nodes no)) (d:=0) (h.bc.set _) (by rw[e1,e2];exact adj _);omega
 unfold eN bR;rw [<-hM];unfold ju;split
 ·unfold gK
  split
  ·exact Nat.lt_of_le_of_lt (Nat.le_trans (Oa _ _) a2) a1
  ·omega
 ·omega
theorem Ce {s:av} {cu cg:Int} {x:aj} (h:jE s cu cg x=0):s.dead=false/\aJ s.t.nodes x.no=true/\Bd s=0/\fQ s.t cu cg s.now (FX s x)=0/\iI s cu cg x={s with count:=s.count+1,t:=eN s.t s.now (ac s.t.nodes x.dir) (ac s.t.nodes (aK (ac s.t.nodes x.dir).af x.name)) x.name}/\ct s.t cu cg x.dir x.name=0:=by
 unfold jE at h;split at h
 ·rename_i h1;exact absurd h h1
 rename_i h1;have h1':=adl.1 h1;have hst:s.dead=false/\aJ s.t.nodes x.no=true:=by
  rcases d_ s x.no with⟨_,h2⟩|⟨h2,_⟩
  ·exact h2
  ·exact absurd h1' h2
 unfold zJ at h;split at h
 ·rename_i h2;exact absurd h h2
 rename_i h2;have kK:=adl.1 h2;obtain ⟨g1,g2⟩:=Ri h;refine ⟨hst.1,hst.2,kK,h,?_,g1⟩;unfold iI ww;rw [abi h1,abi h2,g2,(lZ kK).2]
theorem Cf {c:Nat} {s:av} (h:Pl c s) (cu cg:Int) (L:List (aj×Int)) (hg:zM cu cg s L):Pl (c+L.length) (lC cu cg s L)/\L.length+aY (lC cu cg s L).t<=aY s.t:=by
 induction L generalizing s c with
 | nil=>exact⟨h,by show 0+aY s.t<=aY s.t;omega⟩
 | cons x L ih =>
  obtain ⟨h1,h2⟩:=hg;obtain ⟨k1,k2⟩:=ih (h.one cu cg x.1) h2;have e:aY (iI s cu cg x.1).t<aY s.t:=by
   obtain⟨_,_,_,_,e1,e2⟩:=Ce h1;rw [e1];exact Oc h.iB.fE e2
  refine⟨k1.mono (by rw[adp];omega),?_⟩;rw [adp];have Dk:L.length+aY (lC cu cg s (x::L)).t<=aY (iI s cu cg x.1).t:=k2;omega
theorem oO {c:Nat} {s s':av} (h:Pl c s) {cu cg:Int} {L:List (aj×Int)} {e:Int} (hE:tD cu cg s L s' e):Pl (c+L.length) s'/\L.length<=1+aY s.t:=by
 rcases hE with⟨_,h1,rfl,_⟩|⟨_,q,y,rfl,h1,_,h2⟩
 ·obtain ⟨k1,k2⟩:=Cf h cu cg L h1
  exact⟨k1,by omega⟩
 ·obtain ⟨k1,k2⟩:=Cf h cu cg q h1
  rw[ady,List.length_singleton];refine ⟨?_,by omega⟩;rcases h2 with⟨_,rfl⟩|⟨_,_,rfl⟩
  ·exact k1.mono (by omega)
  ·exact (k1.one cu cg y.1).mono (by omega)
theorem ZM {cu cg:Int} {s s':av} {t:List aj} {e:Int} {L:List (aj×Int)} {k:Nat} (h:oX cu cg s t s' e L k):e=0->k=2*L.length:=by
 induction h with
 | nil=>intro _;rfl
 | bad h=>intro he;exact absurd he h
 | kids _ _ h3=>intro he;exact absurd he h3
 | one _ _ h3=>intro he;exact absurd he h3
 | step _ _ _ _ ih Rh =>
  intro he;have:=ih rfl;have:=Rh he;simp only[ady,adp];omega
def jy (no:Int) (n:ai):Nat:=(n.af.filter fun z=>z.2 == no).length
def iV (S:ae) (no:Int):Nat:=(S.nodes.map (jy no)).sum
structure Whole (S:ae):Prop where
 there:∀m∈S.nodes,∀z∈m.af,aJ S.nodes z.2=true
 ag:∀m∈S.nodes,(iV S m.no:Int)<=m.ag
 ft:∀m∈S.nodes,∀z∈m.af,bX z.1=0
theorem Rj (f:ai->Nat) {ns:List ai} (hp:ns.Pairwise (fun a b=>a.no<b.no)) {n:ai} (hi:aJ ns n.no=true):((bQ ns n).map f).sum+f (ac ns n.no)=(ns.map f).sum+f n:=by
 induction ns with
 | nil=>cases hi
 | cons a ns ih =>
  rw[adT]at hp
  by_cases he:a.no=n.no
  ·have h1:bQ ns n=ns:=sy fun m hm=>by have:=hp.1 m hm;omega
   have h2:ac (a::ns) n.no=a:=by unfold ac eF;rw[adx];simp[he]
   have h3:bQ (a::ns) n=n::bQ ns n:=by unfold bQ;rw[adn,acg (by simpa using he)]
   rw[h3,h1,h2,adn,adq,adn,adq];omega
  ·have hb:(a.no == n.no)=false:=by simpa using he
   have h2:ac (a::ns) n.no=ac ns n.no:=by unfold ac eF;rw[adx,hb]
   have h4:aJ (a::ns) n.no=aJ ns n.no:=by unfold aJ eF;rw[adx,hb]
   have h3:bQ (a::ns) n=a::bQ ns n:=by unfold bQ;rw[adn,abi (by simpa using he)]
   have:=ih hp.2 (h4▸hi);rw [h2,h3,adn,adq,adn,adq];omega
theorem Cg (f:ai->Nat) (ns:List ai) (no:Int):((fl ns no).map f).sum<=(ns.map f).sum:=by
 unfold fl
 induction ns with
 | nil=>exact adj _
 | cons a ns ih =>
  rw[adG];split
  ·rw[adn,adq,adn,adq];omega
  ·rw[adn,adq];omega
theorem Rk {S:ae} {m:ai} (hm:m∈S.nodes) {z:ay} (hz:z∈m.af):1<=iV S z.2:=by
 have h1:1<=jy z.2 m:=by
  have:z∈m.af.filter fun y=>y.2 == z.2:=adz.2 ⟨hz,by simp⟩
  exact List.length_pos_of_mem this
 have : jy z.2 m<=(S.nodes.map (jy z.2)).sum:=by
  clear h1 hz
  generalize S.nodes=ns at hm
  induction ns with
  | nil=>cases hm
  | cons a ns ih =>
   rw[adn,adq];rcases ads.1 hm with rfl|hm
   ·omega
   ·have:=ih hm;omega
 unfold iV;omega
theorem vR {S:ae} {no:Int} (h:∀m∈S.nodes,∀z∈m.af,z.2≠no):iV S no=0:=by
 unfold iV
 generalize S.nodes=ns at h
 induction ns with
 | nil=>rfl
 | cons a ns ih =>
  rw [adn,adq,ih fun m hm=>h m (adi _ hm)];have:a.af.filter (fun z=>z.2 == no)=[]:=by
   rw[List.filter_eq_nil_iff];intro z hz;have:=h a (adk ..) z hz;simpa using this
  unfold jy;rw [this];rfl
theorem mc {S:ae} (hu:aD S.nodes S.last) {n:ai} (hi:aJ S.nodes n.no=true) (k:Int):iV (aE S n) k+jy k (ac S.nodes n.no)=iV S k+jy k n:=Rj (jy k) hu.1 hi
theorem mM {S:ae} (h:Whole S) (hu:aD S.nodes S.last) {no:Int} (hi:aJ S.nodes no=true) {n:ai} (aW:n.no=no) (he:n.af=(ac S.nodes no).af) (hl:(ac S.nodes no).ag<=n.ag):Whole (aE S n):=by
 subst aW;obtain ⟨_,e1,hm0⟩:=ak hi;have hc:∀k,iV (aE S n) k=iV S k:=fun k=>by
  have h1:=mc hu hi k;have h2:jy k n=jy k (ac S.nodes n.no):=by unfold jy;rw[he]
  omega
 refine⟨fun m hm z hz=>?_,fun m hm=>?_,fun m hm z hz=>?_⟩
 rotate_left 2
 ·rcases aQ hm with⟨hm,_⟩|rfl
  ·exact h.ft m hm z hz
  ·exact h.ft _ hm0 z (by rw[<-he];exact hz)
 ·show aJ (bQ S.nodes n) z.2=true
  rw[iL];rcases aQ hm with⟨hm,_⟩|rfl
  ·exact h.there m hm z hz
  ·exact h.there _ hm0 z (by rw[<-he];exact hz)
 ·rw [hc]
  rcases aQ hm with⟨hm,_⟩|rfl
  ·exact h.ag m hm
  ·have:=h.ag _ hm0
   rw[e1]at this;omega
theorem Rl (l:List ay) (x:ay) (no:Int):((en l x).filter fun z=>z.2 == no).length<=(l.filter fun z=>z.2 == no).length+(if x.2=no then 1 else 0):=by
 have : ∀l:List ay,((jm l x.1).filter fun z=>z.2 == no).length+((jG l x.1).filter fun z=>z.2 == no).length<=(l.filter fun z=>z.2 == no).length:=by
  intro l
  induction l with
  | nil=>simp[jm,jG]
  | cons y l ih =>
   unfold jm jG at ih|-
   cases hb:bl y.1 x.1<;>cases hm:bl x.1 y.1<;>cases hp:(y.2 == no)
   all_goals first
    | (exfalso;have:=gu hb;rw[hm]at this;exact absurd this (by decide))
    | (simp only[adG,hb,hm,hp,Bool.false_eq_true,↓reduceIte,adp]at ih|-;omega)
 have:=this l;unfold en;rw [List.filter_append,List.filter_append,ady,ady];have h2:([x].filter fun z=>z.2 == no).length=if x.2=no then 1 else 0:=by
  rw[adG,List.filter_nil]
  by_cases h:x.2=no
  ·rw[acg (by simpa using h),acg h];rfl
  ·rw[abi (by simpa using h),abi h];rfl
 omega
theorem Od {ns:List ai} {n:ai} {no:Int} (h:aJ ns no=true\/n.no=no):aJ (ns++[n]) no=true:=by
 unfold aJ eF at *;rw [List.find?_append];rcases h with h|h
 ·cases hf:ns.find? (fun n=>n.no == no) with
  | none=>rw[hf]at h;cases h
  | some x=>rfl
 ·cases hf:ns.find? (fun n=>n.no == no) with
  | none=>simp[h]
  | some x=>rfl
theorem Eu (S:ae) (n:ai) (ds:List eB) (l:Int) (k:Int):iV ⟨S.nodes++[n],ds,l⟩ k=iV S k+jy k n:=by
 unfold iV;show ((S.nodes++[n]).map _).sum=_;rw [adH,List.sum_append];simp
theorem xV {c:Nat} {S:ae} (hT:dy c S) (h:Whole S) {n:ai} (ds:List eB) (aW:n.no=S.last+1) (he:n.af=[]) (hl:0<=n.ag):Whole ⟨S.nodes++[n],ds,S.last+1⟩/\∀k,iV ⟨S.nodes++[n],ds,S.last+1⟩ k=iV S k:=by
 have hc:∀k,iV ⟨S.nodes++[n],ds,S.last+1⟩ k=iV S k:=fun k=>by
  rw[Eu];have:jy k n=0:=by unfold jy;rw[he];rfl
  omega
 refine⟨⟨fun m hm z hz=>?_,fun m hm=>?_,fun m hm z hz=>?_⟩,hc⟩
 rotate_left 2
 ·rcases adm.1 hm with hm|hm
  ·exact h.ft m hm z hz
  ·rw [ado]at hm
   subst hm;rw [he]at hz;cases hz
 ·refine Od ?_
  rcases adm.1 hm with hm|hm
  ·exact .inl (h.there m hm z hz)
  ·rw [ado]at hm
   subst hm;rw [he]at hz;cases hz
 ·rw [hc]
  rcases adm.1 hm with hm|hm
  ·exact h.ag m hm
  ·rw [ado]at hm
   subst hm;have:iV S m.no=0:=vR fun q hq z hz=>by have:=(hT.pos q hq z hz).2;omega
   rw[this];exact hl
theorem xW {S:ae} (h:Whole S) (hu:aD S.nodes S.last) {dir now no:Int} {nm:List UInt8} {l:List ay} (hi:aJ S.nodes dir=true) (hl:l=(ac S.nodes dir).af) (hn:aJ S.nodes no=true) (hsp:(iV S no:Int)+1<=(ac S.nodes no).ag) (PX:bX nm=0):Whole (bR S dir now (en l (nm,no))):=by
 obtain⟨_,e1,hm0⟩:=ak hi;obtain ⟨_,e2,bU⟩:=ak hn;obtain⟨M,hM⟩:=zE (eL S dir now (en l (nm,no)));have j7:M.no=dir:=by rw[hM];exact e1
 have CG:M.af=en l (nm,no):=by rw[hM];rfl
 have Sj:M.ag=(ac S.nodes dir).ag:=by rw[hM];rfl
 show Whole (aE S (eL S dir now (en l (nm,no))));rw [<-hM];have hc:∀k,iV (aE S M) k<=iV S k+(if no=k then 1 else 0):=fun k=>by
  have h1:=mc hu (n:=M) (by rw[j7];exact hi) k;rw [j7]at h1;have h2:=Rl l (nm,no) k;have h3:jy k M=((en l (nm,no)).filter fun z=>z.2 == k).length:=by unfold jy;rw[CG]
  have h4:jy k (ac S.nodes dir)=(l.filter fun z=>z.2 == k).length:=by unfold jy;rw[hl]
  have h5:(if (nm,no).2=k then 1 else 0)=(if no=k then 1 else 0:Nat):=rfl;omega
 refine⟨fun m hm z hz=>?_,fun m hm=>?_,fun m hm z hz=>?_⟩
 rotate_left 2
 ·rcases aQ hm with⟨hm,_⟩|rfl
  ·exact h.ft m hm z hz
  ·rw [CG]at hz
   rcases iG hz with hz|rfl
   ·exact h.ft _ hm0 z (by rw[<-hl];exact hz)
   ·exact PX
 ·show aJ (bQ S.nodes M) z.2=true
  rw[iL];rcases aQ hm with⟨hm,_⟩|rfl
  ·exact h.there m hm z hz
  ·rw [CG]at hz
   rcases iG hz with hz|rfl
   ·exact h.there _ hm0 z (by rw[<-hl];exact hz)
   ·exact hn
 ·have h1:=hc m.no
  have key:∀q∈S.nodes,q.no=m.no->q.ag=m.ag->(iV (aE S M) m.no:Int)<=m.ag:=fun q hq a1 a2=>by
   have h2:=h.ag q hq;rw [a1,a2]at h2
   by_cases hk:no=m.no
   ·rw [acg hk]at h1
    have h3:ac S.nodes no=q:=ib hu bU hq (by rw[e2,hk,a1]);rw [h3,a2,hk]at hsp;omega
   ·rw [abi hk]at h1
    omega
  rcases aQ hm with⟨hm,_⟩|rfl
  ·exact key m hm rfl rfl
  ·exact key _ hm0 (e1.trans j7.symm) Sj.symm
theorem pS {S:ae} {c:Nat} (hT:dy c S) (h:Whole S) (cu cg now dir:Int) (nm:List UInt8) (n:ai) (hn:n.af=[]):Whole (bV S cu cg now dir nm n):=by
 unfold bV;split
 case isFalse=>exact h
 rename_i h0;obtain ⟨h1,_,h3⟩:=jN h0;obtain ⟨p1,p2,p3⟩:=aT h1;have nk:bB S (bZ S cu cg now dir n)=⟨S.nodes++[{bZ S cu cg now dir n with no:=S.last+1}],ir S.ah (bZ S cu cg now dir n).dev (aP (jn S.ah (bZ S cu cg now dir n).dev).q (bA (bZ S cu cg now dir n).kind (bZ S cu cg now dir n).data.length) 1),S.last+1⟩:=by unfold bB;rw[acg h3]
 have hg:=kL hT.bc (bZ S cu cg now dir n) p1;obtain ⟨N,hN⟩:∃N:ai,N={bZ S cu cg now dir n with no:=S.last+1}:=⟨_,rfl⟩;have MI:N.no=S.last+1:=by rw[hN]
 have hNe:N.af=[]:=by rw[hN];exact hn
 have Y6:N.ag=1:=by rw[hN];rfl
 rw[<-hN]at nk;have hmem:N∈(bB S (bZ S cu cg now dir n)).nodes:=by rw[nk];exact adt _ (adI _)
 have hu:aD (bB S (bZ S cu cg now dir n)).nodes (bB S (bZ S cu cg now dir n)).last:=by
  rw[nk];exact hT.bc.add _ MI (by have:=hT.last;omega)
 obtain⟨w1,w2⟩:=xV hT h (n:=N) (ir S.ah (bZ S cu cg now dir n).dev (aP (jn S.ah (bZ S cu cg now dir n).dev).q (bA (bZ S cu cg now dir n).kind (bZ S cu cg now dir n).data.length) 1)) MI hNe (by omega);rw [<-nk]at w1 w2;obtain ⟨q1,q2⟩:=cR hu hmem;rw [MI]at q1 q2;refine xW w1 hu hg.2 (by rw[hg.1]) q2 ?_ p3;rw [w2,q1,Y6];have:iV S (S.last+1)=0:=vR fun q hq z hz=>by have:=(hT.pos q hq z hz).2;omega
 rw[this];decide
theorem sF {S T:ae} {p:Int} (h:Whole S) (k:Whole T):Whole (fc p S T):=by unfold fc;split;exact h;exact k
theorem Ev {S:ae} {c:Nat} (hT:dy c S) (h:Whole S) (cu cg now no dir:Int) (nm:List UInt8):Whole (gM S cu cg now no dir nm):=by
 unfold gM;split
 case isFalse=>exact h
 rename_i h0;obtain ⟨hp,hi,hk,hf,hv,hl⟩:=kT h0;obtain ⟨hid,wo,hc⟩:=aT hp;obtain ⟨_,aW,hmem⟩:=ak hi;have hne:dir≠no:=fun e=>by subst e;exact hk wo
 have e0:(dE S now no).no=no:=aW;obtain ⟨g1,g2⟩:=jt (S:=S) (n:=dE S now no) (no:=dir) (by rw[e0];exact hne);have w1:Whole (aE S (dE S now no)):=mM h hT.bc hi e0 rfl (by show _<=(ac S.nodes no).ag+1;omega);have hu:aD (aE S (dE S now no)).nodes (aE S (dE S now no)).last:=hT.bc.set _;have po:aJ (aE S (dE S now no)).nodes no=true:=by show aJ (bQ S.nodes _) no=true;rw[iL];exact hi
 have PU:ac (aE S (dE S now no)).nodes no=dE S now no:=by
  have hm:dE S now no∈(aE S (dE S now no)).nodes:=by
   show _∈bQ S.nodes _;unfold bQ;rw [adr];exact ⟨_,hmem,by rw[acg (by simpa using aW.trans e0.symm)]⟩
  have:=(cR hu hm).1;rw [e0]at this;exact this
 refine xW w1 hu (by rw[g2];exact hid) (by rw[g1]) po ?_ hc;rw [PU];show _<=(ac S.nodes no).ag+1;have h1:=mc hT.bc (n:=dE S now no) (by rw[e0];exact hi) no;have h2:jy no (dE S now no)=jy no (ac S.nodes (dE S now no).no):=by rw[e0];rfl
 have h3:=h.ag _ hmem;rw [aW]at h3;omega
theorem Ew {S:ae} (h:Whole S) (ds:List eB) {no:Int} (hz:iV S no=0):Whole ⟨fl S.nodes no,ds,S.last⟩:=by
 have hne:∀m∈S.nodes,∀z∈m.af,z.2≠no:=fun m hm z hz2 e=>by
  have:=Rk hm hz2;rw [e]at this;omega
 refine⟨fun m hm z hz2=>?_,fun m hm=>?_,fun m hm z hz2=>h.ft m (dJ hm).1 z hz2⟩
 ·obtain ⟨h1,_⟩:=dJ hm
  have h2:=h.there m h1 z hz2;obtain ⟨_,i2,i3⟩:=ak h2;have:=nQ (no:=no) i3 (by rw[i2];exact hne m h1 z hz2);unfold aJ eF;rw [List.find?_isSome];exact ⟨_,this,by simpa using i2⟩
 ·obtain ⟨h1,_⟩:=dJ hm
  have h2:=h.ag m h1;have h3:iV ⟨fl S.nodes no,ds,S.last⟩ m.no<=iV S m.no:=Cg _ _ _;omega
theorem Oe (l:List ay) (nm:List UInt8) (no:Int):((cX l nm).filter fun z=>z.2 == no).length<=(l.filter fun z=>z.2 == no).length:=by
 unfold cX;rw [adJ];have e:(fun z:ay=>(z.2 == no)&&!(z.1 == nm))=fun z=>(!(z.1 == nm))&&(z.2 == no):=by funext z;exact Bool.and_comm _ _
 rw[e,<-adJ];exact List.length_filter_le _ _
theorem Ch {l:List ay} {nm:List UInt8} {x:ay} (hx:x∈l) (he:x.1=nm):((cX l nm).filter fun z=>z.2 == x.2).length<(l.filter fun z=>z.2 == x.2).length:=by
 unfold cX;rw [adJ];have e:(fun z:ay=>(z.2 == x.2)&&!(z.1 == nm))=fun z=>(!(z.1 == nm))&&(z.2 == x.2):=by funext z;exact Bool.and_comm _ _
 rw[e,<-adJ];have hm:x∈l.filter fun z=>z.2 == x.2:=adz.2 ⟨hx,by simp⟩
 generalize l.filter (fun z=>z.2 == x.2)=L at hm
 clear hx e
 induction L with
 | nil=>cases hm
 | cons a L ih =>
  rw[adG];rcases ads.1 hm with rfl|hm
  ·rw [abi (by simp[he])]
   have:=List.length_filter_le (fun z:ay=>!(z.1 == nm)) L;simp only[adp];omega
  ·have:=ih hm
   split<;>simp only[adp]<;>omega
theorem pT {c:Nat} {S:ae} (h:dy c S) (hW:Whole S) {cu cg now dir:Int} {nm:List UInt8} (hl:ct S cu cg dir nm=0):Whole (eN S now (ac S.nodes dir) (ac S.nodes (aK (ac S.nodes dir).af nm)) nm):=by
 obtain⟨z1,kC,_⟩:=eD hl;have hi:=(aT z1).1;obtain ⟨_,jB,il⟩:=ak hi;obtain⟨no,hn⟩:=zE (aK (ac S.nodes dir).af nm);rw [<-hn]at kC|-;obtain ⟨_,aW,hmem⟩:=ak kC;have hpos:=(h.bc.2 _ hmem).1;rw [aW]at hpos;obtain ⟨x,hx,sI,tI⟩:=nY (l:=(ac S.nodes dir).af) (nm:=nm) (by rw[<-hn];omega);rw [<-hn]at tI;have hK:=h.yJ _ il x hx;rw [tI,jB]at hK;have hnd:no≠dir:=hK.1;obtain ⟨M,hM⟩:∃M:ai,M=eL S (ac S.nodes dir).no now (cX (ac S.nodes dir).af nm):=⟨_,rfl⟩;have j7:M.no=dir:=by rw[hM,jB];exact jB
 have CG:M.af=cX (ac S.nodes dir).af nm:=by rw[hM];rfl
 have Sj:M.ag=(ac S.nodes dir).ag:=by rw[hM,jB];rfl
 have hu1:aD (aE S M).nodes (aE S M).last:=h.bc.set _;have c1:∀k,iV (aE S M) k<=iV S k:=fun k=>by
  have h1:=mc h.bc (n:=M) (by rw[j7];exact hi) k;rw [j7]at h1;have h2:=Oe (ac S.nodes dir).af nm k;have h3:jy k M=((cX (ac S.nodes dir).af nm).filter fun z=>z.2 == k).length:=by unfold jy;rw[CG]
  have h4:jy k (ac S.nodes dir)=((ac S.nodes dir).af.filter fun z=>z.2 == k).length:=rfl;omega
 have c2:iV (aE S M) no<iV S no:=by
  have h1:=mc h.bc (n:=M) (by rw[j7];exact hi) no;rw [j7]at h1;have h2:=Ch hx sI;rw [tI]at h2;have h3:jy no M=((cX (ac S.nodes dir).af nm).filter fun z=>z.2 == no).length:=by unfold jy;rw[CG]
  have h4:jy no (ac S.nodes dir)=((ac S.nodes dir).af.filter fun z=>z.2 == no).length:=rfl;omega
 have w1 : Whole (aE S M):=by
  refine⟨fun m hm z hz=>?_,fun m hm=>?_,fun m hm z hz=>?_⟩
  rotate_left 2
  ·rcases aQ hm with⟨hm,_⟩|rfl
   ·exact hW.ft m hm z hz
   ·rw [CG]at hz
    exact hW.ft _ il z (jO hz).1
  ·show aJ (bQ S.nodes M) z.2=true
   rw[iL];rcases aQ hm with⟨hm,_⟩|rfl
   ·exact hW.there m hm z hz
   ·rw [CG]at hz
    exact hW.there _ il z (jO hz).1
  ·have h1:=c1 m.no
   rcases aQ hm with⟨hm,_⟩|rfl
   ·have:=hW.ag m hm;omega
   ·have:=hW.ag _ il
    rw[<-Sj,jB,<-j7]at this;omega
 have g1:ac (aE S M).nodes no=ac S.nodes no:=oL (by rw[j7];exact hnd);have i1:aJ (aE S M).nodes no=true:=by show aJ (bQ S.nodes M) no=true;rw[iL];exact kC
 obtain⟨n',hn'⟩:=zE (fu now (ac S.nodes no));have e1:n'.no=no:=by rw[hn'];exact aW
 have e2:n'.af=(ac (aE S M).nodes no).af:=by rw[hn',g1];rfl
 have e3:n'.ag=(ac S.nodes no).ag-1:=by rw[hn'];rfl
 have hL:=hW.ag _ hmem;rw [aW]at hL;have c3:∀k,iV (aE (aE S M) n') k=iV (aE S M) k:=fun k=>by
  have h1:=mc hu1 (n:=n') (by rw[e1];exact i1) k;rw [e1]at h1;have h2:jy k n'=jy k (ac (aE S M).nodes no):=by unfold jy;rw[e2]
  omega
 have w2 : Whole (aE (aE S M) n'):=by
  refine⟨fun m hm z hz=>?_,fun m hm=>?_,fun m hm z hz=>?_⟩
  rotate_left 2
  ·rcases aQ hm with⟨hm,_⟩|rfl
   ·exact w1.ft m hm z hz
   ·rw [e2]at hz
    exact w1.ft _ (ak i1).2.2 z hz
  ·show aJ (bQ (aE S M).nodes n') z.2=true
   rw[iL];rcases aQ hm with⟨hm,_⟩|rfl
   ·exact w1.there m hm z hz
   ·rw [e2]at hz
    exact w1.there _ (ak i1).2.2 z hz
  ·rw [c3]
   rcases aQ hm with⟨hm,_⟩|rfl
   ·exact w1.ag m hm
   ·rw [e1,e3]
    omega
 unfold eN bR;rw [<-hM];unfold ju;rw [<-hn',aW];split
 ·unfold gK
  split
  ·exact Ew w2 _ (by rw[c3];omega)
  ·exact w2
 ·exact w2
theorem Jf {S:ae} {c:Nat} (hT:dy c S) (h:Whole S) (cu cg now:Int) (x:lG) (hx:∀fr a gN b,x≠.rename fr a gN b) (tI:∀no d,x≠.write no d):Whole (cM S cu cg now x):=by
 cases x with
 | da dir nm mode=>exact sF h (pS hT h _ _ _ _ _ _ rfl)
 | cL dir nm mode data=>exact sF h (pS hT h _ _ _ _ _ _ rfl)
 | symlink dir nm text=>exact sF h (pS hT h _ _ _ _ _ _ rfl)
 | link no dir nm=>exact Ev hT h _ _ _ _ _ _
 | unlink dir nm =>
  show Whole (eS S cu cg now dir nm);unfold eS;split
  ·rename_i h0
   unfold eR at h0;split at h0
   ·rename_i h1;exact absurd h0 h1
   ·rename_i h1
    obtain⟨z1,z2,_,z4,z5⟩:=eD (adl.1 h1);rw [z4,z5];exact pT hT h (adl.1 h1)
  ·exact h
 | lY dir nm =>
  show Whole (gI S cu cg now dir nm);unfold gI;split
  ·rename_i h0
   unfold gi at h0;split at h0
   ·rename_i h1;exact absurd h0 h1
   ·rename_i h1
    obtain⟨z1,z2,_,z4,z5⟩:=eD (adl.1 h1);rw [z4,z5];exact pT hT h (adl.1 h1)
  ·exact h
 | rename fr a gN b=>exact absurd rfl (hx fr a gN b)
 | write no d=>exact absurd rfl (tI no d)
 | dP no mode =>
  show Whole (eZ S cu now no mode);unfold eZ;split
  ·rename_i h0
   unfold fC at h0;split at h0
   ·rename_i h1;exact absurd h0 h1
   ·rename_i h1
    have hi:=ic (adl.1 h1);exact mM h hT.bc hi (ak hi).2.1 rfl (adF _)
  ·exact h
 | eu no uid gid =>
  show Whole (fN S cu now no uid gid);unfold fN;split
  ·rename_i h0
   unfold gD at h0;split at h0
   ·rename_i h1;exact absurd h0 h1
   ·rename_i h1
    have hi:=ic (adl.1 h1);exact mM h hT.bc hi (ak hi).2.1 rfl (adF _)
  ·exact h
 | fP no mt =>
  show Whole (fO S cu now no mt);unfold fO;split
  ·rename_i h0
   unfold gL at h0;split at h0
   ·rename_i h1;exact absurd h0 h1
   ·rename_i h1
    have hi:=ic (adl.1 h1);exact mM h hT.bc hi (ak hi).2.1 rfl (adF _)
  ·exact h
theorem Ci {S:ae} {c:Nat} (hT:dy c S) (h:Whole S) (a b n:Int):Whole (cH S a b n):=by
 unfold cH;split
 ·exact (xV hT h (n:=bn S) _ rfl rfl (by show (0:Int)<=1;decide)).1
 ·exact h
theorem Cj (b n:Int):Whole (cq cJ 0 b n):=by
 have mem:∀m∈(cq cJ 0 b n).nodes,m=bn cJ:=fun m hm=>by
  have hm':m∈[bn cJ]:=hm
  rwa [ado]at hm'
 refine⟨fun m hm z hz=>(by rw[mem m hm]at hz;cases hz),fun m hm=>?_,fun m hm z hz=>(by rw[mem m hm]at hz;cases hz)⟩;rw [vR (fun q hq z hz=>by rw[mem q hq]at hz;cases hz),mem m hm];decide
structure oP (c:Nat) (S:ae):Prop where
 iB:fI c S
 who:Whole S
theorem oP.mono {c d:Nat} {S:ae} (h:oP c S) (FB:c<=d):oP d S:=⟨h.iB.mono FB,h.who⟩
theorem oP.oc {c:Nat} {S:ae} (h:oP c S) (cu cg now:Int) (x:lG) (hx:∀fr a gN b,x≠.rename fr a gN b) (tI:∀no d,x≠.write no d):oP (c+1) (cM S cu cg now x):=⟨h.iB.oc _ _ _ _ hx,Jf h.iB.fE h.who _ _ _ _ hx tI⟩
theorem oP.kw {c:Nat} {S:ae} (h:oP c S) (a b n:Int):oP (c+1) (cH S a b n):=⟨h.iB.kw a b n,Ci h.iB.fE h.who a b n⟩
theorem oP.M_ {c:Nat} {S:ae} (h:oP c S) (m:eW):oP (c+2) (iA S m):=by
 unfold iA;split
 ·exact h.mono (by omega)
 ·split
  ·have h1:=h.oc 0 0 0 (sx S m) (fun _ _ _ _ e=>by cases e) (fun _ _ e=>by cases e)
   split
   ·exact h1.kw _ _ _
   ·exact h1.mono (by omega)
  ·exact (h.kw _ _ _).mono (by omega)
theorem oP.BI {c:Nat} {S:ae} (h:oP c S) (l:List eW):oP (c+2*l.length) (ey S l):=by
 unfold ey
 induction l generalizing c S with
 | nil=>exact h
 | cons m l ih =>
  rw [adD];have h1:oP (c+2) (if na m=true then S else iA S m):=by
   split
   ·exact h.mono (by omega)
   ·exact h.M_ m
  exact (ih h1).mono (by rw[adp];omega)
theorem Ck {S:ae} {it:dS} {x:lG} (h:iH S it=some x):(∀fr a gN b,x≠.rename fr a gN b)/\∀no d,x≠.write no d:=by
 unfold iH at h;split at h
 ·cases h
 split at h
 ·cases h
 split at h
 ·injection h with h;subst h;exact⟨fun _ _ _ _ e=>(by cases e),fun _ _ e=>(by cases e)⟩
 split at h
 ·injection h with h;subst h;exact⟨fun _ _ _ _ e=>(by cases e),fun _ _ e=>(by cases e)⟩
 split at h
 ·injection h with h;subst h;exact⟨fun _ _ _ _ e=>(by cases e),fun _ _ e=>(by cases e)⟩
 split at h
 ·split at h
  ·injection h with h;subst h;exact⟨fun _ _ _ _ e=>(by cases e),fun _ _ e=>(by cases e)⟩
  ·cases h
 ·cases h
theorem oP.IK {c:Nat} {S:ae} (h:oP c S) (it:dS):oP (c+1) (jD S it):=by
 unfold jD;split
 ·rename_i x hx
  exact h.oc _ _ _ _ (Ck hx).1 (Ck hx).2
 ·exact h.mono (by omega)
theorem oP.BJ {c:Nat} {S:ae} (h:oP c S) (no:Int) (it:dS):oP (c+2) (gj S no it):=by
 unfold gj;split
 ·exact (h.oc 0 0 0 (.eu no it.uid it.gid) (fun _ _ _ _ e=>by cases e) (fun _ _ e=>by cases e)).oc 0 0 0 (.dP no it.mode) (fun _ _ _ _ e=>by cases e) (fun _ _ e=>by cases e)
 ·exact h.mono (by omega)
theorem oP.item {c:Nat} {p:ae×List Int} (h:oP c p.1) (it:dS):oP (c+3) (s8 p it).1:=(h.IK it).BJ _ _
theorem oP.items {c:Nat} (l:List dS) (p:ae×List Int) (h:oP c p.1):oP (c+3*l.length) (dL p l).1:=by
 unfold dL
 induction l generalizing c p with
 | nil=>exact h
 | cons m l ih =>
  rw[adD];exact (ih _ (h.item m)).mono (by rw[adp];omega)
theorem oP.times {c:Nat} (l:List (Int×dS)) {S:ae} (h:oP c S):oP (c+l.length) (ee S l):=by
 unfold ee
 induction l generalizing c S with
 | nil=>exact h
 | cons x l ih =>
  rw [adD];have h1:oP (c+1) (mS S x):=by
   unfold mS;split
   ·exact h.oc 0 0 0 (.fP x.1 x.2.mtime) (fun _ _ _ _ e=>by cases e) (fun _ _ e=>by cases e)
   ·exact h.mono (by omega)
  exact (ih h1).mono (by rw[adp];omega)
theorem Cl (ms:List eW) (is:List dS):Whole (gp ms is):=by
 have a:=(oP.mk (.first (j9 ms)) (Cj _ _)).BI ms;have b1:=oP.items is (ey (gP ms) ms,[]) a;exact (b1.times ((xP ms is).2.zip is)).who
def orM (m:Int):Int:=m+(if cF m 6=true then 0 else 64)+(if cF m 7=true then 0 else 128)+(if cF m 8=true then 0 else 256)
def FZ (S:ae) (cu cg no:Int):Bool:=!dX cu cg (ac S.nodes no).uid (ac S.nodes no).gid (ac S.nodes no).mode 7&&fB cu (ac S.nodes no).uid
def opC (s:av) (no:Int):lG:=.dP no (orM (ac s.t.nodes no).mode)
def F9 (s:av) (cu cg no:Int):Int:=if FZ s.t cu cg no=true then zJ s cu cg (opC s no) else 0
def pU (s:av) (cu cg no:Int):av:=if FZ s.t cu cg no=true then ww s cu cg (opC s no) else s
def JT (s:av) (cu cg no:Int):Int:=fk s (bt s.t cu cg no 1 4)
def Og (s:av) (cu cg no:Int):List ay:=sa s (bo s.t (bf s.t cu cg no 1 4).af)
def Wx (s:av) (cu cg no:Int):List Int:=(Og s cu cg no).map (·.2)
def mU (s:av) (dev no:Int):Prop:=aJ s.t.nodes no=true/\(ac s.t.nodes no).dev≠dev
inductive jF (cu cg dev:Int):av->List Int->av->Int->Nat->Prop
 | nil (s):jF cu cg dev s [] s 0 0
 | busy {s no t}:mU s dev no->jF cu cg dev s (no::t) s 16 1
 | skip {s no t s' e k}:¬mU s dev no->(ac s.t.nodes no).kind≠1->jF cu cg dev s t s' e k->jF cu cg dev s (no::t) s' e (k+1)
 | shut {s no t}:¬mU s dev no->(ac s.t.nodes no).kind=1->F9 s cu cg no≠0->jF cu cg dev s (no::t) (pU s cu cg no) (F9 s cu cg no) 1
 | list {s no t}:¬mU s dev no->(ac s.t.nodes no).kind=1->F9 s cu cg no=0->JT (pU s cu cg no) cu cg no≠0->jF cu cg dev s (no::t) (pU s cu cg no) (JT (pU s cu cg no) cu cg no) 1
 | step {s no t s' e k}:¬mU s dev no->(ac s.t.nodes no).kind=1->F9 s cu cg no=0->JT (pU s cu cg no) cu cg no=0->jF cu cg dev (pU s cu cg no) (Wx (pU s cu cg no) cu cg no++t) s' e k->jF cu cg dev s (no::t) s' e (k+1)
structure Rm (S0 S:ae):Prop where
 ah:S.ah=S0.ah
 is:∀no,aJ S.nodes no=aJ S0.nodes no
 get:∀no,ac S.nodes no={ac S0.nodes no with mode:=(ac S.nodes no).mode,ctime:=(ac S.nodes no).ctime}
theorem Rm.refl (S:ae):Rm S S:=⟨rfl,fun _=>rfl,fun _=>rfl⟩
theorem Rm.trans {A B C:ae} (h:Rm A B) (k:Rm B C):Rm A C:=by
 refine⟨k.ah.trans h.ah,fun no=>(k.is no).trans (h.is no),fun no=>?_⟩;have h1:=h.get no;have h2:=k.get no;rw [h1]at h2;exact h2
theorem Oh {c:Nat} {S:ae} (hT:dy c S) (cu now no m:Int):Rm S (eZ S cu now no m):=by
 unfold eZ;split
 ·rename_i h0
  have hi:aJ S.nodes no=true:=by
   unfold fC at h0;split at h0
   ·rename_i h1;exact absurd h0 h1
   ·rename_i h1;exact ic (adl.1 h1)
  obtain⟨_,e1,hm⟩:=ak hi;refine ⟨rfl,fun q=>iL _ _ _,fun q=>?_⟩
  by_cases hq:q=no
  ·subst hq
   have hmem:({ac S.nodes q with mode:=m,ctime:=now}:ai)∈(aE S {ac S.nodes q with mode:=m,ctime:=now}).nodes:=by
    show _∈bQ S.nodes _;unfold bQ;rw [adr];exact ⟨_,hm,by rw[acg (by simp)]⟩
   have hg:=(cR (S:=aE S {ac S.nodes q with mode:=m,ctime:=now}) (hT.bc.set _) hmem).1;have hg':ac (aE S {ac S.nodes q with mode:=m,ctime:=now}).nodes q={ac S.nodes q with mode:=m,ctime:=now}:=by
    have e2:({ac S.nodes q with mode:=m,ctime:=now}:ai).no=q:=e1;rw [e2]at hg;exact hg
   rw[hg']
  ·have e2:({ac S.nodes no with mode:=m,ctime:=now}:ai).no=no:=e1
   rw[oL (S:=S) (n:={ac S.nodes no with mode:=m,ctime:=now}) (no:=q) (by rw[e2];exact hq)]
 ·exact .refl S
theorem Vn (s:av) (no:Int):(∀fr a gN b,opC s no≠.rename fr a gN b)/\∀n d,opC s no≠.write n d:=⟨fun _ _ _ _ e=>(by cases e),fun _ _ e=>(by cases e)⟩
theorem Ey {c:Nat} {s:av} (h:Pl c s) (cu cg no:Int):Rm s.t (pU s cu cg no).t:=by
 unfold pU;split
 ·unfold ww
  split
  ·rw[(FY s).1];exact .refl _
  ·exact Oh h.iB.fE cu s.now no _
 ·exact .refl _
theorem Pl.op {c:Nat} {s:av} (h:Pl c s) (cu cg no:Int):Pl (c+1) (pU s cu cg no):=by
 unfold pU;split
 ·exact h.oc cu cg _ (Vn s no).1
 ·exact h.mono (by omega)
theorem Ez {c:Nat} {s:av} (h:Pl c s) (cu cg no:Int):aY (pU s cu cg no).t<=aY s.t:=by
 unfold pU;split
 ·unfold ww
  split
  ·rw[(FY s).1];exact adj _
  ·exact BK h.iB.fE cu s.now no _
 ·exact adj _
theorem Cm {s:av} {cu cg no:Int} (hd:s.dead=false) (h:F9 s cu cg no=0):(pU s cu cg no).dead=false:=by
 unfold F9 at h;unfold pU;split
 ·rename_i h1
  rw[acg h1]at h;unfold zJ at h;split at h
  ·rename_i h2;exact absurd h h2
  ·rename_i h2
   unfold ww;rw [abi h2];show (Hq s).dead=false;rw [(lZ (adl.1 h2)).2];exact hd
 ·exact hd
theorem Vo {cu cg dev:Int} {s s':av} {t:List Int} {e:Int} {k:Nat} (h:jF cu cg dev s t s' e k):∀c,Pl c s->Pl (c+k) s'/\Rm s.t s'.t/\aY s'.t<=aY s.t/\(s.dead=false->e=0->s'.dead=false):=by
 induction h with
 | nil s=>intro c hc;exact⟨hc,.refl _,adj _,fun h _=>h⟩
 | busy h1=>intro c hc;exact⟨hc.mono (by omega),.refl _,adj _,fun h _=>h⟩
 | skip h1 h2 h3 ih =>
  intro c hc;obtain ⟨g1,g2⟩:=ih c hc;exact ⟨g1.mono (by omega),g2⟩
 | shut h1 h2 h3=>intro c hc;exact⟨hc.op _ _ _,Ey hc _ _ _,Ez hc _ _ _,fun _ he=>absurd he h3⟩
 | list h1 h2 h3 h4=>intro c hc;exact⟨hc.op _ _ _,Ey hc _ _ _,Ez hc _ _ _,fun _ he=>absurd he h4⟩
 | step h1 h2 h3 h4 h5 ih =>
  intro c hc;obtain ⟨g1,g2,g3,g4⟩:=ih (c+1) (hc.op _ _ _);exact ⟨g1.mono (by omega),(Ey hc _ _ _).trans g2,Nat.le_trans g3 (Ez hc _ _ _),fun hd he=>g4 (Cm hd h3) he⟩
theorem wQ {c:Nat} {S:ae} (h:dy c S) {no:Int} (hp:0<no) (hi:aJ S.nodes no=true):aJ S.nodes (ar S.ah no)=true:=by
 rcases je h.sb hp with e|⟨j,hj,_,e2⟩
 ·rw[e];exact hi
 ·rw [e2]
  obtain⟨m,hm,e3,_⟩:=h.fG (j+1) hj;rw [<-e3];exact (cR h.bc hm).2
def ZN (s:av) (cu cg dir:Int) (nm:List UInt8) (s1:av) (e1:Int) (k1:Nat) (s':av) (e:Int) (L:List (aj×Int)) (k:Nat):Prop:=
 (dp s cu cg dir nm≠0/\s1=s/\e1=dp s cu cg dir nm/\k1=0\/dp s cu cg dir nm=0/\s.dead=false/\jF cu cg (ac s.t.nodes dir).dev s [(cO s cu cg dir nm).no] s1 e1 k1) /\
  (e1≠0/\s'=s1/\e=e1/\L=[]/\k=0\/e1=0/\qW s1 cu cg dir nm s' e L k)
theorem Cn {s:av} {cu cg dir:Int} {nm:List UInt8} (h:dp s cu cg dir nm=0):s.dead=false/\du s.t cu cg dir nm=0/\(cO s cu cg dir nm).no=ep s.t cu cg dir nm:=by
 unfold dp fk at h;split at h
 ·cases h
 ·rename_i hd
  refine⟨by simpa using hd,h,?_⟩;show zK s (ep s.t cu cg dir nm)=_;unfold zK;rw [abi hd]
theorem Oi {S:ae} {cu cg no k w:Int} (h:bt S cu cg no k w=0):aJ S.nodes no=true/\(ac S.nodes no).kind=k:=by
 unfold bt at h;split at h
 ·cases h
 ·rename_i h1
  split at h
  ·rename_i h2;exact⟨by simpa using h1,h2⟩
  ·split at h
   ·cases h
   ·split at h<;>cases h
theorem Oj {S:ae} {cu cg dir:Int} {nm:List UInt8} (h:du S cu cg dir nm=0):aJ S.nodes dir=true/\(ac S.nodes dir).kind=1/\aK (ac S.nodes dir).af nm≠0/\ep S cu cg dir nm=ar S.ah (aK (ac S.nodes dir).af nm):=by
 have h':=h;unfold du at h;split at h
 ·rename_i h1
  split at h
  ·cases h
  ·rename_i h2
   have e:bf S cu cg dir 1 1=ac S.nodes dir:=by unfold bf;rw[acg h1]
   rw[e]at h2;obtain ⟨o1,o2⟩:=Oi h1;refine ⟨o1,o2,h2,?_⟩;unfold ep;rw [acg h',e]
 ·rename_i h1;exact absurd h h1
theorem zf {c:Nat} {S:ae} (hT:dy c S) (hW:Whole S) {cu cg dir:Int} {nm:List UInt8} (h:du S cu cg dir nm=0):aJ S.nodes dir=true/\aJ S.nodes (ep S cu cg dir nm)=true:=by
 obtain⟨h1,_,h3,h4⟩:=Oj h;refine ⟨h1,?_⟩;rw [h4];obtain ⟨x,hx,_,tI⟩:=nY h3;have hm:=(ak h1).2.2;have hp:=hT.pos _ hm x hx;rw [<-tI];exact wQ hT (by omega) (hW.there _ hm x hx)
def vS (R:List aj) (no:Int) (nm:List UInt8):Bool:=R.any fun y=>y.dir == no&&y.name == nm
def oC (R:List aj) (no:Int) (l:List ay):List ay:=l.filter fun z=>!vS R no z.1
theorem oD (R:List aj) (no:Int) (nm:List UInt8):vS R no nm=true↔∃y∈R,y.dir=no/\y.name=nm:=by
 unfold vS;rw [List.any_eq_true]
 constructor
 ·rintro ⟨y,hy,h⟩
  rw[adO]at h;exact ⟨y,hy,by simpa using h.1,by simpa using h.2⟩
 ·rintro ⟨y,hy,h1,h2⟩
  exact⟨y,hy,by simp[h1,h2]⟩
theorem xX {R:List aj} {no:Int} {l:List ay} (h:∀y∈R,y.dir≠no):oC R no l=l:=by
 unfold oC;rw [List.filter_eq_self];intro z _;have : vS R no z.1=false:=by
  cases hb:vS R no z.1
  ·rfl
  ·obtain ⟨y,hy,h1,_⟩:=(oD ..).1 hb
   exact absurd h1 (h y hy)
 rw[this];rfl
theorem EA {R:List aj} {no:Int} {l:List ay} {x:aj} (h:x.dir≠no):oC (R++[x]) no l=oC R no l:=by
 unfold oC
 congr 1
 funext z
 unfold vS;rw [List.any_append];have:([x].any fun y=>y.dir == no&&y.name == z.1)=false:=by simp[h]
 rw[this,Bool.or_false]
theorem Jg {R:List aj} {l:List ay} {x:aj}:oC (R++[x]) x.dir l=cX (oC R x.dir l) x.name:=by
 unfold oC cX;rw [adJ]
 congr 1
 funext z
 unfold vS;rw [List.any_append];have:([x].any fun y=>y.dir == x.dir&&y.name == z.1)=(z.1 == x.name):=by
  simp only[List.any_cons,List.any_nil,Bool.or_false,beq_self_eq_true,Bool.true_and];rw [Bool.eq_iff_iff];simp only[beq_iff_eq];exact eq_comm
 rw[this,Bool.not_or,Bool.and_comm]
structure Cut (S0:ae) (R:List aj) (S:ae):Prop where
 left:Left S0 S
 whole:Whole S
 node:∀no,aJ S0.nodes no=true->(∀y∈R,y.no≠no)->aJ S.nodes no=true/\ac S.nodes no={ac S0.nodes no with af:=oC R no (ac S0.nodes no).af,mtime:=(ac S.nodes no).mtime,ctime:=(ac S.nodes no).ctime}/\((∀y∈R,y.dir≠no)->ac S.nodes no=ac S0.nodes no)
theorem Cut.nil {S:ae} (h:Whole S):Cut S [] S:=⟨.refl S,h,fun no hi _=>⟨hi,by rw[xX (fun y hy=>by cases hy)],fun _=>rfl⟩⟩
theorem mf {c0:Nat} {S0 S:ae} (h0:dy c0 S0) (h:Left S0 S) {no:Int} (hi:aJ S.nodes no=true):aJ S0.nodes no=true/\(ac S.nodes no).kind=(ac S0.nodes no).kind/\(ac S.nodes no).up=(ac S0.nodes no).up/\(ac S.nodes no).dev=(ac S0.nodes no).dev/\(ac S.nodes no).mode=(ac S0.nodes no).mode/\(ac S.nodes no).uid=(ac S0.nodes no).uid/\(ac S.nodes no).gid=(ac S0.nodes no).gid:=by
 obtain⟨_,i2,i3⟩:=ak hi;obtain ⟨m',hm',e1,e2,e3,e4,e5,e6,e7,_⟩:=h.mem _ i3;obtain ⟨g1,g2⟩:=cR h0.bc hm';rw [e1,i2]at g1 g2;rw [g1];exact ⟨g2,e2,e3,e4,e5,e6,e7⟩
theorem Jh {ns:List ai} {no k:Int} (h:k≠no):ac (fl ns no) k=ac ns k/\aJ (fl ns no) k=aJ ns k:=by
 have e:eF (fl ns no) k=eF ns k:=by
  unfold eF fl;rw [List.find?_filter]
  congr 1
  funext m
  by_cases hm:m.no=k
  ·have:(m.no == no)=false:=by simpa [hm]using h
   simp[hm,h]
  ·have:(m.no == k)=false:=by simpa using hm
   simp[this]
 unfold ac aJ;rw [e];exact ⟨rfl,rfl⟩
theorem Ol {S:ae} {now no k:Int} {d:ai} {nm:List UInt8} (aW:(ac S.nodes no).no=no) (hk:k≠no):ac (eN S now d (ac S.nodes no) nm).nodes k=ac (bR S d.no now (cX d.af nm)).nodes k/\aJ (eN S now d (ac S.nodes no) nm).nodes k=aJ (bR S d.no now (cX d.af nm)).nodes k:=by
 have e1:(fu now (ac S.nodes no)).no=no:=aW;unfold eN;obtain⟨S1,Az⟩:=zE (bR S d.no now (cX d.af nm));rw [<-Az];have g:=jt (S:=S1) (n:=fu now (ac S.nodes no)) (no:=k) (by rw[e1];exact hk);unfold ju;split
 ·unfold gK
  split
  ·have:=Jh (ns:=(aE S1 (fu now (ac S.nodes no))).nodes) (no:=(ac S.nodes no).no) (k:=k) (by rw[aW];exact hk)
   exact⟨this.1.trans g.1,this.2.trans g.2⟩
  ·exact g
 ·exact g
theorem Rn {S0 S:ae} {c0:Nat} (h0:dy c0 S0) (h:Left S0 S) {no:Int} (hi:aJ S.nodes no=true) (cu cg w:Int):dX cu cg (ac S.nodes no).uid (ac S.nodes no).gid (ac S.nodes no).mode w=dX cu cg (ac S0.nodes no).uid (ac S0.nodes no).gid (ac S0.nodes no).mode w:=by
 obtain⟨_,_,_,_,e1,e2,e3⟩:=mf h0 h hi;rw [e1,e2,e3]
def Co (S:ae) (cu cg:Int) (x:aj):Prop:=dX cu cg (ac S.nodes x.dir).uid (ac S.nodes x.dir).gid (ac S.nodes x.dir).mode 3=true/\jY cu (ac S.nodes x.dir).mode (ac S.nodes x.dir).uid (ac S.nodes x.no).uid=true
structure kZ (S:ae) (x:aj):Prop where
 ent:(x.name,x.no)∈(ac S.nodes x.dir).af
 Vp:(ac S.nodes x.dir).kind=1
 over:ar S.ah x.no=x.no
 up:(ac S.nodes x.no).kind=1->(ac S.nodes x.no).up=x.dir
 ne:x.no≠x.dir
theorem tS {c:Nat} {S:ae} (h:dy c S) (k:Kids S) {cu cg:Int} {x:aj} {z:ay} (hk:(ac S.nodes x.dir).kind=1) (hz:z∈(ac S.nodes x.dir).af) (hn:z.1=x.name) (aW:x.no=ar S.ah z.2) (hi:dQ S cu cg x=0):kZ S x:=by
 obtain ⟨ix,nx,mx⟩:=aO hk;obtain ⟨i1,i2,i3,_⟩:=sk hi;obtain ⟨k1,k2,k3⟩:=h.yJ _ mx z hz;have hp:=h.pos _ mx z hz;have ho:ar S.ah z.2=z.2:=by
  rcases je h.sb (show 0<z.2 by omega) with e|⟨j,hj,e1,e2⟩
  ·exact e
  ·exfalso
   obtain⟨q,hq,q1,q2,q3,q4⟩:=h.lV j hj;obtain ⟨r,hr,r1,r2,r3⟩:=h.fG (j+1) hj;have gr:=(cR h.bc hr).1;rw [r1]at gr;rw [aW,e2,gr,r3]at i3;have:=k3 q hq (by rw[q1,e1]);rw [nx]at *;omega
 rw[ho]at aW;refine ⟨by rw[<-hn,aW];exact hz,hk,by rw[aW];exact ho,fun jK=>?_,by rw[aW];rw[nx]at k1;exact k1⟩;rw [aW]at jK|-;obtain ⟨j1,j2,j3⟩:=aO jK;rw [<-nx];exact k.up _ mx z hz _ j3 j2 jK
theorem Ro {c0 c:Nat} {S0:ae} (h0:dy c0 S0) {R:List aj} {s:av} (hC:Cut S0 R s.t) (hp:Pl c s) (hd:s.dead=false) (hpl:s.plan=[]) {cu cg:Int} {x:aj} (hx:kZ S0 x) (ha:Co S0 cu cg x) (r1:∀y∈R,y.no≠x.dir) (r2:∀y∈R,¬(y.dir=x.dir/\y.name=x.name))
  (r3:(ac S0.nodes x.no).kind=1->(∀y∈R,y.no≠x.no)/\∀z∈(ac S0.nodes x.no).af,vS R x.no z.1=true):jE s cu cg x=0/\Cut S0 (R++[x]) (iI s cu cg x).t/\(iI s cu cg x).dead=false/\(iI s cu cg x).plan=[]:=by
 obtain ⟨id0,nd0,md0⟩:=aO hx.Vp;obtain ⟨n1,n2,_⟩:=hC.node x.dir id0 r1;have xY:=(ak n1).2.2;have Vq:=(ak n1).2.1;have Om:(x.name,x.no)∈(ac s.t.nodes x.dir).af:=by
  rw[n2];show (x.name,x.no)∈oC R x.dir (ac S0.nodes x.dir).af;unfold oC;rw [adz];refine ⟨hx.ent,?_⟩
  cases hb:vS R x.dir x.name
  ·rfl
  ·obtain ⟨y,hy,h1,h2⟩:=(oD ..).1 hb
   exact absurd ⟨h1,h2⟩ (r2 y hy)
 have hf:aK (ac s.t.nodes x.dir).af x.name=x.no:=xu (hp.iB.fE.lP _ xY) Om rfl;have kC:aJ s.t.nodes x.no=true:=hC.whole.there _ xY _ Om;have PX:bX x.name=0:=hC.whole.ft _ xY _ Om;obtain ⟨_,kd,_,_,md,ud,_⟩:=mf h0 hC.left n1;obtain ⟨_,kn,_,_,_,un,_⟩:=mf h0 hC.left kC;have Vr:aS s.t cu cg x.dir x.name=0:=by
  unfold aS;rw [abi (by rw[n1];decide),abi (by rw[kd,hx.Vp];decide),abi (by rw[PX];decide),abi];rw [Rn h0 hC.left n1,ha.1];decide
 have hl:ct s.t cu cg x.dir x.name=0:=by
  unfold ct;rw [abi (by rw[Vr];decide),hf,abi (by rw[kC];decide),abi (by rw[hC.left.over,hx.over];simp),abi];rw [md,ud,un,ha.2];decide
 obtain ⟨_,_,l4,l5⟩:=qX hl;rw [hf]at l5;have abO:fQ s.t cu cg s.now (FX s x)=0:=by
  unfold FX
  by_cases hk:(ac s.t.nodes x.no).kind=1
  ·rw [acg hk]
   show gi s.t cu cg x.dir x.name=0;have TF:(ac S0.nodes x.no).kind=1:=kn▸hk;obtain ⟨q1,q2⟩:=r3 TF;obtain ⟨_,m2,_⟩:=hC.node x.no (mf h0 hC.left kC).1 q1;have abP:(ac s.t.nodes x.no).af=[]:=by
    rw[m2];show oC R x.no _=[];unfold oC;rw [List.filter_eq_nil_iff];intro z hz;rw [q2 z hz];decide
   unfold gi;rw [abi (by rw[hl];decide),l5,abi (by rw[hk];decide),abP,abi (by decide)]
  ·rw [abi hk]
   show eR s.t cu cg x.dir x.name=0;unfold eR;rw [abi (by rw[hl];decide),l5,abi hk]
 have hst:fk s (cT s.t x.no)=0:=by
  unfold fk cT;rw [abi (by rw[hd];decide),acg kC]
 have hgo:Bd s=0:=by
  rw[gE hd,hpl];rfl
 have hone:jE s cu cg x=0:=by
  unfold jE zJ;rw [abi (by rw[hst];decide),abi (by rw[hgo];decide)];exact abO
 obtain⟨_,_,_,_,o5,_⟩:=Ce hone;rw [hf]at o5;rw [o5];refine ⟨hone,⟨hC.left.trans (Je n1 kC),?_,fun no aW hR=>?_⟩,hd,hpl⟩
 ·have:=pT (now:=s.now) hp.iB.fE hC.whole hl
  rw[hf]at this;exact this
 ·have hxn:no≠x.no:=fun e=>hR x (by simp) e.symm
  have hR':∀y∈R,y.no≠no:=fun y hy=>hR y (adu _ hy)
  obtain⟨a1,a2,a3⟩:=hC.node no aW hR';obtain ⟨g1,g2⟩:=Ol (S:=s.t) (now:=s.now) (no:=x.no) (k:=no) (d:=ac s.t.nodes x.dir) (nm:=x.name) (ak kC).2.1 hxn;show aJ (eN s.t s.now (ac s.t.nodes x.dir) (ac s.t.nodes x.no) x.name).nodes no=true/\ac (eN s.t s.now (ac s.t.nodes x.dir) (ac s.t.nodes x.no) x.name).nodes no=_/\(_->ac (eN s.t s.now (ac s.t.nodes x.dir) (ac s.t.nodes x.no) x.name).nodes no=_);rw [g1,g2,Vq]
  by_cases AF:no=x.dir
  ·subst AF
   have hmem:eL s.t x.dir s.now (cX (ac s.t.nodes x.dir).af x.name)∈(bR s.t x.dir s.now (cX (ac s.t.nodes x.dir).af x.name)).nodes:=by
    show _∈bQ s.t.nodes _;unfold bQ;rw [adr];exact ⟨_,xY,by rw[acg (by simp[eL])]⟩
   have hg:=cR (S:=bR s.t x.dir s.now (cX (ac s.t.nodes x.dir).af x.name)) (hp.iB.fE.bc.set _) hmem;have e2:(eL s.t x.dir s.now (cX (ac s.t.nodes x.dir).af x.name)).no=x.dir:=Vq;rw [e2]at hg;refine ⟨hg.2,?_,fun k=>absurd rfl (k x (by simp))⟩;rw [hg.1,Jg];unfold eL;rw [n2]
  ·have hs:=jt (S:=s.t) (n:=eL s.t x.dir s.now (cX (ac s.t.nodes x.dir).af x.name)) (no:=no) (by show no≠(ac s.t.nodes x.dir).no;rw[Vq];exact AF)
   have hs1:ac (bR s.t x.dir s.now (cX (ac s.t.nodes x.dir).af x.name)).nodes no=ac s.t.nodes no:=hs.1;have pX:aJ (bR s.t x.dir s.now (cX (ac s.t.nodes x.dir).af x.name)).nodes no=aJ s.t.nodes no:=hs.2;rw [hs1,pX,EA (Ne.symm AF)];exact ⟨a1,a2,fun k=>a3 fun y hy=>k y (adu _ hy)⟩
structure EB (S:ae) (y z:aj):Prop where
 a1:(ac S.nodes z.no).kind=1->y.dir≠z.no
 a2:(ac S.nodes z.no).kind=1->y.no≠z.no
 a3:y.no≠z.dir
 a4:¬(y.dir=z.dir/\y.name=z.name)
inductive wL (S:ae) (cu cg:Int):List aj->List aj->Prop
 | nil:wL S cu cg [] []
 | cons {x t l1 l2}:dQ S cu cg x=0->kZ S x->wL S cu cg (ew S cu cg x) l1->wL S cu cg t l2->(∀y∈l1,y.no≠x.dir/\y.dir≠x.dir/\((ac S.nodes x.no).kind=1->y.no≠x.no))->(∀y∈x::l1,∀z∈l2,EB S y z)->wL S cu cg (x::t) (x::(l1++l2))
theorem wL.sub {S:ae} {cu cg:Int} {t l:List aj} (h:wL S cu cg t l):∀y∈t,y∈l:=by
 induction h with
 | nil=>intro y hy;cases hy
 | cons _ _ _ _ _ _ _ Rh =>
  intro y hy;rcases ads.1 hy with rfl|hy
  ·exact adk ..
  ·exact adi _ (adt _ (Rh y hy))
theorem Ji {c0:Nat} {S0:ae} (h0:dy c0 S0) {R:List aj} {s:av} (hC:Cut S0 R s.t) (hd:s.dead=false) {cu cg:Int} {x:aj} (hi:dQ S0 cu cg x=0) (hx:kZ S0 x) (hA:∀y∈R,EB S0 y x):jP s cu cg x=0/\nr s cu cg x=ew S0 cu cg x:=by
 obtain ⟨i1,i2,i3,i4⟩:=sk hi;obtain ⟨n1,n2,_⟩:=hC.node x.dir i2 (fun y hy=>(hA y hy).a3);have xY:=(ak n1).2.2;have Om:(x.name,x.no)∈(ac s.t.nodes x.dir).af:=by
  rw[n2];show (x.name,x.no)∈oC R x.dir (ac S0.nodes x.dir).af;unfold oC;rw [adz];refine ⟨hx.ent,?_⟩
  cases hb:vS R x.dir x.name
  ·rfl
  ·obtain ⟨y,hy,h1,h2⟩:=(oD ..).1 hb
   exact absurd ⟨h1,h2⟩ (hA y hy).a4
 have kC:aJ s.t.nodes x.no=true:=hC.whole.there _ xY _ Om;obtain ⟨_,kn,_,dn,mn,un,gn⟩:=mf h0 hC.left kC;obtain ⟨_,_,_,dd,_⟩:=mf h0 hC.left n1;have hE:dQ s.t cu cg x=0:=by
  unfold dQ;rw [abi (by rw[kC];decide),abi (by rw[n1];decide),abi (by rw[dn,dd];simpa using i3)];split
  ·rfl
  ·rename_i hk
   have jK:(ac S0.nodes x.no).kind=1:=kn▸adl.1 hk;have ho:=i4 jK;unfold bt at ho|-;rw [abi (by rw[i1];decide),acg jK]at ho;rw [abi (by rw[kC];decide),acg (adl.1 hk),mn,un,gn];exact ho
 have e1:jP s cu cg x=dQ s.t cu cg x:=by unfold jP fk;rw[abi (by rw[hd];decide)]
 have e2:nr s cu cg x=ew s.t cu cg x:=by unfold nr sa;rw[abi (by rw[hd];decide)]
 refine⟨e1.trans hE,e2.trans ?_⟩
 by_cases hk:(ac S0.nodes x.no).kind=1
 ·obtain ⟨_,m2,_⟩:=hC.node x.no i1 (fun y hy=>(hA y hy).a2 hk)
  rw [fS ⟨hE,kn▸hk⟩,fS ⟨hi,hk⟩];have e3:(ac s.t.nodes x.no).af=(ac S0.nodes x.no).af:=by
   rw[m2];exact xX fun y hy=>(hA y hy).a1 hk
  rw[e3]
  congr 1
  unfold bo;refine List.map_congr_left fun z _=>?_
  rw[hC.left.over]
 ·rw[mK (kn▸hk),mK hk]
theorem Vs {c:Nat} {s s':av} (h:Pl c s) {cu cg:Int} {t:List aj} {e:Int} {L:List (aj×Int)} {k:Nat} (hP:oX cu cg s t s' e L k):Pl (c+L.length) s':=(oO h (qV hP)).1
theorem Jj {c0:Nat} {S0:ae} (h0:dy c0 S0) {cu cg:Int} {t l:List aj} (h:wL S0 cu cg t l):∀(R:List aj) (s:av) (c:Nat),Cut S0 R s.t->Pl c s->s.dead=false->s.plan=[]->(∀y∈R,∀z∈l,EB S0 y z)->(∀x∈l,Co S0 cu cg x) ->
  ∃ s' L k,oX cu cg s t s' 0 L k/\Cut S0 (R++L.map (·.1)) s'.t/\s'.dead=false/\s'.plan=[]/\∀y,y∈L.map (·.1)↔y∈l:=by
 induction h with
 | nil=>intro R s c hC _ hd hp _ _;exact⟨s,[],0,.nil s,by simpa using hC,hd,hp,fun y=>Iff.rfl⟩
 | @cons x t l1 l2 hi hx hs1 _ hA hB ih1 Rh =>
  intro R s c hC hp hd hpl hR hab;obtain ⟨q1,q2⟩:=Ji h0 hC hd hi hx (fun y hy=>hR y hy x (adk ..));obtain ⟨s1,L1,k1,g1,g2,g3,g4,g5⟩:=ih1 R s c hC hp hd hpl (fun y hy z hz=>hR y hy z (adi _ (adu _ hz))) (fun z hz=>hab z (adi _ (adu _ hz)));have ZO:=Vs hp g1;have m1:∀y∈R++L1.map (·.1),y∈R\/y∈l1:=fun y hy=>(adm.1 hy).imp id (fun h=>(g5 y).1 h)
  obtain ⟨o1,o2,o3,o4⟩:=Ro h0 g2 ZO g3 g4 hx (hab x (adk ..))
   (fun y hy=>by
    rcases m1 y hy with h|h
    ·exact (hR y h x (adk ..)).a3
    ·exact (hA y h).1)
   (fun y hy=>by
    rcases m1 y hy with h|h
    ·exact (hR y h x (adk ..)).a4
    ·exact fun e=>(hA y h).2.1 e.1)
   (fun hk=>⟨fun y hy=>by
    rcases m1 y hy with h|h
    ·exact (hR y h x (adk ..)).a2 hk
    ·exact (hA y h).2.2 hk,fun z hz=>by
    refine (oD ..).2 ⟨dZ x (z.1,ar S0.ah z.2),adt _ ((g5 _).2 (hs1.sub _ ?_)),rfl,rfl⟩;rw [fS ⟨hi,hk⟩];exact adK (by unfold bo;exact adK hz)⟩)
  obtain ⟨s2,L2,k2,f1,f2,f3,f4,f5⟩:=Rh (R++L1.map (·.1)++[x]) (iI s1 cu cg x) _ o2 (ZO.one cu cg x) o3 o4
   (fun y hy z hz=>by
    rcases adm.1 hy with hy|hy
    ·rcases m1 y hy with h|h
     ·exact hR y h z (adi _ (adt _ hz))
     ·exact hB y (adi _ h) z hz
    ·rw [ado]at hy
     subst hy;exact hB y (adk ..) z hz)
   (fun z hz=>hab z (adi _ (adt _ hz)))
  rw[<-q2]at g1;refine ⟨s2,L1++(x,0)::L2,k1+2+k2,.step q1 g1 o1 f1,?_,f3,f4,fun y=>?_⟩
  ·have e:R++(L1++(x,(0:Int))::L2).map (·.1)=R++L1.map (·.1)++[x]++L2.map (·.1):=by simp
   rw[e];exact f2
  ·rw [adH,adn,adm,ads,ads,adm,g5,f5]
   constructor
   ·rintro (h|h|h)
    ·exact .inr (.inl h)
    ·exact .inl h
    ·exact .inr (.inr h)
   ·rintro (h|h|h)
    ·exact .inr (.inl h)
    ·exact .inl h
    ·exact .inr (.inr h)
open Go
theorem Cp {n:Nat} {P:Program} {row:String} {args:Array Value} {w:World} {R:Value->World->Prop} (h:Rows P row args w R):RowsIn Fence.wide n P row args w R:=
 fun c cs _=>let ⟨v,w',r,s⟩:=h c cs;⟨v,w',r,stepsIn_wide.2 s⟩
theorem EC {P:Program} {n:Nat} {o:Oper} {a:Act} {w:World} {K K':Act->World->Prop} {Q:Exit->Act->World->Prop} (hk:∀a w,K a w->K' a w) (h:o.wp P a w K (IG Q)):o.wpIn Fence.wide n P a w K' Q:=by
 unfold Oper.wp at h;unfold Oper.wpIn;refine ⟨fun _ _=>trivial,?_⟩;show o.uponIn Fence.wide n P a K' Q ((Oper.semAt none a.eval o).run P w);rw [Oper.semAt_none]
 generalize (execOp a.eval o).run P w=r at *
 cases r with
 | ok v w' =>
  cases v with
  | value v=>exact hk _ _ h
  | skip=>exact hk _ _ h
  | defer d=>exact hk _ _ h
  | enter f args =>
   refine⟨fun hx=>(by cases hx),adC.2 (Calls.mono h ?_)⟩;intro e w'' hq
   cases e with
   | returned v=>exact hk _ _ hq
   | panicked c=>exact absurd hq.1 (by simp)
   | outgrown=>exact absurd hq BH
  | row row args =>
   refine⟨fun hx=>(by cases hx),Cp (Rows.mono h ?_)⟩;intro v w'' hq;exact hk _ _ hq
  | _=>exact absurd h id
 | halt x w' =>
  cases x with
  | panic v=>exact absurd h.1 (by simp)
  | _=>exact absurd h id
theorem jz {P:Program} {n:Nat} {ops:Array Oper} {md:Region.Mode} {Q:Exit->Act->World->Prop}:∀(fuel:Nat) (listed:Array Bool) (a:Act) (w:World),wpAny P md ops (IG Q) fuel listed a w->wpAnyIn Fence.wide n P md ops Q fuel listed a w
 | 0,_,_,_,h=>⟨h.1,h.2.2⟩
 | fuel + 1,_,_,_,h=>⟨fun h0=>(h.1 h0).2,fun i hi=>by
   have h1:=h.2 i hi;unfold wpOp at h1;unfold wpOpIn;split
   ·rename_i ho;simp only[ho]at h1;exact jz fuel _ _ _ h1
   ·rename_i o ho
    simp only[ho]at h1;split
    ·rename_i hw
     simp only[hw,if_true]at h1;rcases h1 with h1|h1
     ·exact EC (fun a w=>jz fuel _ a w) h1
     ·exact absurd h1.2 BH
    ·rename_i hw
     simp only[hw]at h1;exact ⟨fun _ _=>trivial,jz fuel _ _ _ h1⟩⟩
theorem pV {F:Fence} (hF:F=Fence.wide) {lb n id:Nat} {P:Program} {Q:Exit->Act->World->Prop} {a:Act} {w:World} {l:List Oper} (hd:l.all qa=true) (hm:P.follows .mixedOrders=true)
  (h:wpAny P .any l.toArray (IG Q) l.toArray.size (Array.replicate l.toArray.size false) a w.drew):(Code.region id l.toArray true).wpIn (F.inRound lb) n P Q a w:=by
 subst hF;exact lk (F:=Fence.wide.inRound lb) hd hm (jz _ _ _ _ h)
theorem Jk {P:Program} {Q:Exit->Act->World->Prop} {a:Act} {w:World} {l:List Oper} (V:World) (m s:Nat) (d t:Tmp) (vy:Value) (Z Z':Obj) (om os:Oper)
  (hB:Region.lexB .any l.toArray=true) (hc:CV l m s d t=true) (yC:l[m]?=some om) (lE:l[s]?=some os)
  (rF:∀(a:Act) (w:World),(execOp a.eval om).run P w=.ok (.value (.pointer (some ⟨w.heap.size,0,none⟩))) (w.alloc Z))
  (iu:∀(a:Act) (w:World) (bx:Nat),d<a.tmps.size->Has w bx Z->(a.put (some d) (.pointer (some ⟨bx,0,none⟩))).eval (.tmp t)=vy->∃w'',(execOp (a.put (some d) (.pointer (some ⟨bx,0,none⟩))).eval os).run P w=.ok .skip w''/\Has w'' bx Z'/\Only [bx] w w'')
  (hV:Ext V w.drew) (PE:d<a.tmps.size)
  (h:aA P l.toArray V (fun a1=>aA P l.toArray V (fun a2=>a2.eval (.tmp t)=vy/\aA P l.toArray V (fun a3=>∀w' bx,Ext V w'->V.heap.size<=bx->Has w' bx Z'->Q .normal (a3.put (some d) (.pointer (some ⟨bx,0,none⟩))) w') (l.drop (s+1)) a2) ((l.take s).drop (m+1)) a1) (l.take m) a) :
  wpAny P .any l.toArray Q l.toArray.size (Array.replicate l.toArray.size false) a w.drew:=by
 simp only[CV,adO,decide_eq_true_eq,List.all_eq_true,Bool.or_eq_true,beq_iff_eq]at hc;obtain ⟨⟨⟨⟨⟨c1,c2⟩,c3⟩,c4⟩,c5⟩,c6⟩:=hc;rw [yC]at c4;rw [lE]at c5;simp only[adO,beq_iff_eq,Array.any_eq_true']at c4 c5;obtain ⟨g1,g2⟩:=c4;obtain ⟨⟨⟨g3,g4⟩,g5⟩,g6⟩:=c5;simp only[Region.lexB,adO]at hB;have qg:=Region.noSelect_spec hB.1;have Tb:l.toArray[m]?=some om:=by simpa using yC
 have ug:l.toArray[s]?=some os:=by simpa using lE
 have hys:∀o,l.toArray[s]?=some o->∀p∈[(Operand.tmp t,vy)],∀x,p.1=.tmp x->x∈o.looksAt l.toArray:=fun o ho p hp x hx=>by
  rw[ado]at hp;subst hp;rw [ug]at ho;injection ho with ho;injection hx with hx;rw[<-ho,<-hx];simpa using g5
 have fX:(l.take m).length=m:=by simp;omega
 have bU:((l.take s).drop (m+1)).length=s-(m+1):=by simp;omega
 have CW:lB P l.toArray V m s [(.tmp t,vy)] (fun a3=>∀w' bx,Ext V w'->V.heap.size<=bx->Has w' bx Z'->Q .normal (a3.put (some d) (.pointer (some ⟨bx,0,none⟩))) w') l 0 a:=by
  have e:l=l.take m++(om::((l.take s).drop (m+1)++(os::l.drop (s+1)))):=by
   have e1:l.drop m=om::l.drop (m+1):=by rw[adU (by omega)];congr 1;rw[List.getElem?_eq_getElem (by omega)]at yC;injection yC
   have e2:l.drop s=os::l.drop (s+1):=by rw[adU c2];congr 1;rw[List.getElem?_eq_getElem c2]at lE;injection lE
   have e3:(l.take s).drop (m+1)++l.drop s=l.drop (m+1):=by
    conv=>rhs;rw[<-List.take_append_drop s l,List.drop_append_of_le_length (by simp;omega)]
   rw[<-e2,e3,<-e1,List.take_append_drop]
  conv=>arg 8;rw[e]
  refine jp (l.take m) 0 a (fun j hj=>by rw[fX]at hj;omega) (fun j hj=>by rw[fX]at hj;rw[Nat.zero_add];simp[hj]) ?_;rw [Nat.zero_add,fX];have lO:∀{Q1 Q2:Act->Prop},(∀a,Q1 a->Q2 a)->∀(lN:List Oper) (a:Act),aA P l.toArray V Q1 lN a->aA P l.toArray V Q2 lN a:=by
   intro Q1 Q2 hq lN
   induction lN with
   | nil=>intro a h;exact hq a h
   | cons o lN ih =>
    intro a h;unfold aA at h|-;split
    ·rename_i hw;rw[acg hw]at h;obtain⟨v,h1,h2⟩:=h;exact⟨v,h1,ih _ h2⟩
    ·rename_i hw;rw[abi hw]at h;exact ih _ h
  refine lO (fun a1 h1=>?_) _ _ h;show oV P l.toArray V m s [(.tmp t,vy)] m _ a1;unfold oV;rw [acg rfl];refine jp ((l.take s).drop (m+1)) (m+1) a1 (fun j hj=>by rw[bU]at hj;omega) (fun j hj=>by rw[bU]at hj;rw[List.getElem?_drop,List.getElem?_take_of_lt (by omega)];simp) ?_;rw [bU,show m+1+(s-(m+1))=s by omega];refine lO (fun a2 h2=>?_) _ _ h1;show oV P l.toArray V m s [(.tmp t,vy)] s _ a2;unfold oV;rw [abi (by omega),acg rfl];refine ⟨fun p hp=>by rw[ado]at hp;subst hp;exact h2.1,?_⟩;have e5:l.drop (s+1)=l.drop (s+1)++[]:=by simp
  rw[e5];refine jp (l.drop (s+1)) (s+1) a2 (fun j hj=>by omega) (fun j hj=>by simp) ?_;exact h2.2
 have hR:=pI (md:=.any) (m:=m) (s:=s) hB.1 hys l 0 (Array.replicate l.toArray.size false) a (by simp) (fun j hj=>by omega) (by simpa using (by omega:m<l.length)) (by simpa using c2) (by simpa using hB.2) CW;have hf:∀i,i<l.length->(Array.replicate l.toArray.size false).getD i true=false:=fun i hi=>by simp[hi]
 have:=(rE (V:=V) (P:=P) (ops:=l.toArray) (md:=.any) (m:=m) (s:=s) (yo:=.tmp t) (vy:=vy) (Q':=Q) Tb g1 g2 ug g3 g4 (by omega) rF iu (by intro e;injection e with e;exact c3 e) ?_ qg ?_ (fun a w bx h1 h2 h3 h4=>h4 w bx h1 h2 h3) _ _ a w.drew hV PE hR).1 (hf m (by omega)) (hf s c2)
 ·simpa using this
 ·obtain ⟨e,he,mi⟩:=g6
  exact⟨e,he,mi.1,by simpa using mi.2⟩
 ·intro i oi hi h1 h2
  have hil:i<l.length:=by
   rcases Nat.lt_or_ge i l.length with h'|h'
   ·exact h'
   ·rw[Array.getElem?_eq_none (by simpa using h')]at hi;cases hi
  have:=c6 i (List.mem_range.2 hil);rw [show l[i]?=some oi by simpa using hi]at this;rcases this with (this|this)|this
  ·exact absurd this h1
  ·exact absurd this h2
  ·simpa using this
theorem Oo {P:Program} {Q:Exit->Act->World->Prop} {ops:Array Oper} {V:World} {d t:Nat} {vy:Value} {Z':Obj} {l1 l2 l3:List Oper} {a:Act}
  (h:aA P ops V (fun a1=>aA P ops V (fun a2=>a2.eval (.tmp t)=vy/\aA P ops V (fun a3=>∀w' bx,Ext V w'->V.heap.size<=bx->Has w' bx Z'->Q .normal (a3.put (some d) (.pointer (some ⟨bx,0,none⟩))) w') l3 a2) l2 a1) l1 a) :
  aA P ops V (fun a1=>aA P ops V (fun a2=>a2.eval (.tmp t)=vy/\aA P ops V (fun a3=>∀w' bx,Ext V w'->V.heap.size<=bx->Has w' bx Z'->IG Q .normal (a3.put (some d) (.pointer (some ⟨bx,0,none⟩))) w') l3 a2) l2 a1) l1 a:=by
 have lO:∀{Q1 Q2:Act->Prop},(∀a,Q1 a->Q2 a)->∀(lN:List Oper) (a:Act),aA P ops V Q1 lN a->aA P ops V Q2 lN a:=by
  intro Q1 Q2 hq lN
  induction lN with
  | nil=>intro a h;exact hq a h
  | cons o lN ih =>
   intro a h;unfold aA at h|-;split
   ·rename_i hw;rw[acg hw]at h;obtain⟨v,h1,h2⟩:=h;exact⟨v,h1,ih _ h2⟩
   ·rename_i hw;rw[abi hw]at h;exact ih _ h
 exact lO (fun a1 h1=>lO (fun a2 h2=>⟨h2.1,lO (fun a3 h3 w' bx k1 k2 k3=>⟨rfl,h3 w' bx k1 k2 k3⟩) _ _ h2.2⟩) _ _ h1) _ _ h
theorem mg {F:Fence} (hF:F=Fence.wide) {lb nn id:Nat} {Q:Exit->Act->World->Prop} {a:Act} {w:World} {l:List Oper} (V:World) (m s:Nat) (d t:Tmp) (n:ai) (A:Option Addr) (c:Nat) (om os:Oper)
  (hd:l.all qa=true) (hB:Region.lexB .any l.toArray=true) (hc:CV l m s d t=true) (yC:l[m]?=some om) (lE:l[s]?=some os) (Gl:om.op=.alloc 66) (mO:os.op=.store 66 (.tmp d) (.tmp t)) (PE:d<a.tmps.size)
  (hV:Ext V w.drew) :
  aA Tryz.prog l.toArray V (fun a1=>aA Tryz.prog l.toArray V (fun a2=>a2.eval (.tmp t)=.agg #[n.no,n.dev,n.kind,n.mode,n.uid,n.gid,n.mtime,n.ctime,n.ag,n.up,bs n.data,.slice A n.af.length c]/\aA Tryz.prog l.toArray V (fun a3=>∀w' bx,Ext V w'->V.heap.size<=bx->Has w' bx (.cells #[n.no,n.dev,n.kind,n.mode,n.uid,n.gid,n.mtime,n.ctime,n.ag,n.up,bs n.data,.slice A n.af.length c] 66)->Q .normal (a3.put (some d) (.pointer (some ⟨bx,0,none⟩))) w') (l.drop (s+1)) a2) ((l.take s).drop (m+1)) a1) (l.take m) a ->
  (Code.region id l.toArray true).wpIn (F.inRound lb) nn Tryz.prog Q a w:=by
 intro h0;refine pV hF hd (by kernel_rfl) ?_;refine Jk (Q:=IG Q) V m s d t (.agg #[n.no,n.dev,n.kind,n.mode,n.uid,n.gid,n.mtime,n.ctime,n.ag,n.up,bs n.data,.slice A n.af.length c]) (.cells #[.int .i64 0,.int .i64 0,.int .i64 0,.int .i64 0,.int .i64 0,.int .i64 0,.int .i64 0,.int .i64 0,.int .i64 0,.int .i64 0,.string ⟨#[]⟩,.slice none 0 0] 66) _ om os hB hc yC lE ?_ ?_ hV PE (Oo h0)
 ·intro a w
  simp[execOp,Gl,go_sem]
 ·intro a w bx hsz hb he
  have hd:(a.put (some d) (.pointer (some ⟨bx,0,none⟩))).eval (.tmp d)=.pointer (some ⟨bx,0,none⟩):=by
   simp[Act.put,Act.eval,hsz]
  have hb':Has w bx (.cells #[aa.no,aa.dev,aa.kind,aa.mode,aa.uid,aa.gid,aa.mtime,aa.ctime,aa.ag,aa.up,bs aa.data,.slice none aa.af.length 0] 66):=hb;refine ⟨_,?_,hb'.setNode n A c,bH (fp n A c) 0 w⟩;simp only[execOp,mO,hd,he,run_storeAt_mid w bx 0 66 #[n.no,n.dev,n.kind,n.mode,n.uid,n.gid,n.mtime,n.ctime,n.ag,n.up,bs n.data,.slice A n.af.length c] hb'.there gh (nJ n A c),Sem.run_bind,Sem.run_pure,Result.andThen_ok];rfl
attribute [local go_sem] adP
def lc (S:ae) (cu cg:Int) (x:aj):Int:=
 if dX cu cg (ac S.nodes x.dir).uid (ac S.nodes x.dir).gid (ac S.nodes x.dir).mode 3=false then 6
 else if jY cu (ac S.nodes x.dir).mode (ac S.nodes x.dir).uid (ac S.nodes x.no).uid=false then 4 else 0
def oY (S:ae) (cu cg:Int):List aj->Int->Int
 | [],e=>e
 | x::l,e=>if lc S cu cg x≠0 then lc S cu cg x else oY S cu cg l e
theorem oF {S:ae} {cu cg:Int} (a r:List aj) (e:Int) (h:∀x∈a,lc S cu cg x=0):oY S cu cg (a++r) e=oY S cu cg r e:=by
 induction a with
 | nil=>rfl
 | cons x a ih =>
  show (if lc S cu cg x≠0 then lc S cu cg x else oY S cu cg (a++r) e)=oY S cu cg r e;rw [abi (by rw[h x (adk ..)];decide)];exact ih fun y hy=>h y (adi _ hy)
theorem Ot {S:ae} {cu cg:Int} {l:List aj} {b:aj} {e:Int} {q:List (aj×Int)} {y:aj×Int} (h:q++[y] <+: told l b e) (hq:∀z∈q,z.2=0/\lc S cu cg z.1=0) :
  (y.2≠0->oY S cu cg l e=y.2)/\(y.2=0->lc S cu cg y.1≠0->oY S cu cg l e=lc S cu cg y.1):=by
 constructor
 ·intro hy
  obtain⟨e1,_,e3⟩:=IB h hy;have hl:∀x∈l,lc S cu cg x=0:=fun x hx=>(hq (x,0) (by rw[e3];exact adK hx)).2
  have:=oF l [] e hl;rw [adv]at this;rw [this,e1];rfl
 ·intro hy hne
  have hp : q++[y] <+: l.map fun x=>(x,(0:Int)):=by
   unfold told at h;split at h
   ·rw[adv]at h;exact h
   ·rename_i he
    rcases List.prefix_concat_iff.1 h with h1|h1
    ·have h2:=(List.append_inj' h1 rfl).2
     injection h2 with h2;rw [h2]at hy;exact absurd hy he
    ·exact h1
  obtain ⟨r,hr⟩:=hp;have hm:=congrArg (List.map Prod.fst) hr;have ei:(Prod.fst∘fun x:aj=>(x,(0:Int)))=id:=rfl;rw [List.map_map,ei,List.map_id,adH,adH]at hm;rw [<-hm,adN,oF _ _ _ (fun x hx=>by
   obtain⟨z,hz,rfl⟩:=adr.1 hx;exact (hq z hz).2)]
  show oY S cu cg (y.1::r.map Prod.fst) e=_;unfold oY;rw [acg hne]
def EE (W1:World) (N k b:Nat) (cu cg dir:Int) (nm:List UInt8) (S:ae) (O:List Nat) (pre:List (aj×Int)) (V:World):Prop:=
 Ext W1 V/\zg V k b cu cg dir nm/\(∀y∈pre,y.2=0/\lc S cu cg y.1=0)/\(∀x∈O,N<=x)/\N<=V.heap.size
theorem EE.bears {W1:World} {N k b:Nat} {cu cg dir:Int} {nm:List UInt8} {S:ae} (h1:W1.heap.size<=N) (h2:k+3<N):Mz N (EE W1 N k b cu cg dir nm S):=by
 rintro O pre V O' R V' ⟨a1,a2,a3,a4,a5⟩ o hR hO CE;have hL:∀x∈O++R,N<=x:=fun x hx=>by
  rcases adm.1 hx with hx|hx
  ·exact a4 x hx
  ·exact (hR x hx).1
 refine⟨o.after a1 fun x hx=>by have:=hL x hx;omega,a2.only o fun x hx=>.inr (by have:=hL x hx;omega),a3,fun x hx=>?_,by have:=o.size;omega⟩;rcases hO x hx with e|e
 ·exact a4 x e
 ·omega
def Vt (w:World) (b8:Nat) (cu cg:Int) (S:ae) (cc:Code) (pre:List (aj×Int)) (V:World):Prop:=
 cc=.ret/\Ext w V/\∃q y v,pre=q++[y]/\(∀z∈q,z.2=0/\lc S cu cg z.1=0)/\Has V b8 (.cells #[.int .i64 v] 47)/\((y.2≠0/\v=y.2)\/(y.2=0/\lc S cu cg y.1≠0/\v=lc S cu cg y.1))
theorem PS.Ou {c : Nat} {w:World} {B b:Nat} {g:bG} {s:av} (h:PS w B b g s) (hs:eH c s) (hc:c<=900) (cu cg dir:Int) (nm:List UInt8) (l:List aj) (b0:aj) (e0:Int) (hT:vv s cu cg dir nm l b0 e0) (hlen:l.length<=1000) :
    Calls Tryz.prog 26 #[.pointer (some ⟨b,0,none⟩),.agg #[cu,cg],.int .i64 dir,bs nm] w (aI w (.int .i64 (oY s.t cu cg l e0))):=by
  refine (adC (n:=4)).1 ?_
  obtain⟨F,hF⟩:=zE Fence.wide
  have hro:F.round=none:=by rw[hF];rfl
  have JA:F.fn 26:=by rw[hF];trivial
  have Pv:F.fn 41:=by rw[hF];trivial
  have hf3:F.fn 86:=by rw[hF];trivial
  have hf4:F.fn 51:=by rw[hF];trivial
  have hf5:F.fn 52:=by rw[hF];trivial
  have KD:=fun (W:World)=>QF F 3 Pv hro b cu cg dir nm W
  have KN:Hid (∀(lb m:Nat) (n:ai) (A:Option Addr) (cc:Nat) (u:World),CallsIn (F.inRound lb) m Tryz.prog 51 #[.agg #[cu,cg],.agg #[n.no,n.dev,n.kind,n.mode,n.uid,n.gid,n.mtime,n.ctime,n.ag,n.up,bs n.data,.slice A n.af.length cc],.int .i64 3] u (aI u (.bool (dX cu cg n.uid n.gid n.mode 3)))):=by
    show ∀_ _ _ _ _ _,_
    intro lb m n A cc u
    rw[hF]
    exact CallsIn.inRound lb (adC.2 (lS cu cg _ _ _ _ _ _ _ _ _ _ _ _ 3 u))
  have KF:Hid (∀(lb m:Nat) (n n2:ai) (A A2:Option Addr) (cc c2:Nat) (u:World),CallsIn (F.inRound lb) m Tryz.prog 52 #[.agg #[cu,cg],.agg #[n.no,n.dev,n.kind,n.mode,n.uid,n.gid,n.mtime,n.ctime,n.ag,n.up,bs n.data,.slice A n.af.length cc],.agg #[n2.no,n2.dev,n2.kind,n2.mode,n2.uid,n2.gid,n2.mtime,n2.ctime,n2.ag,n2.up,bs n2.data,.slice A2 n2.af.length c2]] u (aI u (.bool (jY cu n.mode n.uid n2.uid)))):=by
    show ∀_ _ _ _ _ _ _ _ _,_
    intro lb m n n2 A A2 cc c2 u
    rw[hF]
    exact CallsIn.inRound lb (adC.2 (xh cu cg _ _ _ _ _ _ _ _ _ _ _ _ _ _ _ _ _ _ _ _ _ _ _ _ u))
  rw[<-hF]
  have HF:=zH hF
  clear hF
  refine callsIn_of_wp_marks Tryz.func26 rfl JA ?_ hro
  simp only[Tryz.ntmps26,List.size_toArray,adp,List.length_nil,Nat.reduceAdd,Nat.reduceSub,Array.replicate_succ,Array.replicate_zero,List.push_toArray,List.append_toArray,adB,adV]
  gi_wp2_with (gi_at_call 41;refine (KD _).mono ?_;rintro e w3 ⟨rfl,C3,E3,Z3⟩)
  obtain⟨W1,bL⟩:∃V,V=((w.alloc (.cells #[.pointer (some ⟨b,0,none⟩)] 33)).alloc (.cells #[cu,cg] 27)).alloc (.cells #[.int .i64 0] 47):=⟨_,rfl⟩
  obtain⟨b4,oq⟩:∃x,x=w.heap.size:=⟨_,rfl⟩
  obtain⟨b5,gQ⟩:∃x,x=w.heap.size+1:=⟨_,rfl⟩
  obtain⟨b8,fM⟩:∃x,x=w.heap.size+1+1:=⟨_,rfl⟩
  obtain⟨k,hk⟩:∃x,x=w.heap.size+1+1+1:=⟨_,rfl⟩
  have hs1:W1.heap.size=k:=by rw[bL,hk];simp
  have E1:Ext w W1:=by rw[bL];exact (((Ext.refl _).alloc _).alloc _).alloc _
  have H4:Has W1 b4 (.cells #[.pointer (some ⟨b,0,none⟩)] 33):=by
    rw[bL,oq]
    exact ((Has.new w _).alloc _).alloc _
  have H5:Has W1 b5 (.cells #[cu,cg] 27):=by
    rw[bL,gQ]
    have:=Has.new (w.alloc (.cells #[.pointer (some ⟨b,0,none⟩)] 33)) (.cells #[cu,cg] 27)
    rw[adL]at this
    exact this.alloc _
  have H8:Has W1 b8 (.cells #[.int .i64 0] 47):=by
    rw[bL,fM]
    have:=Has.new ((w.alloc (.cells #[.pointer (some ⟨b,0,none⟩)] 33)).alloc (.cells #[cu,cg] 27)) (.cells #[.int .i64 0] 47)
    simp only[adL]at this
    exact this
  rw[<-bL]at E3 C3 Z3
  rw[hs1]at C3 Z3
  rw[<-hk,<-fM,<-gQ,<-oq]
  obtain⟨N,hN⟩:=zE w3.heap.size
  have abQ:N<=k+4:=by rw[hN,Z3];exact adj _
  have abR:k+4<=N:=by rw[hN,Z3];exact adj _
  have l1:w.heap.size<=b4:=by omega
  have l2:b4<b5:=by omega
  have l3:b5<b8:=by omega
  have l4:b8<k:=by omega
  have acV:W1.heap.size<=k:=by rw[hs1];exact adj _
  have HN:=zH hN
  have xi:N<=w3.heap.size:=by rw[hN];exact adj _
  have SH:w3.heap.size<=N:=by rw[hN];exact adj _
  have Mq:=zH (h.ext E1)
  have QM:=zH E1
  have HH4:=zH H4
  have HH5:=zH H5
  have HH8:=zH H8
  have HTD:=zH hs.fE.ah
  have Us:(told l b0 e0).length<=1001:=by have:=Bw l b0 e0;omega
  have KS:=MN (c:=c) F HF.out (4-1) (by omega) B b g s hs hc k cu cg dir nm l b0 e0 hT hlen w3
  clear bL oq gQ fM hk H4 H5 H8 E1 h hs hT KD hs1 Z3 hN
  refine qH hro (by omega) (gf:=86) (lb:=#[.pointer (some ⟨k,0,none⟩),.pointer (some ⟨k+1,0,none⟩),.pointer (some ⟨k+2,0,none⟩),.pointer (some ⟨k+3,0,none⟩)]) rfl hf3 (enters_of Tryz.func86 (by kernel_rfl) rfl) KS (adj _) (fun _=>rfl)
    (EE W1 N k b cu cg dir nm s.t)
    (Vt w b8 cu cg s.t)
    (by rw[<-HN.out];exact EE.bears (by omega) (by omega))
    (by rintro cc pre V R V' ⟨a1,a2,q,y,v,a3,a4,a5,a6⟩ o hR;exact⟨a1,o.after a2 (fun x hx=>by have:=(hR x hx).1;omega),q,y,v,a3,a4,o.has a5 (fun hm=>by have:=(hR _ hm).1;omega),a6⟩)
    (fun O pre V hI=>⟨Mq.out.ext hI.1,hI.2.1⟩)
    ⟨E3,C3,fun y hy=>(by cases hy),fun x hx=>(by cases hx),xi⟩
    (fun x a' V=>∃Bx,N<=Bx/\Has V Bx (.cells #[.int .i64 x.1.dir,bs x.1.name,x.1.no,.int .i64 x.1.depth] 41)/\a'={tmps:=#[.pointer (some ⟨b,0,none⟩),.agg #[cu,cg],.int .i64 dir,.string (bs nm),.pointer (some ⟨b4,0,none⟩),.pointer (some ⟨b5,0,none⟩),undef,undef,.pointer (some ⟨b8,0,none⟩),.pointer (some ⟨Bx,0,none⟩),.int .i64 x.2,undef,undef,undef,undef,.pointer (some ⟨b,0,none⟩),.agg #[cu,cg],.int .i64 dir,.string (bs nm),.func (.func 86) #[] #[.pointer (some ⟨k,0,none⟩),.pointer (some ⟨k+1,0,none⟩),.pointer (some ⟨k+2,0,none⟩),.pointer (some ⟨k+3,0,none⟩)],.agg #[.int .i64 x.1.dir,bs x.1.name,x.1.no,.int .i64 x.1.depth],.int .i64 x.2,undef,undef,undef,undef,undef,undef,undef,undef,undef,undef,undef,undef,undef,undef,undef,undef,undef,undef,undef,undef,undef,undef,undef,undef,undef,undef,undef,undef,undef,undef,undef,undef,undef,undef,undef,undef,undef,undef,undef,undef],defers:=[]})
    ?Yw ?assign ?body ?done ?stop
  case Yw =>
    rintro x a' V l o o' ⟨Bx,h1,h2,rfl⟩ hl ho hc'
    refine⟨Bx,h1,?_,rfl⟩
    have hne:Bx≠l:=fun e=>by subst e;unfold Has at h2;rw[h2]at ho;cases ho;cases hc'
    exact (World.putObj_heap_other hne).trans h2
  case assign =>
    rintro lp O pre x V K hI hG DS hK
    gi_wp2
    refine hK _ _ ((KeepsOthers.alloc _ _).from _) ((Only.jw [] V _).FK (fun b hb=>(DS b hb).lt) (fun _ _=>by simp)) ?_ ⟨V.heap.size,hI.2.2.2.2,Has.new _ _,rfl⟩
    exact (EE.bears (W1:=W1) (N:=N) (by omega) (by omega)) O pre V O [] _ hI (by rw[adv];exact Only.jw _ _ _) (fun r hr=>by cases hr) (fun x hx=>.inl hx) (fun x hx=>(DS x hx).ext ((Ext.refl V).alloc _))
  case body =>
    rintro lp O pre x a' V hI ⟨Bx,hBx,Jn,rfl⟩ hG DS
    rw[<-HN.out]
    have HI:=zH hI
    have Wm:=zH DS
    obtain⟨a1,_,a3,a4,a5⟩:=hI
    have P0:=Mq.out.ext a1
    have V4:=HH4.out.ext a1
    have V5:=HH5.out.ext a1
    have V8:=HH8.out.ext a1
    have m8:∀y∈[b8],y=b8:=fun y hy=>by simpa using hy
    have HX:Hid (∀(V1:World) (v:Int),Ext V V1->((x.2≠0/\v=x.2)\/(x.2=0/\lc s.t cu cg x.1≠0/\v=lc s.t cu cg x.1))->Bv N (EE W1 N k b cu cg dir nm s.t) (Vt w b8 cu cg s.t) O (pre++[x]) V .ret {tmps:=#[],defers:=[]} (V1.setCell ⟨b8,0,none⟩ (.int .i64 v))):=by
      show ∀_ _ _ _,_
      intro V1 v hE hv
      have o8:Only [b8] V1 (V1.setCell ⟨b8,0,none⟩ (.int .i64 v)):=Only.setCell _ _ _ _
      have o9:Only [b8] V (V1.setCell ⟨b8,0,none⟩ (.int .i64 v)):=(Only.ax hE).then o8
      exact⟨o9.l7 (fun y hy=>.inl (by have:=m8 y hy;omega)),rfl,o9.after (QM.out.trans a1) (fun y hy=>by have:=m8 y hy;omega),pre,x,v,rfl,a3,Has.setCell (V8.ext hE) 0 _,hv⟩
    have HZ:Hid (∀V1:World,Ext V V1->x.2=0->lc s.t cu cg x.1=0->Bv N (EE W1 N k b cu cg dir nm s.t) (Vt w b8 cu cg s.t) O (pre++[x]) V .normal {tmps:=#[],defers:=[]} V1):=by
      show ∀_ _ _ _,_
      intro V1 hE h1 h2
      refine⟨(Only.ax (L:=[]) hE).l7 (fun y hy=>by cases hy),(Only.ax (L:=[]) hE).FK (fun y hy=>(Wm.out y hy).lt) (fun _ _=>by simp),a1.trans hE,HI.out.2.1.only (Only.ax (L:=[]) hE) (fun y hy=>by cases hy),fun y hy=>?_,a4,by have:=hE.size;omega⟩
      rcases adm.1 hy with hy|hy
      · exact a3 y hy
      · rw[ado]at hy;subst hy;exact⟨h1,h2⟩
    by_cases aV:x.2=0
    case neg =>
      have t0:(x.2 != 0)=true:=by simpa using aV
      have c8:=V8.cell 0
      have f8:=V8.free 0
      have z8:=V8.lt
      have H9:=zH (HX.out V x.2 (Ext.refl V) (.inl ⟨aV,rfl⟩))
      clear aV a1 a3 a4 a5 P0 V4 V5 V8 Jn hG DS HX HZ
      gi_wp2
      exact H9.out
    have t0:(x.2 != 0)=false:=by simpa using aV
    have Dq:=zH aV
    have hW:=P0.V0
    obtain⟨A1,cc1,tN,KG1⟩:=kS B g s.t x.1.dir V hW
    obtain⟨n1,Cy⟩:∃n,n=ac s.t.nodes x.1.dir:=⟨_,rfl⟩
    rw[<-Cy]at tN KG1
    have abS:=zH KG1
    have Kr:=zH Cy
    obtain⟨AP,abT,SJ⟩:∃A cap,dR V b g s.now s.count A s.plan.length cap s.dead:=by obtain⟨A,cap,hp⟩:=P0;exact⟨A,cap,hp.2.1⟩
    obtain⟨_,_,cd,SK,_⟩:=id hW
    have u4:∀u:Gr V,u.w.cell? ⟨b4,0,none⟩=some (.pointer (some ⟨b,0,none⟩)):=Gr.cell V4.lt (V4.cell 0)
    have ub:∀u:Gr V,u.w.cell? ⟨b,0,none⟩=some (.pointer (some ⟨g.bW,0,none⟩)):=Gr.cell (Has.lt SJ) (Has.cell SJ 0)
    have uw:∀u:Gr V,u.w.cell? ⟨g.bW,0,none⟩=some (.pointer (some ⟨g.bT,0,none⟩)):=Gr.cell SK.lt (SK.cell 0)
    have ux:∀u:Gr V,u.w.cell? ⟨Bx,0,none⟩=some (.int .i64 x.1.dir):=Gr.cell Jn.lt (Jn.cell 0)
    have HV4:=zH V4
    have HV5:=zH V5
    have ZP:=zH V8
    have HXB:=zH Jn
    have HSA:=zH SJ
    have HWW:=zH SK
    have HW:=zH hW
    clear aV Cy KG1 tN a1 a3 a4 a5 P0 SJ SK hW V4 V5 V8 Jn hG DS
    gi_upto_region 6 with fail
    refine mg HF.out V 13 14 11 36 n1 A1 cc1 _ _ (by kernel_rfl) (by kernel_rfl) (by kernel_rfl) rfl rfl rfl rfl (by simp) ((Ext.refl _).drew) ?_
    simp only[List.take_succ_cons,List.take_zero,List.drop_succ_cons,List.drop_zero,List.drop_nil]
    repeat (refine bJ (fun K hK=>?_)
            go_simp
            first
              | (refine hK _ ?_;clear hK K)
              | (apply Exists.intro
                 refine⟨fun u=>?_,hK _ ?_⟩
                 first
                   | ((with_reducible refine (abS.out _ u.h).mono ?_);rintro e w'' ⟨rfl,hx⟩;exact⟨rfl,hx⟩)
                 clear hK K))
    refine aM ?_
    refine aM ⟨rfl,?_⟩
    refine bJ (fun K hK=>?_)
    go_simp
    refine hK _ ?_
    clear hK K
    refine aM ?_
    intro w4 dK E4 iQ N4
    simp only[Act.put]
    clear u4 ub uw ux
    obtain⟨A2,cc2,gv,KG2⟩:=kS B g s.t x.1.no w4 (HW.out.ext E4)
    obtain⟨n2,tj⟩:∃n,n=ac s.t.nodes x.1.no:=⟨_,rfl⟩
    rw[<-tj]at gv KG2
    have abU:=zH KG2
    have RO:=zH tj
    have u4:∀u:Gr w4,u.w.cell? ⟨b4,0,none⟩=some (.pointer (some ⟨b,0,none⟩)):=Gr.cell (HV4.out.ext E4).lt ((HV4.out.ext E4).cell 0)
    have ub:∀u:Gr w4,u.w.cell? ⟨b,0,none⟩=some (.pointer (some ⟨g.bW,0,none⟩)):=Gr.cell (Has.lt (HSA.out.ext E4)) (Has.cell (HSA.out.ext E4) 0)
    have uw:∀u:Gr w4,u.w.cell? ⟨g.bW,0,none⟩=some (.pointer (some ⟨g.bT,0,none⟩)):=Gr.cell (HWW.out.ext E4).lt ((HWW.out.ext E4).cell 0)
    have ux:∀u:Gr w4,u.w.cell? ⟨Bx,2,none⟩=some (.int .i64 x.1.no):=Gr.cell (HXB.out.ext E4).lt ((HXB.out.ext E4).cell 2)
    have Vu:=zH E4
    have MS:=zH N4
    clear gv KG2 tj E4 N4
    gi_upto_region 7 with fail
    refine mg HF.out w4 13 14 13 49 n2 A2 cc2 _ _ (by kernel_rfl) (by kernel_rfl) (by kernel_rfl) rfl rfl rfl rfl (by simp) ((Ext.refl _).drew) ?_
    simp only[List.take_succ_cons,List.take_zero,List.drop_succ_cons,List.drop_zero,List.drop_nil]
    repeat (refine bJ (fun K hK=>?_)
            go_simp
            first
              | (refine hK _ ?_;clear hK K)
              | (apply Exists.intro
                 refine⟨fun u=>?_,hK _ ?_⟩
                 first
                   | ((with_reducible refine (abU.out _ u.h).mono ?_);rintro e w'' ⟨rfl,hx⟩;exact⟨rfl,hx⟩)
                 clear hK K))
    refine aM ?_
    refine aM ⟨rfl,?_⟩
    refine bJ (fun K hK=>?_)
    go_simp
    refine hK _ ?_
    clear hK K
    refine aM ?_
    intro w5 mY E5 uJ N5
    simp only[Act.put]
    clear u4 ub uw ux
    have SL:=zH (Vu.out.trans E5)
    have D5:=HV5.out.ext SL.out
    have D8:=ZP.out.ext SL.out
    have c5:=D5.cell 0
    have Rp:=D5.cell 1
    have z5:=D5.lt
    obtain⟨x0,x1,x2,x3,x4,x5,x6,x7,x8,x9,ki,ke⟩:=(MS.out.ext E5).cD
    have zx:=(MS.out.ext E5).lt
    obtain⟨y0,y1,y2,y3,y4,y5,y6,y7,y8,y9,pZ,nN⟩:=N5.cD
    have zy:=N5.lt
    simp only[gA,gB,gC]at c5 Rp
    have HD5:=zH D5
    have HD8:=zH D8
    have HM:Hid (lc s.t cu cg x.1=if dX cu cg n1.uid n1.gid n1.mode 3=false then 6 else if jY cu n1.mode n1.uid n2.uid=false then 4 else 0):=by
      show _=_
      rw[Kr.out,RO.out]
      rfl
    have ZQ:=zH E5
    have Rq:=zH N5
    clear D5 D8 N5 E5
    gi_upto_if 51 with (gi_at_call 51;refine (KN.out _ _ n1 A1 cc1 _).mono ?_;rintro e w6 ⟨rfl,b6⟩)
    have OH:=zH (SL.out.trans b6)
    cases hm:dX cu cg n1.uid n1.gid n1.mode 3 with
    | false =>
      have hv:lc s.t cu cg x.1=6:=by rw[HM.out,acg hm]
      have H9:=zH (HX.out w6 6 OH.out (.inr ⟨Dq.out,by rw[hv];decide,hv.symm⟩))
      have Q8:=ZP.out.ext OH.out
      have c8:=Q8.cell 0
      have f8:=Q8.free 0
      have z8:=Q8.lt
      clear Q8 hv c5 Rp z5 x0 x1 x2 x3 x4 x5 x6 x7 x8 x9 ki ke zx y0 y1 y2 y3 y4 y5 y6 y7 y8 y9 pZ nN zy
      gi_wp2
      exact H9.out
    | true =>
      have Q5:=HD5.out.ext b6
      have c5:=Q5.cell 0
      have Rp:=Q5.cell 1
      have z5:=Q5.lt
      obtain⟨x0,x1,x2,x3,x4,x5,x6,x7,x8,x9,ki,ke⟩:=((MS.out.ext ZQ.out).ext b6).cD
      have zx:=((MS.out.ext ZQ.out).ext b6).lt
      obtain⟨y0,y1,y2,y3,y4,y5,y6,y7,y8,y9,pZ,nN⟩:=(Rq.out.ext b6).cD
      have zy:=(Rq.out.ext b6).lt
      simp only[gA,gB,gC]at c5 Rp
      clear Q5
      gi_upto_if 56 with (gi_at_call 52;refine (KF.out _ _ n1 n2 A1 A2 cc1 cc2 _).mono ?_;rintro e w7 ⟨rfl,b7⟩)
      have HE7:=zH (OH.out.trans b7)
      cases hf:jY cu n1.mode n1.uid n2.uid with
      | false =>
        have hv:lc s.t cu cg x.1=4:=by rw[HM.out,abi (by rw[hm];decide),acg hf]
        have H9:=zH (HX.out w7 4 HE7.out (.inr ⟨Dq.out,by rw[hv];decide,hv.symm⟩))
        have Q8:=ZP.out.ext HE7.out
        have c8:=Q8.cell 0
        have f8:=Q8.free 0
        have z8:=Q8.lt
        clear Q8 hv c5 Rp z5 x0 x1 x2 x3 x4 x5 x6 x7 x8 x9 ki ke zx y0 y1 y2 y3 y4 y5 y6 y7 y8 y9 pZ nN zy
        gi_wp2
        exact H9.out
      | true =>
        have hv:lc s.t cu cg x.1=0:=by rw[HM.out,abi (by rw[hm];decide),abi (by rw[hf];decide)]
        have H9:=zH (HZ.out w7 HE7.out Dq.out hv)
        clear hv c5 Rp z5 x0 x1 x2 x3 x4 x5 x6 x7 x8 x9 ki ke zx y0 y1 y2 y3 y4 y5 y6 y7 y8 y9 pZ nN zy
        gi_wp2
        exact H9.out
  case done =>
    rintro D O xs V hD hxs hI hK
    subst hxs
    obtain⟨a1,a2,a3,a4,a5⟩:=hI
    obtain⟨h0,hmap⟩:=IA (l:=l) (b:=b0) (e:=e0) (fun y hy=>(a3 y hy).1)
    have hE:oY s.t cu cg l e0=0:=by
      have:=oF (S:=s.t) (cu:=cu) (cg:=cg) l [] e0 (fun y hy=>by
        rw[<-hmap]at hy
        obtain⟨z,hz,rfl⟩:=adr.1 hy
        exact (a3 z hz).2)
      rw[adv]at this
      rw[this,h0]
      rfl
    have V8:=HH8.out.ext a1
    have c8:=V8.cell 0
    have f8:=V8.free 0
    have z8:=V8.lt
    have ZP:=zH V8
    have HK:=zH hK
    have HQ:=zH hE
    have HEW:=zH (QM.out.trans a1)
    clear a1 a2 a3 a4 a5 hK hE h0 hmap V8
    gi_wp2
    obtain⟨V2,my⟩:=zE (V.setCell ⟨b8,0,none⟩ (.int .i64 0))
    rw[<-my]
    have o2:Only [b8] V V2:=by rw[my];exact Only.setCell V b8 0 _
    have q8:Has V2 b8 (.cells #[.int .i64 0] 47):=by rw[my];exact Has.setCell ZP.out 0 _
    have hK2:=o2.has HK.out (by simp;omega)
    refine⟨by simp,.inl ⟨_,_,rfl,adQ hK2,?_⟩⟩
    have o3:Only [b8,D] V (V2.putObj D (.deferred none)):=(o2.mono (by simp)).then ((Only.putObj V2 D _).mono (by simp))
    have r8:=((Only.putObj V2 D (.deferred none)).has q8 (by simp;omega)).cell 0
    have m8:∀y∈[b8,D],y=b8\/y=D:=fun y hy=>by simpa using hy
    refine⟨.int .i64 0,by simp[results,Tryz.results26,go_sem,r8],?_⟩
    exact aI.mk (by rw[HQ.out]) (o3.after HEW.out (fun y hy=>by rcases m8 y hy with e|e<;>omega))
  case stop =>
    rintro D cc pre V hD hp ⟨rfl,hE,q,y,v,rfl,hq,h8,hv⟩ hK
    obtain⟨e1,e2⟩:=Ot hp hq
    have hve:v=oY s.t cu cg l e0:=by
      rcases hv with⟨k1,k2⟩|⟨k1,k2,k3⟩
      · rw[k2];exact (e1 k1).symm
      · rw[k3];exact (e2 k1 k2).symm
    have EV:=hE
    gi_wp2
    refine⟨by simp,.inl ⟨_,_,rfl,adQ hK,?_⟩⟩
    have r8:=((Only.putObj V D (.deferred none)).has h8 (by simp;omega)).cell 0
    refine⟨.int .i64 v,by simp[results,Tryz.results26,go_sem,r8],?_⟩
    exact aI.mk (by rw[hve]) ((Only.putObj V D _).after EV (fun x hx=>by simp at hx;omega))
end
section
open Go.ChangeShapes Go.WideShapes Go.ChangeAt Go.RowKit
def tE (w:World) (B b:Nat) (g:bG) (s':av) (x:Int) (e:Ending) (w':World):Prop:=e=.returned (.int .i64 x)/\PS w' B b g s'/\Only (b::g.list) w w'
theorem Ov {s:av} {cu cg:Int} {x:aj} (h:fk s (cT s.t x.no)≠0):jE s cu cg x=fk s (cT s.t x.no)/\iI s cu cg x=s:=⟨by unfold jE;rw[acg h],by unfold iI;rw[acg h]⟩
theorem Rs {s:av} {cu cg:Int} {x:aj} (h:fk s (cT s.t x.no)=0) (hk:(q_ s (ac s.t.nodes x.no)).kind=1):s.dead=false/\jE s cu cg x=zJ s cu cg (.lY x.dir x.name)/\iI s cu cg x=ww s cu cg (.lY x.dir x.name):=by
 have hd:s.dead=false:=by
  rcases d_ s x.no with⟨_,h2,_⟩|⟨h2,_⟩
  ·exact h2
  ·exact absurd h h2
 have e:q_ s (ac s.t.nodes x.no)=ac s.t.nodes x.no:=by unfold q_;rw[abi (by rw[hd];decide)]
 rw[e]at hk;refine ⟨hd,?_,?_⟩
 ·unfold jE FX;rw[abi (fun k=>k h),acg hk]
 ·unfold iI FX;rw[abi (fun k=>k h),acg hk]
theorem Ow {s:av} {cu cg:Int} {x:aj} (h:fk s (cT s.t x.no)=0) (hk:¬(q_ s (ac s.t.nodes x.no)).kind=1):s.dead=false/\jE s cu cg x=zJ s cu cg (.unlink x.dir x.name)/\iI s cu cg x=ww s cu cg (.unlink x.dir x.name):=by
 have hd:s.dead=false:=by
  rcases d_ s x.no with⟨_,h2,_⟩|⟨h2,_⟩
  ·exact h2
  ·exact absurd h h2
 have e:q_ s (ac s.t.nodes x.no)=ac s.t.nodes x.no:=by unfold q_;rw[abi (by rw[hd];decide)]
 rw[e]at hk;refine ⟨hd,?_,?_⟩
 ·unfold jE FX;rw[abi (fun k=>k h),abi hk]
 ·unfold iI FX;rw[abi (fun k=>k h),abi hk]
theorem PS.ZR {c:Nat} {w:World} {B b:Nat} {g:bG} {s:av} (h:PS w B b g s) (hs:eH c s) (hc:c<=900) (cu cg:Int) (x:aj) :
  Calls Tryz.prog 53 #[.pointer (some ⟨b,0,none⟩),.agg #[cu,cg],.agg #[.int .i64 x.dir,bs x.name,x.no,.int .i64 x.depth]] w (tE w B b g (iI s cu cg x) (jE s cu cg x)):=by
 obtain⟨W0,aH⟩:∃W,W=(w.alloc (.cells #[cu,cg] 27)).alloc (.cells #[.int .i64 x.dir,bs x.name,x.no,.int .i64 x.depth] 41):=⟨_,rfl⟩;obtain ⟨b4,oq⟩:∃b,b=w.heap.size:=⟨_,rfl⟩;obtain ⟨b5,gQ⟩:∃b,b=w.heap.size+1:=⟨_,rfl⟩;have E0:Ext w W0:=by rw[aH];exact ((Ext.refl _).alloc _).alloc _
 have X0:Has W0 b5 (.cells #[.int .i64 x.dir,bs x.name,x.no,.int .i64 x.depth] 41):=by rw[aH,gQ];have:=Has.new (w.alloc (.cells #[cu,cg] 27)) (.cells #[.int .i64 x.dir,bs x.name,x.no,.int .i64 x.depth] 41);rw[adL]at this;exact this
 have C0:Has W0 b4 (.cells #[cu,cg] 27):=by rw[aH,oq];exact (Has.new w _).alloc _
 have h0:=h.ext E0;obtain ⟨e1,lF⟩:∃e,e=fk s (cT s.t x.no):=⟨_,rfl⟩;obtain ⟨m1,fX⟩:∃m,m=q_ s (ac s.t.nodes x.no):=⟨_,rfl⟩;have K1:Hid (∀u,Ext W0 u->Calls Tryz.prog 45 #[.pointer (some ⟨b,0,none⟩),x.no] u (aI u (.tuple #[gU m1,.int .i64 e1]))):=by
  show ∀u,_;intro u hu;rw [fX,lF];exact (h0.ext hu).stat hs x.no
 obtain⟨S',Rt⟩:=zE (iI s cu cg x);obtain⟨E',hE'⟩:=zE (jE s cu cg x);have N1:Hid (e1≠0->E'=e1/\S'=s):=fun k=>by rw[lF]at k|-;rw[hE',Rt];exact Ov k
 have K2:Hid (e1=0->m1.kind=1->∀u,Ext W0 u->Calls Tryz.prog 97 #[.pointer (some ⟨b,0,none⟩),.agg #[cu,cg],.int .i64 x.dir,bs x.name] u (tE u B b g S' E')):=by
  show _->_->∀_,_;intro k1 k2 u hu;rw [lF]at k1;rw [fX]at k2;obtain ⟨q1,q2,q3⟩:=Rs (cu:=cu) (cg:=cg) k1 k2;rw [Rt,hE',q2,q3];exact (h0.ext hu).lY hs hc q1 cu cg x.dir x.name
 have K3:Hid (e1=0->¬m1.kind=1->∀u,Ext W0 u->Calls Tryz.prog 98 #[.pointer (some ⟨b,0,none⟩),.agg #[cu,cg],.int .i64 x.dir,bs x.name] u (tE u B b g S' E')):=by
  show _->_->∀_,_;intro k1 k2 u hu;rw [lF]at k1;rw [fX]at k2;obtain ⟨q1,q2,q3⟩:=Ow (cu:=cu) (cg:=cg) k1 k2;rw [Rt,hE',q2,q3];exact (h0.ext hu).unlink hs hc q1 cu cg x.dir x.name
 rw[<-Rt,<-hE'];have H0:=zH h0;have c0:=C0.cell 0;have c1:=C0.cell 1;have cz:=C0.lt;have x0:=X0.cell 0;have x1:=X0.cell 1;have x2:=X0.cell 2;have xz:=X0.lt;simp only[gA,gB,gC]at x0 x1 x2;clear h h0 hs lF fX Rt hE';go_enter Tryz.func53,Tryz.ntmps53;go_upto_region 1 with fail;rw [show (w.alloc _).alloc _=W0 from aH.symm,<-gQ,<-oq];clear aH oq gQ;unfold gU at K1;go_upto_region 2 with (refine (K1.out _ (Ext.refl _)).mono ?_;rintro e w1 ⟨rfl,b1⟩);obtain ⟨W1,bL⟩:∃W,W=w1.alloc (.cells #[m1.no,m1.dev,m1.kind,m1.mode,m1.uid,m1.gid,m1.ag,.int .i64 m1.data.length,m1.mtime,m1.ctime] 95):=⟨_,rfl⟩;obtain ⟨b8,fM⟩:∃b,b=w1.heap.size:=⟨_,rfl⟩;have S1:Has W1 b8 (.cells #[m1.no,m1.dev,m1.kind,m1.mode,m1.uid,m1.gid,m1.ag,.int .i64 m1.data.length,m1.mtime,m1.ctime] 95):=by rw[bL,fM];exact Has.new _ _
 have E1:Ext W0 W1:=by rw[bL];exact b1.alloc _
 rw[<-bL,<-fM];clear bL fM b1 c0 c1 cz x0 x1 x2 xz K1
 by_cases k1:e1=0
 case neg =>
  have t1:(e1 != 0)=true:=by simpa using k1
  have H1:=zH (N1.out k1);clear k1 N1 K2 K3;go_wp2_with fail;go_ret;obtain ⟨q1,q2⟩:=H1.out;rw [q1,q2];exact ⟨rfl,H0.out.ext E1,Only.ax (E0.trans E1)⟩
 have t1:(e1 != 0)=false:=by simpa using k1
 have c0:=(C0.ext E1).cell 0;have c1:=(C0.ext E1).cell 1;have cz:=(C0.ext E1).lt;have x0:=(X0.ext E1).cell 0;have x1:=(X0.ext E1).cell 1;have xz:=(X0.ext E1).lt;have y2:=S1.cell 2;have yz:=S1.lt;simp only[gA,gB,gC]at x0 x1 y2
 by_cases k2:m1.kind=1
 ·have t2:(m1.kind == 1)=true:=by simpa using k2
  have K:=zH (K2.out k1 k2);clear k1 k2 K2 K3 N1;go_wp2_with fail;refine (K.out _ E1).mono ?_;rintro e w2 ⟨rfl,P2,O2⟩;go_wp2_with fail;go_ret;exact ⟨rfl,P2,Only.pre (E0.trans E1) O2⟩
 ·have t2:(m1.kind == 1)=false:=by simpa using k2
  have K:=zH (K3.out k1 k2);clear k1 k2 K2 K3 N1;go_wp2_with fail;refine (K.out _ E1).mono ?_;rintro e w2 ⟨rfl,P2,O2⟩;go_wp2_with fail;go_ret;exact ⟨rfl,P2,Only.pre (E0.trans E1) O2⟩
attribute [local go_sem] adP
theorem SM {c:Nat} {s:av} (h:Pl c s) (cu cg:Int) (L:List (aj×Int)):Pl (c+L.length) (lC cu cg s L):=by
 induction L generalizing s c with
 | nil=>exact h
 | cons x L ih=>exact (ih (h.one cu cg x.1)).mono (by rw[adp];omega)
theorem Qy.cU {V:World} {B N:Nat} {R:List Nat} (h:Qy N R V) (hB:B<=N):dh V B R:=fun x hx=>by
 obtain⟨h1,o,h2,h3⟩:=h x hx;refine ⟨by omega,?_,?_⟩<;>rintro⟨c,f,hc⟩<;>rw[hc]at h2<;>cases h2<;>cases h3
theorem Jo {V:World} {B N:Nat} {O:List Nat} (h:∀x∈O,N<=x/\fW V x) (hB:B<=N):dh V B O:=fun x hx=>by
 obtain⟨h1,t,⟨c,f,hc⟩,h2,h3⟩:=h x hx;refine ⟨by omega,?_,?_⟩<;>rintro⟨c2,f2,tF⟩<;>rw[hc]at tF<;>cases tF
 ·exact h2 rfl
 ·exact h3 rfl
def EF (w:World) (N k b4 b5 b8 B b:Nat) (g:bG) (cu cg dir:Int) (nm:List UInt8) (s:av) (O:List Nat) (pre:List (aj×Int)) (V:World):Prop:=
 Only (b::g.list) w V/\PS V B b g (lC cu cg s pre)/\zg V k b cu cg dir nm/\Has V b4 (.cells #[.pointer (some ⟨b,0,none⟩)] 33)/\Has V b5 (.cells #[cu,cg] 27)/\Has V b8 (.cells #[.int .i64 0] 47)/\zM cu cg s pre/\(∀y∈pre,y.2=0)/\(∀x∈O,N<=x/\fW V x)/\N<=V.heap.size
theorem EF.bears {w:World} {N k b4 b5 b8 B b:Nat} {g:bG} {cu cg dir:Int} {nm:List UInt8} {s:av} (h1:w.heap.size<=b4) (h2:k+3<N) (h4:b4<b5) (h5:b5<b8) (h8:b8<k) (hB:B<=w.heap.size) (hb:∀x∈b::g.list,x<w.heap.size):Mz N (EF w N k b4 b5 b8 B b g cu cg dir nm s):=by
 rintro O pre V O' R V' ⟨a1,a2,a3,a4,a5,a6,a7,a8,a9,uk⟩ o hR hO CE;have hL:∀x∈O++R,N<=x:=fun x hx=>by
  rcases adm.1 hx with hx|hx
  ·exact (a9 x hx).1
  ·exact (hR x hx).1
 refine⟨a1.trans o (fun x hx=>.inr (by have:=hL x hx;omega)),a2.only o ((Jo a9 (by omega)).append (hR.cU (by omega))) (fun x hx hm=>by have:=hL x hm;have:=hb x hx;omega),a3.only o fun x hx=>.inr (by have:=hL x hx;omega),o.has a4 (fun hm=>by have:=hL _ hm;omega),o.has a5 (fun hm=>by have:=hL _ hm;omega),o.has a6 (fun hm=>by have:=hL _ hm;omega),a7,a8,fun x hx=>⟨?_,CE x hx⟩,by have:=o.size;omega⟩;rcases hO x hx with e|e
 ·exact (a9 x e).1
 ·omega
def Jp (w:World) (b8 B b:Nat) (g:bG) (cu cg:Int) (s:av) (cc:Code) (pre:List (aj×Int)) (V:World):Prop:=
 cc=.ret/\∃q y,pre=q++[y]/\zM cu cg s q/\Only (b::g.list) w V/\((y.2≠0/\PS V B b g (lC cu cg s q)/\Has V b8 (.cells #[.int .i64 y.2] 47))\/(y.2=0/\jE (lC cu cg s q) cu cg y.1≠0/\PS V B b g (iI (lC cu cg s q) cu cg y.1)/\Has V b8 (.cells #[.int .i64 (jE (lC cu cg s q) cu cg y.1)] 47)))
theorem Jp.bears {w:World} {N b8 B b:Nat} {g:bG} {cu cg:Int} {s:av} {cc:Code} (h1:w.heap.size<=b8) (h8:b8<N) (hB:B<=w.heap.size) (hb:∀x∈b::g.list,x<w.heap.size):MA N (Jp w b8 B b g cu cg s cc):=by
 rintro pre V R V' ⟨a1,q,y,a2,a3,a4,a5⟩ o hR;have hL:∀x∈R,N<=x:=fun x hx=>(hR x hx).1
 refine⟨a1,q,y,a2,a3,a4.trans o (fun x hx=>.inr (by have:=hL x hx;omega)),?_⟩;rcases a5 with⟨c1,c2,c3⟩|⟨c1,c2,c3,c4⟩
 ·exact .inl ⟨c1,c2.only o (hR.cU (by omega)) (fun x hx hm=>by have:=hL x hm;have:=hb x hx;omega),o.has c3 (fun hm=>by have:=hL _ hm;omega)⟩
 ·exact .inr ⟨c1,c2,c3.only o (hR.cU (by omega)) (fun x hx hm=>by have:=hL x hm;have:=hb x hx;omega),o.has c4 (fun hm=>by have:=hL _ hm;omega)⟩
theorem qW.stop {s s':av} {cu cg dir:Int} {nm:List UInt8} {e:Int} {L q:List (aj×Int)} {y:aj×Int} {k:Nat} (h:qW s cu cg dir nm s' e L k) (hp:q++[y] <+: L) (hy:y.2≠0\/(y.2=0/\jE (lC cu cg s q) cu cg y.1≠0)) :
  (y.2≠0->e=y.2/\s'=lC cu cg s q)/\(y.2=0->e=jE (lC cu cg s q) cu cg y.1/\s'=iI (lC cu cg s q) cu cg y.1):=by
 have aW:∀M:List (aj×Int),q++[y] <+: M->zM cu cg s M->(∀z∈M,z.2=0)->False:=fun M hM h1 h2=>by
  obtain⟨t,rfl⟩:=hM;have h3:=h2 y (by simp);have h4:=((gV ..).1 ((gV ..).1 h1).1).2.1;rcases hy with hy|⟨_,hy⟩
  ·exact hy h3
  ·exact hy h4
 rcases h.NZ with⟨_,h1,_,h2⟩|⟨h0,q2,y2,rfl,h1,h2,h3⟩
 ·exact absurd (aW L hp h1 h2) id
 ·rcases List.prefix_concat_iff.1 hp with h4|h4
  ·have h5:=List.append_inj' h4 rfl
   obtain⟨rfl,h6⟩:=h5;injection h6 with h6;subst h6;refine ⟨fun k1=>?_,fun k1=>?_⟩
   ·rcases h3 with⟨c1,c2⟩|⟨c1,_⟩
    ·exact⟨c1.symm,c2⟩
    ·exact absurd c1 k1
   ·rcases h3 with⟨c1,_⟩|⟨_,c2,c3⟩
    ·exact absurd (c1.symm.trans k1) h0
    ·exact⟨c2.symm,c3⟩
  ·exact absurd (aW q2 h4 h1 h2) id
theorem qW.done {s s':av} {cu cg dir:Int} {nm:List UInt8} {e:Int} {L:List (aj×Int)} {k:Nat} (h:qW s cu cg dir nm s' e L k) (hg:zM cu cg s L) (hz:∀y∈L,y.2=0):e=0/\s'=lC cu cg s L:=by
 rcases h.NZ with⟨h0,_,h2,_⟩|⟨h0,q,y,rfl,h1,h2,h3⟩
 ·exact⟨h0,h2.symm⟩
 ·exfalso
  have h4:=hz y (by simp);have h5:=((gV ..).1 hg).2.1;rcases h3 with⟨c1,_⟩|⟨_,c2,_⟩
  ·exact h0 (c1.symm.trans h4)
  ·exact h0 (c2.symm.trans h5)
theorem PS.zw {c:Nat} {w:World} {B b:Nat} {g:bG} {s:av} (h:PS w B b g s) (hp:Pl c s) (cu cg dir:Int) (nm:List UInt8) (s':av) (e':Int) (L:List (aj×Int)) (kk:Nat) (hT:qW s cu cg dir nm s' e' L kk) (hc:c+L.length<=900) (rn:kk<=100000) :
  Calls Tryz.prog 27 #[.pointer (some ⟨b,0,none⟩),.agg #[cu,cg],.int .i64 dir,bs nm] w (tE w B b g s' e'):=by
 refine (adC (n:=4)).1 ?_;obtain⟨F,hF⟩:=zE Fence.wide;have hro:F.round=none:=by rw[hF];rfl
 have JA:F.fn 27:=by rw[hF];trivial
 have Pv:F.fn 42:=by rw[hF];trivial
 have hf3:F.fn 89:=by rw[hF];trivial
 have hf4:F.fn 53:=by rw[hF];trivial
 have KD:=fun (W:World)=>YR F 3 Pv hro b cu cg dir nm W
 have KO:Hid (∀(lb m:Nat) (u:World) (q:List (aj×Int)) (x:aj),q.length<=L.length->PS u B b g (lC cu cg s q)->CallsIn (F.inRound lb) m Tryz.prog 53 #[.pointer (some ⟨b,0,none⟩),.agg #[cu,cg],.agg #[.int .i64 x.dir,bs x.name,x.no,.int .i64 x.depth]] u (tE u B b g (iI (lC cu cg s q) cu cg x) (jE (lC cu cg s q) cu cg x))):=by
  show ∀_ _ _ _ _,_;intro lb m u q x hq hu;rw [hF];exact CallsIn.inRound lb (adC.2 (hu.ZR ((SM hp cu cg q).mono (by omega:c+q.length<=c+L.length)).jR hc cu cg x))
 rw[<-hF];have HF:=zH hF;clear hF;refine callsIn_of_wp_marks Tryz.func27 rfl JA ?_ hro;simp only[Tryz.ntmps27,List.size_toArray,adp,List.length_nil,Nat.reduceAdd,Nat.reduceSub,Array.replicate_succ,Array.replicate_zero,List.push_toArray,List.append_toArray,adB,adV];gi_wp2_with (gi_at_call 42;refine (KD _).mono ?_;rintro e w3 ⟨rfl,C3,E3,Z3⟩);obtain ⟨W1,bL⟩:∃V,V=((w.alloc (.cells #[.pointer (some ⟨b,0,none⟩)] 33)).alloc (.cells #[cu,cg] 27)).alloc (.cells #[.int .i64 0] 47):=⟨_,rfl⟩;obtain ⟨b4,oq⟩:∃x,x=w.heap.size:=⟨_,rfl⟩;obtain ⟨b5,gQ⟩:∃x,x=w.heap.size+1:=⟨_,rfl⟩;obtain ⟨b8,fM⟩:∃x,x=w.heap.size+1+1:=⟨_,rfl⟩;obtain ⟨k,hk⟩:∃x,x=w.heap.size+1+1+1:=⟨_,rfl⟩;have hs1:W1.heap.size=k:=by rw[bL,hk];simp
 have E1:Ext w W1:=by rw[bL];exact (((Ext.refl _).alloc _).alloc _).alloc _
 have H4:Has W1 b4 (.cells #[.pointer (some ⟨b,0,none⟩)] 33):=by
  rw[bL,oq];exact ((Has.new w _).alloc _).alloc _
 have H5:Has W1 b5 (.cells #[cu,cg] 27):=by
  rw[bL,gQ];have:=Has.new (w.alloc (.cells #[.pointer (some ⟨b,0,none⟩)] 33)) (.cells #[cu,cg] 27);rw [adL]at this;exact this.alloc _
 have H8:Has W1 b8 (.cells #[.int .i64 0] 47):=by
  rw[bL,fM];have:=Has.new ((w.alloc (.cells #[.pointer (some ⟨b,0,none⟩)] 33)).alloc (.cells #[cu,cg] 27)) (.cells #[.int .i64 0] 47);simp only[adL]at this;exact this
 rw[<-bL]at E3 C3 Z3;rw [hs1]at C3 Z3;rw [<-hk,<-fM,<-gQ,<-oq];obtain⟨N,hN⟩:=zE w3.heap.size;have abQ:N<=k+4:=by rw[hN,Z3];exact adj _
 have abR:k+4<=N:=by rw[hN,Z3];exact adj _
 have l1:w.heap.size<=b4:=by omega
 have l2:b4<b5:=by omega
 have l3:b5<b8:=by omega
 have l4:b8<k:=by omega
 have HN:=zH hN;have xi:N<=w3.heap.size:=by rw[hN];exact adj _
 have SH:w3.heap.size<=N:=by rw[hN];exact adj _
 have mV:Hid (∀x∈b::g.list,x<w.heap.size):=h.lt;have hBw:B<=w.heap.size:=by have h1:=(h.cU b (adk ..)).1;have h2:=h.lt b (adk ..);omega
 have P3:PS w3 B b g s:=h.ext (E1.trans E3);have X3:Only (b::g.list) w w3:=Only.ax (E1.trans E3);have H43:=H4.ext E3;have H53:=H5.ext E3;have H83:=H8.ext E3;obtain ⟨M,hU,hM⟩:=hT.up;have HT:=zH hT;have KS:=UH (c:=c+L.length) F HF.out (4-1) (by omega) b (lC cu cg s) (zM cu cg s) k cu cg dir nm M L (fun pre iy=>((SM hp cu cg pre).mono (by have:=iy.length_le;omega:c+pre.length<=c+L.length)).jR) hc hU (by omega) w3;clear bL oq gQ fM hk H4 H5 H8 E1 h hp hT KD hs1 Z3 hN hU hM;refine qH hro (by omega) (gf:=89) (lb:=#[.pointer (some ⟨k,0,none⟩),.pointer (some ⟨k+1,0,none⟩),.pointer (some ⟨k+2,0,none⟩),.pointer (some ⟨k+3,0,none⟩)]) rfl hf3 (enters_of Tryz.func89 (by kernel_rfl) rfl) KS (adj _) (fun _=>rfl)
  (EF w N k b4 b5 b8 B b g cu cg dir nm s)
  (Jp w b8 B b g cu cg s)
  (by rw[<-HN.out];exact EF.bears l1 (by omega) l2 l3 l4 hBw mV.out)
  (by intro cc;rw[<-HN.out];exact Jp.bears (by omega) (by omega) hBw mV.out)
  (fun O pre V hI=>⟨hI.2.2.2.2.2.2.1,⟨B,g,hI.2.1⟩,hI.2.2.1⟩)
  ⟨X3,P3,C3,H43,H53,H83,trivial,fun y hy=>(by cases hy),fun x hx=>(by cases hx),xi⟩
  (fun x a' V=>∃Bx,N<=Bx/\Has V Bx (.cells #[.int .i64 x.1.dir,bs x.1.name,x.1.no,.int .i64 x.1.depth] 41)/\a'={tmps:=#[.pointer (some ⟨b,0,none⟩),.agg #[cu,cg],.int .i64 dir,.string (bs nm),.pointer (some ⟨b4,0,none⟩),.pointer (some ⟨b5,0,none⟩),undef,undef,.pointer (some ⟨b8,0,none⟩),.pointer (some ⟨Bx,0,none⟩),.int .i64 x.2,.pointer (some ⟨b,0,none⟩),.agg #[cu,cg],.int .i64 dir,.string (bs nm),.func (.func 89) #[] #[.pointer (some ⟨k,0,none⟩),.pointer (some ⟨k+1,0,none⟩),.pointer (some ⟨k+2,0,none⟩),.pointer (some ⟨k+3,0,none⟩)],.agg #[.int .i64 x.1.dir,bs x.1.name,x.1.no,.int .i64 x.1.depth],.int .i64 x.2,undef,undef,undef,undef,undef,undef,undef,undef,undef],defers:=[]})
  ?Yw ?assign ?body ?done ?stop
 case Yw =>
  rintro x a' V l o o' ⟨Bx,h1,h2,rfl⟩ hl ho hc';refine ⟨Bx,h1,?_,rfl⟩;have hne:Bx≠l:=fun e=>by subst e;unfold Has at h2;rw[h2]at ho;cases ho;cases hc'
  exact (World.putObj_heap_other hne).trans h2
 case assign =>
  rintro lp O pre x V K hI hG DS hK;gi_wp2;refine hK _ _ ((KeepsOthers.alloc _ _).from _) ((Only.jw [] V _).FK (fun b hb=>(DS b hb).lt) (fun _ _=>by simp)) ?_ ⟨V.heap.size,hI.2.2.2.2.2.2.2.2.2,Has.new _ _,rfl⟩;exact (EF.bears (w:=w) (N:=N) l1 (by omega) l2 l3 l4 hBw mV.out) O pre V O [] _ hI (by rw[adv];exact Only.jw _ _ _) (fun r hr=>by cases hr) (fun x hx=>.inl hx) (fun x hx=>(DS x hx).ext ((Ext.refl V).alloc _))
 case body =>
  rintro lp O pre x a' V hI ⟨Bx,hBx,Jn,rfl⟩ hG DS;rw [<-HN.out];have hpl:pre.length<=L.length:=by
   have:=hG.length_le;rw [ady]at this;omega
  have HI:=zH hI;obtain ⟨a1,a2,_,a4,a5,a6,a7,a8,a9,uk⟩:=hI
  by_cases aV:x.2=0
  ·have t0 : (x.2 == 0)=true:=by simpa using aV
   have Dq:=zH aV;have KO1:Hid (∀m,CallsIn (F.inRound lp) m Tryz.prog 53 #[.pointer (some ⟨b,0,none⟩),.agg #[cu,cg],.agg #[.int .i64 x.1.dir,bs x.1.name,x.1.no,.int .i64 x.1.depth]] V (tE V B b g (iI (lC cu cg s pre) cu cg x.1) (jE (lC cu cg s pre) cu cg x.1))):=fun m=>KO.out lp m V pre x.1 hpl a2
   obtain⟨S',Rt⟩:=zE (iI (lC cu cg s pre) cu cg x.1);obtain⟨E',hE'⟩:=zE (jE (lC cu cg s pre) cu cg x.1);rw [<-Rt,<-hE']at KO1;have HS':=zH Rt;have HE':=zH hE';have c4:=a4.cell 0;have z4:=a4.lt;have c5:=a5.cell 0;have Rp:=a5.cell 1;have z5:=a5.lt;have y0:=Jn.cell 0;have y1:=Jn.cell 1;have y2:=Jn.cell 2;have y3:=Jn.cell 3;have yz:=Jn.lt;simp only[gA,gB,gC]at y0 y1 y2 y3 c4 c5 Rp;have A6:=zH a6;clear aV Rt hE' a1 a2 a4 a5 a6 a7 a8 a9 uk Jn hG;have H2:Hid (∀V',PS V' B b g S'->Only (b::g.list) V V'->E'=0->Bv N (EF w N k b4 b5 b8 B b g cu cg dir nm s) (Jp w b8 B b g cu cg s) O (pre++[x]) V .normal {tmps:=#[],defers:=[]} V'):=by
    show ∀_ _ _ _,_;intro V' P' O' h0;obtain ⟨a1,a2,a3,a4,a5,a6,a7,a8,a9,uk⟩:=HI.out;have nb:∀y,w.heap.size<=y->y∉b::g.list:=fun y hy hm=>by have:=mV.out y hm;omega
    have hst:lC cu cg s (pre++[x])=S':=by rw[jS,HS'.out];rfl
    refine⟨O'.l7 (fun y hy=>.inl (by have:=mV.out y hy;omega)),O'.FK (fun y hy=>(a9 y hy).2.lt) (fun y hy=>nb y (by have:=(a9 y hy).1;omega)),a1.trans O' (fun y hy=>.inl hy),by rw[hst];exact P',a3.only O' (fun y hy=>.inl (by have:=mV.out y hy;omega)),O'.has a4 (nb _ l1),O'.has a5 (nb _ (by omega)),O'.has a6 (nb _ (by omega)),(gV ..).2 ⟨a7,by rw[<-HE'.out];exact h0,trivial⟩,fun y hy=>?_,fun y hy=>⟨(a9 y hy).1,(a9 y hy).2.keep (O'.block y (a9 y hy).2.lt (nb y (by have:=(a9 y hy).1;omega)))⟩,by have:=O'.size;omega⟩;rcases adm.1 hy with hy|hy
    ·exact a8 y hy
    ·rw[ado]at hy;subst hy;exact Dq.out
   have H3 : Hid (∀V',PS V' B b g S'->Only (b::g.list) V V'->E'≠0->Has V' b8 (.cells #[.int .i64 0] 47)/\Bv N (EF w N k b4 b5 b8 B b g cu cg dir nm s) (Jp w b8 B b g cu cg s) O (pre++[x]) V .ret {tmps:=#[],defers:=[]} (V'.setCell ⟨b8,0,none⟩ (.int .i64 E'))):=by
    show ∀_ _ _ _,_;intro V' P' O' h0;obtain ⟨a1,a2,a3,a4,a5,a6,a7,a8,a9,uk⟩:=HI.out;have nb:∀y,w.heap.size<=y->y∉b::g.list:=fun y hy hm=>by have:=mV.out y hm;omega
    have q8:=O'.has a6 (nb _ (by omega));have o8:Only [b8] V' (V'.setCell ⟨b8,0,none⟩ (.int .i64 E')):=Only.setCell _ _ _ _;have m8:∀y∈[b8],y=b8:=fun y hy=>by simpa using hy
    refine⟨q8,?_,rfl,pre,x,rfl,a7,?_,.inr ⟨Dq.out,by rw[<-HE'.out];exact h0,?_,?_⟩⟩
    ·exact ((O'.mono (fun y hy=>adu [b8] hy)).then (o8.mono (fun y hy=>adt _ hy))).l7 (fun y hy=>.inl (by
      rcases adm.1 hy with hy|hy
      ·have:=mV.out y hy;omega
      ·have:=m8 y hy;omega))
    ·exact (a1.trans O' (fun y hy=>.inl hy)).trans o8 (fun y hy=>.inr (by have:=m8 y hy;omega))
    ·rw [<-HS'.out]
     exact P'.only o8 (dh.cons (dh.nil _ _) (by omega) q8 (by decide) (by decide)) (fun y hy hm=>by have:=m8 y hm;have:=mV.out y hy;omega)
    ·rw [<-HE'.out]
     exact Has.setCell q8 0 _
   gi_upto_if 25 with (gi_at_call 53;refine (KO1.out _).mono ?_;rintro e w2 ⟨rfl,P2,O2⟩;clear c4 z4 c5 Rp z5 y0 y1 y2 y3 yz)
   by_cases Wy:E'=0
   ·have t1:(E' != 0)=false:=by simpa using Wy
    have H4:=zH (H2.out w2 P2 O2 Wy);clear Wy P2 O2;gi_wp2;exact H4.out
   ·have t1:(E' != 0)=true:=by simpa using Wy
    obtain⟨q8,hq⟩:=H3.out w2 P2 O2 Wy;have H4:=zH hq;have c8:=q8.cell 0;have f8:=q8.free 0;have z8:=q8.lt;clear Wy P2 O2 hq q8;gi_wp2;exact H4.out
  ·have t0:(x.2 == 0)=false:=by simpa using aV
   have t1:(x.2 != 0)=true:=by simpa using aV
   have c8:=a6.cell 0;have f8:=a6.free 0;have z8:=a6.lt;have A6:=zH a6;have Dq:=zH aV;clear a1 a2 a4 a5 a6 a7 a8 a9 uk Jn hG aV;gi_wp2;obtain ⟨a1,a2,a3,a4,a5,a6,a7,a8,a9,uk⟩:=HI.out;have o8:Only [b8] V (V.setCell ⟨b8,0,none⟩ (.int .i64 x.2)):=Only.setCell _ _ _ _;have m8:∀y∈[b8],y=b8:=fun y hy=>by simpa using hy
   exact⟨o8.l7 (fun y hy=>.inl (by have:=m8 y hy;omega)),rfl,pre,x,rfl,a7,a1.trans o8 (fun y hy=>.inr (by have:=m8 y hy;omega)),.inl ⟨Dq.out,a2.only o8 (dh.cons (dh.nil _ _) (by omega) a6 (by decide) (by decide)) (fun y hy hm=>by have:=m8 y hm;have:=mV.out y hy;omega),Has.setCell a6 0 _⟩⟩
 case done =>
  rintro D O xs V hD hxs hI hK;subst hxs;obtain ⟨a1,a2,a3,a4,a5,a6,a7,a8,a9,uk⟩:=hI;obtain ⟨q1,q2⟩:=HT.out.done a7 a8;rw [<-q2]at a2;have c8:=a6.cell 0;have f8:=a6.free 0;have z8:=a6.lt;have A1:=zH a1;have A2:=zH a2;have A6:=zH a6;have HK:=zH hK;have HQ:=zH q1;clear a1 a2 a3 a4 a5 a6 a7 a8 a9 uk hK q1 q2;gi_wp2;obtain⟨V2,my⟩:=zE (V.setCell ⟨b8,0,none⟩ (.int .i64 0));rw [<-my];have o2:Only [b8] V V2:=by rw[my];exact Only.setCell V b8 0 _
  have q8:Has V2 b8 (.cells #[.int .i64 0] 47):=by rw[my];exact Has.setCell A6.out 0 _
  have hK2:=o2.has HK.out (by simp;omega);refine ⟨by simp,.inl ⟨_,_,rfl,adQ hK2,?_⟩⟩;have o3:Only [b8,D] V (V2.putObj D (.deferred none)):=(o2.mono (by simp)).then ((Only.putObj V2 D _).mono (by simp));have r8:=((Only.putObj V2 D (.deferred none)).has q8 (by simp;omega)).cell 0;have m8:∀y∈[b8,D],y=b8\/y=D:=fun y hy=>by simpa using hy
  refine⟨.int .i64 0,by simp[results,Tryz.results27,go_sem,r8],by rw[HQ.out],A2.out.only o3 (fun y hy=>?_) (fun y hy hm=>by have:=mV.out y hy;rcases m8 y hm with e|e<;>omega),A1.out.trans o3 (fun y hy=>.inr (by rcases m8 y hy with e|e<;>omega))⟩;rcases m8 y hy with rfl|rfl
  ·exact dh.cons (dh.nil _ _) (by omega) A6.out (by decide) (by decide) _ (adk ..)
  ·refine⟨by omega,?_,?_⟩<;>rintro⟨c2,f2,tF⟩<;>rw[HK.out]at tF<;>cases tF
 case stop =>
  rintro D cc pre V hD hp ⟨rfl,q,y,rfl,hg,hO,h8⟩ hK;have hy:y.2≠0\/(y.2=0/\jE (lC cu cg s q) cu cg y.1≠0):=h8.imp (fun h=>h.1) (fun h=>⟨h.1,h.2.1⟩);obtain ⟨e1,e2⟩:=HT.out.stop hp hy;have key:PS V B b g s'/\Has V b8 (.cells #[.int .i64 e'] 47):=by
   rcases h8 with⟨c1,c2,c3⟩|⟨c1,c2,c3,c4⟩
   ·obtain ⟨k1,k2⟩:=e1 c1
    rw[k1,k2];exact⟨c2,c3⟩
   ·obtain ⟨k1,k2⟩:=e2 c1
    rw[k1,k2];exact⟨c3,c4⟩
  obtain⟨P8,h8⟩:=key;gi_wp2;refine ⟨by simp,.inl ⟨_,_,rfl,adQ hK,?_⟩⟩;have o3:Only [D] V (V.putObj D (.deferred none)):=Only.putObj V D _;have r8:=(o3.has h8 (by simp;omega)).cell 0;have m8:∀y∈[D],y=D:=fun y hy=>by simpa using hy
  refine⟨.int .i64 e',by simp[results,Tryz.results27,go_sem,r8],rfl,P8.only o3 (fun y hy=>?_) (fun y hy hm=>by have:=mV.out y hy;have:=m8 y hm;omega),hO.trans o3 (fun y hy=>.inr (by have:=m8 y hy;omega))⟩;have:=m8 y hy;subst this;refine ⟨by omega,?_,?_⟩<;>rintro⟨c2,f2,tF⟩<;>rw[hK]at tF<;>cases tF
end
section
open Go.ChangeShapes Go.WideShapes Go.ChangeAt Go.RowKit
theorem Vv {m:Int} (h0:0<=m) (h1:m<=1023):bits .or .i64 m 448=orM m/\0<=orM m/\orM m<=1023/\yG (orM m / 64) 7=true:=by
 have:∀x:Fin 1024,bits .or .i64 (x.val:Int) 448=orM (x.val:Int)/\0<=orM (x.val:Int)/\orM (x.val:Int)<=1023/\yG (orM (x.val:Int) / 64) 7=true:=by decide +kernel
 have:=this ⟨m.toNat,by omega⟩;rw [show ((⟨m.toNat,by omega⟩:Fin 1024).val:Int)=m by show ((m.toNat:Nat):Int)=m;omega]at this;exact this
theorem jF.abV {cu cg dev:Int} {s s':av} {e:Int} {k:Nat} (h:jF cu cg dev s [] s' e k):s'=s/\e=0:=by cases h;exact⟨rfl,rfl⟩
theorem jF.ZS {cu cg dev:Int} {s s':av} {no:Int} {t:List Int} {e:Int} {k:Nat} (h:jF cu cg dev s (no::t) s' e k) (hb:mU s dev no):s'=s/\e=16:=by
 cases h with
 | busy=>exact⟨rfl,rfl⟩
 | skip h1=>exact absurd hb h1
 | shut h1=>exact absurd hb h1
 | list h1=>exact absurd hb h1
 | step h1=>exact absurd hb h1
theorem jF.ZT {cu cg dev:Int} {s s':av} {no:Int} {t:List Int} {e:Int} {k:Nat} (h:jF cu cg dev s (no::t) s' e k) (hb:¬mU s dev no) (hk:(ac s.t.nodes no).kind≠1):∃k',k=k'+1/\jF cu cg dev s t s' e k':=by
 cases h with
 | busy h1=>exact absurd h1 hb
 | skip _ _ h3=>exact⟨_,rfl,h3⟩
 | shut _ h2=>exact absurd h2 hk
 | list _ h2=>exact absurd h2 hk
 | step _ h2=>exact absurd h2 hk
theorem jF.abW {cu cg dev:Int} {s s':av} {no:Int} {t:List Int} {e:Int} {k:Nat} (h:jF cu cg dev s (no::t) s' e k) (hb:¬mU s dev no) (hk:(ac s.t.nodes no).kind=1) :
  (F9 s cu cg no≠0->s'=pU s cu cg no/\e=F9 s cu cg no)/\(F9 s cu cg no=0->(JT (pU s cu cg no) cu cg no≠0->s'=pU s cu cg no/\e=JT (pU s cu cg no) cu cg no)/\(JT (pU s cu cg no) cu cg no=0->∃k',k=k'+1/\jF cu cg dev (pU s cu cg no) (Wx (pU s cu cg no) cu cg no++t) s' e k')):=by
 cases h with
 | busy h1=>exact absurd h1 hb
 | skip _ h2=>exact absurd hk h2
 | shut _ _ h3=>exact⟨fun _=>⟨rfl,rfl⟩,fun h=>absurd h h3⟩
 | list _ _ h3 h4=>exact⟨fun h=>absurd h3 h,fun _=>⟨fun _=>⟨rfl,rfl⟩,fun h=>absurd h h4⟩⟩
 | step _ _ h3 h4 h5=>exact⟨fun h=>absurd h3 h,fun _=>⟨fun h=>absurd h4 h,fun _=>⟨_,rfl,h5⟩⟩⟩
theorem jF.pos {cu cg dev:Int} {s s':av} {no:Int} {t:List Int} {e:Int} {k:Nat} (h:jF cu cg dev s (no::t) s' e k):1<=k:=by cases h<;>omega
theorem PS.Vw {c:Nat} {w:World} {B b:Nat} {g:bG} {s:av} (h:PS w B b g s) (hp:Pl c s) (cu cg dir:Int) (nm:List UInt8) (s1:av) (e1:Int) (k1:Nat)
  (hT:(dp s cu cg dir nm≠0/\s1=s/\e1=dp s cu cg dir nm/\k1=0)\/(dp s cu cg dir nm=0/\s.dead=false/\jF cu cg (ac s.t.nodes dir).dev s [(cO s cu cg dir nm).no] s1 e1 k1)) (hc:c+k1<=900) :
  Calls Tryz.prog 58 #[.pointer (some ⟨b,0,none⟩),.agg #[cu,cg],.int .i64 dir,bs nm] w (tE w B b g s1 e1):=by
 obtain⟨W0,aH⟩:∃W,W=w.alloc (.cells #[cu,cg] 27):=⟨_,rfl⟩;obtain ⟨b5,gQ⟩:∃b,b=w.heap.size:=⟨_,rfl⟩;have E0:Ext w W0:=by rw[aH];exact (Ext.refl _).alloc _
 have C0:Has W0 b5 (.cells #[cu,cg] 27):=by rw[aH,gQ];exact Has.new w _
 have h0:=h.ext E0;have mV:Hid (∀x∈b::g.list,x<w.heap.size):=h.lt;have nb:Hid (∀y,w.heap.size<=y->y∉b::g.list):=fun y hy hm=>by have:=h.lt y hm;omega
 obtain⟨X,hX⟩:=zE ((cO s cu cg dir nm).no);obtain ⟨eX,heX⟩:∃e,e=dp s cu cg dir nm:=⟨_,rfl⟩;have KL:Hid (Calls Tryz.prog 28 #[.pointer (some ⟨b,0,none⟩),.agg #[cu,cg],.int .i64 dir,bs nm] W0 (aI W0 (.tuple #[.int .i64 X,.int .i64 eX]))):=by
  show Calls _ _ _ _ _;rw [hX,heX];exact h0.look hp.jR (by omega) cu cg dir nm
 obtain ⟨m0,hm0⟩:∃m,m=q_ s (ac s.t.nodes dir):=⟨_,rfl⟩;obtain ⟨em,VX⟩:∃e,e=fk s (cT s.t dir):=⟨_,rfl⟩;have KS:Hid (∀u,Ext W0 u->Calls Tryz.prog 45 #[.pointer (some ⟨b,0,none⟩),.int .i64 dir] u (aI u (.tuple #[gU m0,.int .i64 em]))):=by
  show ∀u,_;intro u hu;rw [hm0,VX];exact (h0.ext hu).stat hp.jR dir
 rw [<-hX,<-heX]at hT;have HDV:Hid (eX=0->(ac s.t.nodes dir).dev=m0.dev):=fun he=>by
  rcases hT with⟨k,_⟩|⟨_,hd,_⟩
  ·exact absurd he k
  ·rw[hm0];unfold q_;rw[abi (by rw[hd];decide)]
 have HT:=zH hT;have HP:=zH hp;have H0:=zH h0;have c0:=C0.cell 0;have c1:=C0.cell 1;have cz:=C0.lt;simp only[gA,gB,gC]at c0 c1;clear h h0 hp hT hX heX hm0 VX;go_enter Tryz.func58,Tryz.ntmps58;go_upto_region 1 with fail;rw [<-aH,<-gQ];have ZU:w.heap.size<=b5:=by omega
 clear aH gQ;go_wp2_with fail;refine KL.out.mono ?_;rintro e w1 ⟨rfl,b1⟩;clear c0 c1 cz KL
 by_cases hE:eX=0
 case neg =>
  have t1:(eX != 0)=true:=by simpa using hE
  have HE:=zH hE;clear hE;go_wp2_with fail;go_ret;rcases HT.out with⟨_,rfl,rfl,_⟩|⟨k,_⟩
  ·exact⟨rfl,H0.out.ext b1,Only.ax (E0.trans b1)⟩
  ·exact absurd k HE.out
 have t1:(eX != 0)=false:=by simpa using hE
 obtain ⟨hd0,ZV⟩:s.dead=false/\jF cu cg m0.dev s [X] s1 e1 k1:=by
  rcases HT.out with⟨k,_⟩|⟨_,k2,k3⟩
  ·exact absurd hE k
  ·rw[<-HDV.out hE];exact⟨k2,k3⟩
 have Ru:=zH ZV;have HD0:=zH hd0;clear hE hd0 ZV HT HDV;unfold gU at KS;go_wp2_with fail;refine (KS.out _ b1).mono ?_;rintro e w2 ⟨rfl,b2⟩;clear KS t1;go_upto_region 5 with fail;obtain ⟨W3,cj⟩:∃W,W=w2.alloc (.cells #[m0.no,m0.dev,m0.kind,m0.mode,m0.uid,m0.gid,m0.ag,.int .i64 m0.data.length,m0.mtime,m0.ctime] 95):=⟨_,rfl⟩;obtain ⟨dK,iQ⟩:∃b,b=w2.heap.size:=⟨_,rfl⟩;obtain ⟨dv,Lk⟩:∃d,d=m0.dev:=⟨_,rfl⟩;have S3:∃z0 z2 z3 z4 z5 z6 z7 z8 z9,Has W3 dK (.cells #[z0,.int .i64 dv,z2,z3,z4,z5,z6,z7,z8,z9] 95):=⟨_,_,_,_,_,_,_,_,_,by rw[cj,iQ,Lk];exact Has.new _ _⟩;have E3:Ext W0 W3:=by rw[cj];exact (b1.trans b2).alloc _
 rw[<-cj,<-iQ];rw [<-Lk]at Ru;have LJ:b5<dK:=by have:=(C0.ext (b1.trans b2)).lt;omega
 obtain⟨z0,z2,z3,z4,z5,z6,z7,z8,z9,S3⟩:=S3;clear cj iQ Lk b1 b2;go_wp2_with fail;obtain ⟨W4,ij⟩:∃W,W=W3.alloc (.cells #[.int .i64 X] 3):=⟨_,rfl⟩;obtain ⟨br,DR⟩:∃b,b=W3.heap.size:=⟨_,rfl⟩;have MP:dK<br:=by have:=S3.lt;omega
 have N4:Has W4 br (.cells #[.int .i64 X] 3):=by rw[ij,DR];exact Has.new _ _
 have E4:Ext W3 W4:=by rw[ij];exact (Ext.refl _).alloc _
 have O4:dq jQ W4 br (.slice (some ⟨br,0,none⟩) 1 1) [X]:=⟨rfl,.inr ⟨br,1,_,rfl,adj _,N4,adj _,by decide,rfl,rfl⟩⟩;have ZW:br<=W4.heap.size:=by have:=N4.lt;omega
 rw[<-ij,<-DR];have HC4:=zH ((C0.ext E3).ext E4);have HS4:=zH (S3.ext E4);have SC:=zH (H0.out.ext (E3.trans E4));have FR:=zH (Only.ax (L:=b::g.list) (E0.trans (E3.trans E4)));clear ij DR N4 E4 C0 S3 E3 H0;go_loopg [9,13] k1 (fun mm vno vt wr=>∃(si:av) (t:List Int) (no0:Int),vno=.int .i64 no0/\dq jQ wr br vt t.reverse/\PS wr B b g si/\Hid (Only (b::g.list) w wr)/\Has wr b5 (.cells #[cu,cg] 27)/\Has wr dK (.cells #[z0,.int .i64 dv,z2,z3,z4,z5,z6,z7,z8,z9] 95)/\Hid (jF cu cg dv si t s1 e1 mm)/\Hid (si.dead=false)/\Hid (Pl (c+(k1-mm)) si)/\mm<=k1/\t.length<=1+(k1-mm)*1000/\br<=wr.heap.size)
 case atStart=>exact⟨s,[X],X,rfl,O4,SC.out,FR,HC4.out,HS4.out,Ru,HD0,by show Pl _ _;rw[Nat.sub_self];exact HP.out,adj _,by simp,ZW⟩
 case round =>
  obtain⟨si,t,no0,rfl,hO,hP,Vx,H5,SN,hF,hd,ZX,hmm,rQ,acW⟩:=hrel;clear O4 ZW HC4 HS4 SC FR Ru HD0 HP;have hc1:c+(k1-gk)<=900:=by omega
  have hPS:=zH hP;have H5':=zH H5;have Rv:=zH SN
  cases t with
  | nil =>
   obtain ⟨rfl,rfl⟩:=hF.out.abV;obtain ⟨A9,c9,Wl⟩:∃A9 c9,u13=.slice A9 0 c9:=by
    rcases hO.cases with⟨h,_⟩|⟨g,cap,_,h,_⟩
    ·exact⟨_,_,h⟩
    ·exact⟨_,_,h⟩
   clear hO hP H5 SN hF ZX rQ;subst Wl;go_wp2_with fail;go_ret;exact ⟨rfl,hPS.out,Vx.out⟩
  | cons no t' =>
   have jK:=hF.out.pos;obtain⟨T',zh⟩:=zE t'.length;have hT1:T'<=1000000:=by rw[adp]at rQ;omega
   rw[List.reverse_cons]at hO;have Iy:(t'.reverse++[no]).length=T'+1:=by rw[ady,adM,zh];rfl
   obtain ⟨gr,cap,cur,hv,aba,MQ,s3,pd,hcell⟩:∃gr cap cur,u13=.slice (some ⟨gr,0,none⟩) (t'.reverse++[no]).length cap/\br<=gr/\Has wr gr (.cells cur jQ.t)/\(t'.reverse++[no]).length<=cap/\cap<=maxLen/\∀i,(h:i<(t'.reverse++[no]).length)->∀j,j<jQ.k->wr.cell? ⟨gr,i*jQ.k+j,none⟩=(jQ.enc (t'.reverse++[no])[i])[j]?:=by
    rcases hO.cases with⟨_,h2⟩|h2
    ·simp at h2
    ·exact h2
   have hq:wr.cell? ⟨gr,T',none⟩=some (.int .i64 no):=by
    have h1:=hcell T' (by rw[Iy];omega) 0 (by decide);have h2:(t'.reverse++[no])[T']'(by rw[Iy];omega)=no:=by
     rw[List.getElem_append_right (by rw[adM,zh];exact adj _)];simp [zh]
    rw[h2]at h1;have h3:T'*jQ.k+0=T':=by show T'*1+0=T';omega
    rw[h3]at h1;exact h1
   rw[hv]at hO;have Vy:=hO.pop;have hpl:t'.reverse.length=T':=by rw[adM,zh]
   rw[hpl]at Vy;rw [Iy]at hv s3;have hqz:=MQ.lt;have AY:IntKind.i64.wrap (T':Int)=(T':Int):=adw _ (by omega);have Wh:IntKind.i64.wrap ((T':Int)+1-1)=(T':Int):=by rw[adw _ (by omega)];omega
   have p0:(0:Int)<=(T':Int):=adE _;have Qa:T'+1<=cap:=s3;obtain ⟨A1,q1,tN,KG⟩:=kS B g si.t no wr hP.V0;obtain⟨n,hn⟩:=zE (ac si.t.nodes no);obtain ⟨bI,hbI⟩:∃x,x=aJ si.t.nodes no:=⟨_,rfl⟩;rw [<-hn,<-hbI]at KG;have ZY:=zH KG;have HN:=zH hn;have ZZ:=zH hbI;have Z0:=zH Vy;have QD:=zH zh;have TC:=zH rQ;obtain ⟨_,_,cd,SK,_⟩:=id hP.V0;obtain ⟨AP,abT,SJ⟩:∃A cap,dR wr b g si.now si.count A si.plan.length cap si.dead:=by obtain⟨A,cap,hp⟩:=hP;exact⟨A,cap,hp.2.1⟩
   have s0:=Has.cell SJ 0;have sz:=Has.lt SJ;have v0:=SK.cell 0;have vz:=SK.lt;simp only[gA,gB]at s0 v0;clear hO hP H5 SN hcell s3 pd MQ hn hbI KG tN Vy hpl Iy zh rQ SK SJ;subst hv;go_upto_region 9 with fail;clear hq hqz Wh Qa;go_wp2_with fail;refine (ZY.out _ (Ext.refl _)).mono ?_;rintro e w3 ⟨rfl,b3⟩;clear s0 sz v0 vz ZY;go_upto_region 10 with fail;obtain ⟨W5,jJ⟩:∃W,W=w3.alloc (.cells #[n.no,n.dev,n.kind,n.mode,n.uid,n.gid,n.mtime,n.ctime,n.ag,n.up,bs n.data,.slice A1 n.af.length q1] 66):=⟨_,rfl⟩;obtain ⟨lW,nU⟩:∃b,b=w3.heap.size:=⟨_,rfl⟩;have N5:Has W5 lW (.cells #[n.no,n.dev,n.kind,n.mode,n.uid,n.gid,n.mtime,n.ctime,n.ag,n.up,bs n.data,.slice A1 n.af.length q1] 66):=by rw[jJ,nU];exact Has.new _ _
   have E5:Ext wr W5:=by rw[jJ];exact b3.alloc _
   have Sa:wr.heap.size<=lW:=by have:=b3.size;omega
   rw[<-jJ,<-nU];clear jJ nU b3;have SL:=zH E5;have Rq:=zH N5;have x1:=N5.cell 1;have x2:=N5.cell 2;have xz:=N5.lt;have y1:=(Rv.out.ext E5).cell 1;have yz:=(Rv.out.ext E5).lt;simp only[gA,gB,gC]at x1 x2 y1;have P5:=zH (hPS.out.ext E5);have O5:Hid (Only (b::g.list) w W5):=Vx.out.trans (Only.ax E5) (fun y hy=>.inl hy);have Vz:=zH (Z0.out.ext E5);have C5:=zH (H5'.out.ext E5);have S5:=zH (Rv.out.ext E5);have s5:br<=W5.heap.size:=by have:=E5.size;omega
   clear E5 N5 hPS Z0 H5' Rv Vx
   by_cases hb:mU si dv no
   ·obtain ⟨k1',Dk⟩:=hF.out.ZS hb
    have hI:bI=true:=by rw[ZZ.out];exact hb.1
    have t1:(n.dev != dv)=true:=by rw[HN.out];simpa using hb.2
    have H9:Hid (s1=si/\e1=16):=⟨k1',Dk⟩;clear hb k1' Dk hF;subst hI;go_wp2_with fail;go_ret;rw [H9.out.1,H9.out.2];exact ⟨rfl,P5.out,O5.out⟩
   have HB:=zH hb
   by_cases hk:n.kind=1
   case neg =>
    obtain⟨k',hk',Z1⟩:=hF.out.ZT hb (by rw[<-HN.out];exact hk);have t2:(n.kind != 1)=true:=by simpa using hk
    have hFF:=zH Z1;have HK:=zH hk';clear hk hb hF Z1 hk';have REL:Hid (∀u13,u13=.slice (some ⟨gr,0,none⟩) T' cap->∃(si:av) (t:List Int) (no0:Int),Value.int .i64 no=.int .i64 no0/\dq jQ W5 br u13 t.reverse/\PS W5 B b g si/\Hid (Only (b::g.list) w W5)/\Has W5 b5 (.cells #[cu,cg] 27)/\Has W5 dK (.cells #[z0,.int .i64 dv,z2,z3,z4,z5,z6,z7,z8,z9] 95)/\Hid (jF cu cg dv si t s1 e1 k')/\Hid (si.dead=false)/\Hid (Pl (c+(k1-k')) si)/\k'<=k1/\t.length<=1+(k1-k')*1000/\br<=W5.heap.size):=by
     show ∀_,_->_;rintro _ rfl;have hk9:=HK.out;have ht9:=TC.out;rw [adp]at ht9;exact ⟨si,t',no,rfl,Vz.out,P5.out,O5,C5.out,S5.out,hFF,hd,ZX.out.mono (by omega),by omega,by omega,s5⟩
    cases hI:bI with
    | false =>
     subst hI;go_wp2_with fail;go_roundg k'
     case measure=>have:=HK.out;omega
     case rel=>exact REL.out _ rfl
    | true =>
     have Lk:n.dev=dv:=by
      refine adW fun h9=>HB.out ⟨ZZ.out.symm.trans hI,?_⟩
      rw[<-HN.out];exact h9
     have t1:(n.dev != dv)=false:=by simpa using Lk
     clear Lk;subst hI;go_wp2_with fail;go_roundg k'
     case measure=>have:=HK.out;omega
     case rel=>exact REL.out _ rfl
   obtain⟨f1,f2⟩:=hF.out.abW hb (by rw[<-HN.out];exact hk);have hI:bI=true:=by rw[ZZ.out];exact (aO (by rw[<-HN.out];exact hk)).1
   have Lk:n.dev=dv:=by
    refine adW fun h9=>hb ⟨ZZ.out.symm.trans hI,?_⟩
    rw[<-HN.out];exact h9
   have t1:(n.dev != dv)=false:=by simpa using Lk
   have t2:(n.kind != 1)=false:=by simpa using hk
   have JH:=zH hk;have Sv:=zH f1;have Vb:=zH f2;clear f1 f2 Lk hb hk hF;subst hI;go_upto_region 13 with fail;have hsh:Hid (FZ si.t cu cg no=(!dX cu cg n.uid n.gid n.mode 7&&fB cu n.uid)):=by show _=_;rw[HN.out];rfl
   obtain⟨sh,VA⟩:∃x,x=FZ si.t cu cg no:=⟨_,rfl⟩;rw [<-VA]at hsh;have HSH:=zH VA;clear VA t1 t2 x1 x2 xz y1 yz;have HTV:=zH (show (t'.length:Int)=T' by rw[QD.out]);go_cut [90] (fun v wc=>v=.bool sh/\Ext W5 wc)
   case first =>
    have c0:=C5.out.cell 0;have c1:=C5.out.cell 1;have cz:=C5.out.lt;obtain ⟨x0,x1,x2,x3,x4,x5,x6,x7,x8,x9,ki,ke⟩:=Rq.out.cD;have zx:=Rq.out.lt;simp only[gA,gB,gC]at c0 c1;go_wp2_with fail;refine (lS cu cg _ _ _ _ _ _ _ _ _ _ _ _ 7 _).mono ?_;rintro e w6 ⟨rfl,b6⟩;clear c0 c1 cz x0 x1 x2 x3 x4 x5 x6 x7 x8 x9 ki ke zx;have B6:=zH b6
    cases hm:dX cu cg n.uid n.gid n.mode 7 with
    | true =>
     have h9:Hid (sh=false):=zH (by rw[hsh.out,hm];rfl);clear b6;go_wp2_with fail;go_meet;exact ⟨by rw[h9.out],B6.out⟩
    | false =>
     have h9:Hid (sh=fB cu n.uid):=zH (by rw[hsh.out,hm];rfl);have c0:=(C5.out.ext b6).cell 0;have c1:=(C5.out.ext b6).cell 1;have cz:=(C5.out.ext b6).lt;obtain ⟨x0,x1,x2,x3,x4,x5,x6,x7,x8,x9,ki,ke⟩:=(Rq.out.ext b6).cD;have zx:=(Rq.out.ext b6).lt;simp only[gA,gB,gC]at c0 c1;clear b6;go_wp2_with fail;refine (oK cu cg _ _ _ _ _ _ _ _ _ _ _ _ _).mono ?_;rintro e w7 ⟨rfl,b7⟩;have B7:=zH (B6.out.trans b7);clear b7 c0 c1 cz x0 x1 x2 x3 x4 x5 x6 x7 x8 x9 ki ke zx;go_wp2_with fail;go_meet;exact ⟨by rw[h9.out],B7.out⟩
   case rest =>
   obtain⟨rfl,B6⟩:=hcut;obtain ⟨W6,ze⟩:∃W,W=wc:=⟨_,rfl⟩;rw [<-ze]at B6|-;clear ze
   iterate 1 (first|go_back|go_values|go_skip|go_guarded|go_step|go_upon)
   have hmode:Hid (bits .or .i64 n.mode 448=orM n.mode):=by
    show _=_;obtain ⟨_,_,hm⟩:=ak ZZ.out.symm;have:=ZX.out.iB.fE.bits _ hm;rw [<-HN.out]at this;exact (Vv this.1 this.2.1).1
   obtain ⟨S2,BL⟩:∃x,x=pU si cu cg no:=⟨_,rfl⟩;obtain ⟨E2,kD⟩:∃x,x=F9 si cu cg no:=⟨_,rfl⟩;have KNO:Hid (sh=false->S2=si/\E2=0):=fun h=>by
    rw[HSH.out]at h;rw [BL,kD];exact ⟨by unfold pU;rw[abi (by rw[h];decide)],by unfold F9;rw[abi (by rw[h];decide)]⟩
   have KC:Hid (sh=true->∀u,Ext W6 u->Calls Tryz.prog 68 #[.pointer (some ⟨b,0,none⟩),.agg #[cu,cg],.int .i64 no,.int .i64 (bits .or .i64 n.mode 448)] u (tE u B b g S2 E2)):=by
    show _->∀_,_->Calls _ _ _ _ _;intro h u hu;rw [HSH.out]at h;have e1:S2=ww si cu cg (.dP no (orM n.mode)):=by rw[BL,HN.out];unfold pU;rw[acg h];rfl
    have e2:E2=zJ si cu cg (.dP no (orM n.mode)):=by rw[kD,HN.out];unfold F9;rw[acg h];rfl
    rw[e1,e2,hmode.out];exact (P5.out.ext (B6.trans hu)).dP ZX.out.jR hc1 hd.out cu cg no (orM n.mode)
   have HS2:=zH BL;have SG:=zH kD;have HB6:=zH B6;have Ws:Hid (E2≠0->s1=S2/\e1=E2):=by show _->_;rw[BL,kD];exact Sv.out
   clear BL kD Sv hmode;go_cut [] (fun wc=>PS wc B b g S2/\E2=0/\Only (b::g.list) W5 wc)
   case first =>
    cases sh with
    | false =>
     obtain⟨h1,h2⟩:=KNO.out rfl;have H1:=zH h1;have H2:=zH h2;clear h1 h2 KC KNO B6;go_wp2_with fail;go_meet;exact ⟨by rw[H1.out];exact P5.out.ext HB6.out,H2.out,Only.ax HB6.out⟩
    | true =>
     have KC1:=zH (KC.out rfl);have c0:=(C5.out.ext B6).cell 0;have c1:=(C5.out.ext B6).cell 1;have cz:=(C5.out.ext B6).lt;have x3:=(Rq.out.ext B6).cell 3;have xz:=(Rq.out.ext B6).lt;simp only[gA,gB,gC]at c0 c1 x3;clear KC KNO B6;go_wp2_with fail;refine (KC1.out _ (Ext.refl _)).mono ?_;rintro e w7 ⟨rfl,P7,O7⟩;have Wz:=zH P7;have UG:Hid (Only (b::g.list) W5 w7):=Only.pre HB6.out O7;clear P7 O7 c0 c1 cz x3 xz KC1
     by_cases hE:E2=0
     ·have t1:(E2 != 0)=false:=by simpa using hE
      have HE:=zH hE;clear hE;go_wp2_with fail;go_meet;exact ⟨Wz.out,HE.out,UG.out⟩
     ·have t1:(E2 != 0)=true:=by simpa using hE
      have HE:=zH (Ws.out hE);clear hE;go_wp2_with fail;go_ret;rw [HE.out.1,HE.out.2];exact ⟨rfl,Wz.out,O5.out.trans UG.out (fun y hy=>.inl hy)⟩
   case rest =>
   obtain⟨P7,hE,O7⟩:=hcut;obtain ⟨W7,Rd⟩:∃W,W=wc:=⟨_,rfl⟩;rw [<-Rd]at P7 O7|-;clear Rd KC KNO B6;have Mk:Hid (Pl (c+(k1-gk)+1) S2):=by show Pl _ _;rw[HS2.out];exact ZX.out.op cu cg no
   have tk:Hid (S2.dead=false):=by show _=_;rw[HS2.out];exact Cm hd.out (SG.out.symm.trans hE)
   have HF4:Hid ((JT S2 cu cg no≠0->s1=S2/\e1=JT S2 cu cg no)/\(JT S2 cu cg no=0->∃k',gk=k'+1/\jF cu cg dv S2 (Wx S2 cu cg no++t') s1 e1 k')):=by
    show _/\_;rw [HS2.out];exact Vb.out (SG.out.symm.trans hE)
   obtain ⟨L,hL⟩:∃x,x=Og S2 cu cg no:=⟨_,rfl⟩;obtain ⟨e3,pY⟩:∃x,x=JT S2 cu cg no:=⟨_,rfl⟩;have KLS:Hid (Calls Tryz.prog 102 #[.pointer (some ⟨b,0,none⟩),.agg #[cu,cg],.int .i64 no] W7 (qC W7 L e3)):=by
    show Calls _ _ _ _ _;rw [hL,pY];exact P7.list Mk.out.jR (by omega) cu cg no
   have Us:L.length<=900:=by
    rw[hL];unfold Og sa;split
    ·simp
    ·rw[gG];have:=(Mk.out.jR.fE.bf cu cg no 1 4).2;omega
   have uF:Hid (Wx S2 cu cg no=L.map (·.2)):=by show _=_;rw[hL];rfl
   rw[<-pY]at HF4;have UG:Hid (Only (b::g.list) w W7):=O5.out.trans O7 (fun y hy=>.inl hy);have Wz:=zH P7;have C7:=zH (O7.has C5.out (nb.out _ ZU));have D7:=zH (O7.has S5.out (nb.out _ (by omega)));have Z2:Hid (dq jQ W7 br (.slice (some ⟨gr,0,none⟩) T' cap) t'.reverse):=Vz.out.only O7 (fun y hy=>nb.out y (by have:=(Vz.out.lt hy).1;omega));have s7:br<=W7.heap.size:=by have:=O7.size;omega
   have c0:=C7.out.cell 0;have c1:=C7.out.cell 1;have cz:=C7.out.lt;simp only[gA,gB,gC]at c0 c1;have HT7:Hid (t'.length=T'):=QD.out.symm;clear hL pY P7 O7 hE SG Vb Ws HS2;go_wp2_with fail;refine KLS.out.mono ?_;rintro e w8 ⟨A8,c8,rfl,⟨Hh,Z4⟩,b8⟩;clear c0 c1 cz KLS;obtain ⟨n8,hn8⟩:∃x,x=L.length:=⟨_,rfl⟩;have acX:n8<=900:=by omega
   have Vi:=zH hn8;rw [<-hn8];have JE:=zH Hh;have XQ:=zH Z4;have IU:=zH b8;clear Hh Z4 hn8 Us
   by_cases he:e3=0
   case neg =>
    have t1:(e3 != 0)=true:=by simpa using he
    have HE:=zH (HF4.out.1 he);clear he b8;go_wp2_with fail;go_ret;rw [HE.out.1,HE.out.2];exact ⟨rfl,Wz.out.ext IU.out,UG.out.trans (Only.ax IU.out) (fun y hy=>.inl hy)⟩
   have t1:(e3 != 0)=false:=by simpa using he
   obtain⟨k',hk',Z1⟩:=HF4.out.2 he;have HK:=zH hk';have HFF:=zH Z1;have wn:IntKind.i64.wrap ((n8:Int)-1)=(n8:Int)-1:=adw _ (by omega);have p8:(0:Int)<=(n8:Int):=adE _;clear he hk' Z1 HF4 b8;go_wp2_with fail;go_loopw [13,19] (fun vt vi JN=>∃p:Nat,vi=.int .i64 ((p:Int)-1)/\p<=n8/\dq jQ JN br vt (t'.reverse++((L.map (·.2)).drop p).reverse)/\PS JN B b g S2/\Hid (Only (b::g.list) w JN)/\Has JN b5 (.cells #[cu,cg] 27)/\Has JN dK (.cells #[z0,.int .i64 dv,z2,z3,z4,z5,z6,z7,z8,z9] 95)/\bh JN A8 L/\w8.heap.size<=JN.heap.size/\(∀y,vt.ownBlock=some y->A8.map (·.block)≠some y)) (fun _ vi _=>((intOf vi)+1).toNat)
   case atStart =>
    refine⟨n8,rfl,adj _,?_,Wz.out.ext IU.out,UG.out.trans (Only.ax IU.out) (fun y hy=>.inl hy),C7.out.ext IU.out,D7.out.ext IU.out,JE.out,adj _,fun y hy e=>?_⟩
    ·rw [List.drop_eq_nil_of_le (by rw[adR,Vi.out];exact adj _),List.reverse_nil,adv]
     exact Z2.out.ext IU.out
    ·have h1:=(Z2.out.lt hy).2
     have h2:=XQ.out y e;omega
   case round =>
    obtain⟨p,DT,hp,hO,hP,Vx,H5,SN,hE8,hs8,hap⟩:=hrel;rcases p with _|p
    ·have vA:u19=.int .i64 (-1):=DT
     subst vA;have H1:=zH hO;have H2:=zH hP;have H3:=zH H5;have H4:=zH SN;clear DT hO hP H5 SN hE8 hap;go_wp2_with fail;go_roundg k'
     case measure=>have:=HK.out;omega
     case rel =>
      refine⟨S2,Wx S2 cu cg no++t',no,rfl,?_,H2.out,Vx,H3.out,H4.out,HFF,tk,Mk.out.mono (by have:=HK.out;omega),by have:=HK.out;omega,?_,by have:=IU.out.size;omega⟩
      ·have:=H1.out
       rw[List.drop_zero]at this;rw [uF.out,List.reverse_append];exact this
      ·have h1:=HK.out
       have h2:=HT7.out;rw [uF.out,ady,adR];have h3:=Vi.out;have h4:=TC.out;rw [adp]at h4;omega
    ·have vA:u19=.int .i64 (p:Int):=by rw[DT];simp
     subst vA;have hpl:p<L.length:=by have:=Vi.out;omega
     obtain ⟨bb,o,rfl,qZ,q0,q1⟩:=hE8.XL hpl;obtain⟨y,Gt⟩:=zE (L[p]);rw [<-Gt]at q0 q1;have ET:Hid (t'.reverse++((L.map (·.2)).drop p).reverse=(t'.reverse++((L.map (·.2)).drop (p+1)).reverse)++[y.2]):=by
      show _=_;rw [adU (by rw[adR];exact hpl),List.reverse_cons,adN,List.getElem_map,<-Gt]
     have r0:(0:Int)<=(p:Int):=adE _;have r1:(p:Int)<(n8:Int):=by omega
     have r2:IntKind.i64.wrap ((p:Int)-1)=(p:Int)-1:=adw _ (by omega);have Qc:(t'.reverse++((L.map (·.2)).drop (p+1)).reverse).length<=2000000:=by
      have:=Vi.out;have:=HT7.out;rw [ady,adM,adM,List.length_drop,adR];omega
     have o7:br<=wr.heap.size:=by have:=IU.out.size;omega
     obtain ⟨v',w',hr,CE,hg,BB⟩:=xO jQ wr hO o7 y.2 Qc;have HR:=zH hr;have o6:Only u13.ownBlock.toList wr w':=(Only.jw _ _ _).then (Only.of_grownBy hg (fun g hv=>adX.2 hv));have hmem:∀x∈u13.ownBlock.toList,br<=x/\dO wr x jQ.t:=fun x hx=>by
      have hx':=adX.1 hx;exact ⟨(hO.lt hx').1,hO.tag hx'⟩
     have abX:Hid (∃p':Nat,Value.int .i64 ((p:Int)-1)=.int .i64 ((p':Int)-1)/\p'<=n8/\dq jQ w' br v' (t'.reverse++((L.map (·.2)).drop p').reverse)/\PS w' B b g S2/\Hid (Only (b::g.list) w w')/\Has w' b5 (.cells #[cu,cg] 27)/\Has w' dK (.cells #[z0,.int .i64 dv,z2,z3,z4,z5,z6,z7,z8,z9] 95)/\bh w' (some ⟨bb,o,none⟩) L/\w8.heap.size<=w'.heap.size/\(∀y,v'.ownBlock=some y->(some (⟨bb,o,none⟩:Addr)).map (·.block)≠some y)):=by
      have abY:bb∉u13.ownBlock.toList:=fun hm=>hap bb (adX.1 hm) rfl
      have hBb:B<=b:=(Wz.out.cU b (adk ..)).1;have Ik:=mV.out b (adk ..);refine ⟨p,rfl,by omega,by rw[ET.out];exact CE,hP.only o6 (fun x hx=>?_) (fun x hx hm=>nb.out x (by have:=(hmem x hm).1;omega) hx),Vx.out.trans o6 (fun x hx=>.inr (by have:=(hmem x hx).1;omega)),o6.has H5 (fun hm=>by have:=(hmem _ hm).1;omega),o6.has SN (fun hm=>by have:=(hmem _ hm).1;omega),?_,by have:=o6.size;omega,fun x hx e=>?_⟩
      ·obtain ⟨h1,cc,ff,h2⟩:=hmem x hx
       refine⟨by omega,?_,?_⟩<;>rintro⟨c2,f2,tF⟩<;>rw[h2]at tF<;>cases tF
      ·rcases hE8 with h9|⟨b9,o9,h9,h10,h11⟩
       ·exact .inl h9
       ·refine .inr ⟨b9,o9,h9,by have:=o6.size;omega,fun k hk=>?_⟩
        injection h9 with h9;injection h9 with h9 _;have e9:=o6.block b9 h10 (by rw[<-h9];exact abY);exact ⟨(jg e9 _).trans (h11 k hk).1,(jg e9 _).trans (h11 k hk).2⟩
      ·have e':bb=x:=by injection e
       rcases BB with k9|k9
       ·rw [k9,<-e']at hx
        exact hap bb hx rfl
       ·rw [k9]at hx
        injection hx with hx;omega
     obtain⟨A6,c6,hv',_⟩:=CE.at_;obtain⟨n6,hn6⟩:=zE ((t'.reverse++((L.map (·.2)).drop (p+1)).reverse++[y.2]).length);rw [<-hn6]at hv';clear hn6 CE hg BB hr o6 hmem ET Qc hO hP Vx H5 SN hE8 hap Gt hpl DT q0;subst hv';go_wp2_with (at_builtin;refine Lib.wpList_append_run _ rfl _ _ 124 124 rfl _ _ rfl rfl _ _ HR.out ?_);go_roundw
     case rel=>exact abX.out
     case measure=>simp[intOf]
open Go
section
variable {P:Program} {ops:Array Oper} {md:Region.Mode} {C:World->Prop} {Q:Act->Prop}
end
section
variable {P:Program} {id:Nat} {Q:Exit->Act->World->Prop} {a:Act} {w:World} {l:List Oper}
end
end
section
open Go.ChangeShapes Go.WideShapes Go.ChangeAt Go.RowKit
theorem PS.Rw {c:Nat} {w:World} {B b:Nat} {g:bG} {s:av} (h:PS w B b g s) (hp:Pl c s) (cu cg dir:Int) (nm:List UInt8) (s1:av) (e1:Int) (k1:Nat) (s':av) (e':Int) (L:List (aj×Int)) (kk:Nat) (hT:ZN s cu cg dir nm s1 e1 k1 s' e' L kk) (ZO:Pl (c+k1) s1) (hc:c+k1+L.length<=900) (rn:kk<=100000) :
  Calls Tryz.prog 31 #[.pointer (some ⟨b,0,none⟩),.agg #[cu,cg],.int .i64 dir,bs nm] w (tE w B b g s' e'):=by
 obtain⟨W0,aH⟩:∃W,W=w.alloc (.cells #[cu,cg] 27):=⟨_,rfl⟩;obtain ⟨b5,gQ⟩:∃b,b=w.heap.size:=⟨_,rfl⟩;have E0:Ext w W0:=by rw[aH];exact (Ext.refl _).alloc _
 have C0:Has W0 b5 (.cells #[cu,cg] 27):=by rw[aH,gQ];exact Has.new w _
 have mV:=zH h.lt;have KO:=zH ((h.ext E0).Vw hp cu cg dir nm s1 e1 k1 hT.1 (by omega));have KT:Hid (e1=0->∀u,PS u B b g s1->Calls Tryz.prog 27 #[.pointer (some ⟨b,0,none⟩),.agg #[cu,cg],.int .i64 dir,bs nm] u (tE u B b g s' e')):=by
  show _->∀_,_->_;intro he u hu;rcases hT.2 with⟨k,_⟩|⟨_,k⟩
  ·exact absurd he k
  ·exact hu.zw ZO cu cg dir nm s' e' L kk k hc rn
 have KN:Hid (e1≠0->s'=s1/\e'=e1):=fun he=>by
  rcases hT.2 with⟨_,k1,k2,_⟩|⟨k,_⟩
  ·exact⟨k1,k2⟩
  ·exact absurd k he
 have c0:=C0.cell 0;have c1:=C0.cell 1;have cz:=C0.lt;simp only[gA,gB,gC]at c0 c1;clear hT h hp ZO;go_enter Tryz.func31,Tryz.ntmps31;go_upto_region 1 with fail;rw [<-aH,<-gQ];have ZU:w.heap.size<=b5:=by omega
 clear aH gQ;go_wp2_with fail;refine KO.out.mono ?_;rintro e w1 ⟨rfl,P1,O1⟩;have C1:=O1.has C0 (fun hm=>by have:=mV.out _ hm;omega);have HO1:=zH (Only.pre E0 O1);have Mq:=zH P1;have c0:=C1.cell 0;have c1:=C1.cell 1;have cz:=C1.lt;simp only[gA,gB,gC]at c0 c1;clear KO P1 O1 C1
 by_cases he:e1=0
 ·have t1:(e1 != 0)=false:=by simpa using he
  have K:=zH (KT.out he);clear he KT KN;go_wp2_with fail;refine (K.out _ Mq.out).mono ?_;rintro e w2 ⟨rfl,P2,O2⟩;go_wp2_with fail;go_ret;exact ⟨rfl,P2,HO1.out.trans O2 (fun y hy=>.inl hy)⟩
 ·have t1:(e1 != 0)=true:=by simpa using he
  have K:=zH (KN.out he);clear he KT KN;go_wp2_with fail;go_ret;rw [K.out.1,K.out.2];exact ⟨rfl,Mq.out,HO1.out⟩
def Cq (cu cg:Int):Nat->av->List aj->Option (av×Int×List (aj×Int)×Nat)
 | 0,_,_=>none
 | _+1,s,[]=>some (s,0,[],0)
 | n + 1,s,x::t=>if jP s cu cg x≠0 then some (s,jP s cu cg x,[(x,jP s cu cg x)],1) else
  match Cq cu cg n s (nr s cu cg x) with
  | none=>none
  | some r=>if r.2.1≠0 then some (r.1,r.2.1,r.2.2.1,r.2.2.2+1) else if jE r.1 cu cg x≠0 then some (iI r.1 cu cg x,jE r.1 cu cg x,r.2.2.1++[(x,0)],r.2.2.2+2) else
   match Cq cu cg n (iI r.1 cu cg x) t with
   | none=>none
   | some q=>some (q.1,q.2.1,r.2.2.1++(x,0)::q.2.2.1,r.2.2.2+2+q.2.2.2)
theorem tT {cu cg:Int}:∀{n:Nat} {s:av} {t:List aj} {r:av×Int×List (aj×Int)×Nat},Cq cu cg n s t=some r->oX cu cg s t r.1 r.2.1 r.2.2.1 r.2.2.2
 | 0,_,_,_,h=>by cases h
 | n+1,s,[],r,h=>by injection h with h;subst h;exact .nil s
 | n + 1, s, x::t,r,h=>by
  unfold Cq at h;split at h
  ·rename_i h1;injection h with h;subst h;exact .bad h1
  ·rename_i h1
   have h1':=adl.1 h1;split at h
   ·cases h
   ·rename_i r1 h2
    have k:=tT h2;split at h
    ·rename_i h3;injection h with h;subst h;exact .kids h1' k h3
    ·rename_i h3
     have h3':=adl.1 h3;rw [h3']at k;split at h
     ·rename_i h4;injection h with h;subst h;exact .one h1' k h4
     ·rename_i h4
      split at h
      ·cases h
      ·rename_i q h5;injection h with h;subst h;exact .step h1' k (adl.1 h4) (tT h5)
instance (s:av) (dev no:Int):Decidable (mU s dev no):=by unfold mU;exact inferInstance
def Jq (cu cg dev:Int):Nat->av->List Int->Option (av×Int×Nat)
 | 0,_,_=>none
 | _+1,s,[]=>some (s,0,0)
 | n+1,s,no::t=>if mU s dev no then some (s,16,1) else if (ac s.t.nodes no).kind≠1 then (match Jq cu cg dev n s t with|none=>none|some r=>some (r.1,r.2.1,r.2.2+1)) else
  if F9 s cu cg no≠0 then some (pU s cu cg no,F9 s cu cg no,1) else if JT (pU s cu cg no) cu cg no≠0 then some (pU s cu cg no,JT (pU s cu cg no) cu cg no,1) else
  match Jq cu cg dev n (pU s cu cg no) (Wx (pU s cu cg no) cu cg no++t) with|none=>none|some r=>some (r.1,r.2.1,r.2.2+1)
theorem zA {cu cg dev:Int}:∀{n:Nat} {s:av} {t:List Int} {r:av×Int×Nat},Jq cu cg dev n s t=some r->jF cu cg dev s t r.1 r.2.1 r.2.2
 | 0,_,_,_,h=>by cases h
 | n+1,s,[],r,h=>by injection h with h;subst h;exact .nil s
 | n + 1,s,no::t,r,h=>by
  unfold Jq at h;split at h
  ·rename_i h1;injection h with h;subst h;exact .busy h1
  rename_i h1;split at h
  ·rename_i h2
   split at h
   ·cases h
   ·rename_i r1 h3;injection h with h;subst h;exact .skip h1 h2 (zA h3)
  rename_i h2;have kK:=adl.1 h2;split at h
  ·rename_i h3;injection h with h;subst h;exact .shut h1 kK h3
  rename_i h3;have h3':=adl.1 h3;split at h
  ·rename_i h4;injection h with h;subst h;exact .list h1 kK h3' h4
  rename_i h4;split at h
  ·cases h
  ·rename_i r1 h5;injection h with h;subst h;exact .step h1 kK h3' (adl.1 h4) (zA h5)
def Ox:List dS:=[⟨[47],1,511,0,0,0,[]⟩,⟨[47,100],1,320,5,0,0,[]⟩,⟨[47,100,47,121],2,0,0,0,0,[]⟩]
def VB:ae:=(Es [] Ox).getD cJ
theorem xZ:gp [] Ox=VB:=Jc (by kernel_rfl)
def Rx:List aj:=[⟨1,[100],2,0⟩,⟨2,[121],3,1⟩]
abbrev vT:av:=⟨VB,0,0,[],false⟩
theorem oQ:cO vT 5 0 1 [100]=⟨1,[100],2,0⟩/\dp vT 5 0 1 [100]=0:=⟨by kernel_rfl,by kernel_rfl⟩
theorem Oy:vv vT 5 0 1 [100] Rx gO 0:=.inr ⟨oQ.2,rfl,by
 rw[oQ.1];exact Cb (n:=9) (r:=(Rx,gO,0)) (by kernel_rfl)⟩
theorem Ry:oY vT.t 5 0 Rx 0=6:=by kernel_rfl
def Cs:av×Int×List (aj×Int)×Nat:=(Cq 5 0 9 vT [⟨1,[100],2,0⟩]).getD (vT,0,[],0)
def vU:av:=Cs.1
theorem Ct:qW vT 5 0 1 [100] vU 6 Cs.2.2.1 Cs.2.2.2:=.inr ⟨oQ.2,by
 rw[oQ.1];have h:=tT (n:=9) (r:=Cs) (show Cq 5 0 9 vT [⟨1,[100],2,0⟩]=some Cs by kernel_rfl);have e:Cs.2.1=6:=by kernel_rfl
 rw[e]at h;exact h⟩
theorem pW:cO vU 5 0 1 [100]=⟨1,[100],2,0⟩/\dp vU 5 0 1 [100]=0:=⟨by kernel_rfl,by kernel_rfl⟩
def EH:av×Int×Nat:=(Jq 5 0 1 9 vU [2]).getD (vT,0,0)
def EI:av:=EH.1
theorem vV:cO EI 5 0 1 [100]=⟨1,[100],2,0⟩/\dp EI 5 0 1 [100]=0:=⟨by kernel_rfl,by kernel_rfl⟩
def oG:av×Int×List (aj×Int)×Nat:=(Cq 5 0 9 EI [⟨1,[100],2,0⟩]).getD (vT,0,[],0)
theorem sG:ZN vU 5 0 1 [100] EI 0 EH.2.2 oG.1 0 oG.2.2.1 oG.2.2.2:=by
 refine⟨.inr ⟨pW.2,by kernel_rfl,?_⟩,.inr ⟨rfl,.inr ⟨vV.2,?_⟩⟩⟩
 ·rw [pW.1]
  have h:=zA (n:=9) (r:=EH) (show Jq 5 0 1 9 vU [2]=some EH by kernel_rfl);have e:EH.2.1=0:=by kernel_rfl
  rw[e]at h;have e2:(ac vU.t.nodes 1).dev=1:=by kernel_rfl
  rw[e2];exact h
 ·rw [vV.1]
  have h:=tT (n:=9) (r:=oG) (show Cq 5 0 9 EI [⟨1,[100],2,0⟩]=some oG by kernel_rfl);have e:oG.2.1=0:=by kernel_rfl
  rw[e]at h;exact h
theorem vW:fk oG.1 (du oG.1.t 0 0 1 [100])=5/\zK oG.1 (ep oG.1.t 0 0 1 [100])=0/\oG.1.t.nodes.length=1:=⟨by kernel_rfl,by kernel_rfl,by kernel_rfl⟩
theorem mh:Cs.2.2.1.length=1/\Cs.2.2.2<=100/\EH.2.2<=100/\oG.2.2.1.length<=100/\oG.2.2.2<=100:=by decide +kernel
theorem EJ:Pl 140 vT:=by
 have k:fI 140 VB:=by rw[<-xZ];exact (xQ (by decide) (by decide)).iB
 exact⟨k,adF _,by decide,adA _⟩
theorem F_:Pl 141 vU:=by
 have:=(oO EJ Ct.NZ).1;rw [mh.1]at this;exact this
theorem Ga:Pl (141+EH.2.2) EI:=by
 rcases sG.1 with⟨h,_⟩|⟨_,_,h⟩
 ·exact absurd pW.2 h
 ·exact (Vo h 141 F_).1
theorem qY (w:World):Calls Tryz.prog 25 #[] w (aI w (.bool true)):=by
 obtain⟨W1,bL⟩:∃W,W=w.alloc (.cells (tC.cells Ox).toArray 72):=⟨_,rfl⟩;obtain ⟨b1,kG⟩:∃b,b=w.heap.size:=⟨_,rfl⟩;have E1:Ext w W1:=by rw[bL];exact (Ext.refl _).alloc _
 have B1:Has W1 b1 (.cells (tC.cells Ox).toArray 72):=by rw[bL,kG];exact Has.new _ _
 have KP:=zH (vK none [] 0 (some ⟨b1,0,none⟩) Ox 3 W1 (.inl rfl) (eP.Vm (R:=tC) B1) (by decide) (by decide) (fun m hm=>by cases hm) (by decide));have abZ:w.alloc (.cells #[.string ⟨#[47]⟩,.int .i64 1,.int .i64 511,.int .i64 0,.int .i64 0,.int .i64 0,.string ⟨#[]⟩,.string ⟨#[47,100]⟩,.int .i64 1,.int .i64 320,.int .i64 5,.int .i64 0,.int .i64 0,.string ⟨#[]⟩,.string ⟨#[47,100,47,121]⟩,.int .i64 2,.int .i64 0,.int .i64 0,.int .i64 0,.int .i64 0,.string ⟨#[]⟩] 72)=W1:=by rw[bL];rfl
 clear bL;go_enter Tryz.func25,Tryz.ntmps25;go_wp2_with fail;rw [<-kG];clear abZ kG B1;refine KP.out.mono ?_;rintro e w2 ⟨b,B,g,rfl,hB,P2,E2⟩;rw [xZ]at P2;clear KP;have SG:=zH (E1.trans E2);have hBw:w2.heap.size<=w2.heap.size:=adj _;have rO:Hid (∀x∈b::g.list,w.heap.size<=x):=fun x hx=>by
  have h1:=(P2.cU x hx).1;have h2:=E1.size;omega
 have K1:Hid (Calls Tryz.prog 26 #[.pointer (some ⟨b,0,none⟩),.agg #[.int .i64 5,.int .i64 0],.int .i64 1,.string ⟨#[100]⟩] w2 (aI w2 (.int .i64 6))):=by
  show Calls _ _ _ _ _;have:=P2.Ou EJ.jR (by omega) 5 0 1 [100] Rx gO 0 Oy (by decide);rw [Ry]at this;exact this
 have K2:Hid (∀u,Ext w2 u->Calls Tryz.prog 27 #[.pointer (some ⟨b,0,none⟩),.agg #[.int .i64 5,.int .i64 0],.int .i64 1,.string ⟨#[100]⟩] u (tE u B b g vU 6)):=by
  show ∀_,_;intro u hu;exact (P2.ext hu).zw EJ 5 0 1 [100] vU 6 _ _ Ct (by rw[mh.1];decide) (by have:=mh.2.1;omega)
 have K3:Hid (∀u,PS u B b g vU->Calls Tryz.prog 31 #[.pointer (some ⟨b,0,none⟩),.agg #[.int .i64 5,.int .i64 0],.int .i64 1,.string ⟨#[100]⟩] u (tE u B b g oG.1 0)):=by
  show ∀_,_;intro u hu;exact hu.Rw F_ 5 0 1 [100] EI 0 _ oG.1 0 _ _ sG Ga (by have:=mh;omega) (by have:=mh;omega)
 have K4:Hid (∀u,PS u B b g oG.1->Calls Tryz.prog 28 #[.pointer (some ⟨b,0,none⟩),.agg #[.int .i64 0,.int .i64 0],.int .i64 1,.string ⟨#[100]⟩] u (aI u (.tuple #[.int .i64 0,.int .i64 5]))):=by
  show ∀_,_;intro u hu;have hp:=(oO Ga (sG.2.resolve_left (fun h=>absurd rfl h.1)).2.NZ).1;have:=hu.look hp.jR (by have:=mh;omega) 0 0 1 [100];rw [vW.1,vW.2.1]at this;exact this
 have KL:Hid (∀u,PS u B b g oG.1->Calls Tryz.prog 49 #[.pointer (some ⟨g.bT,0,none⟩)] u (aI u (.int .i64 1))/\u.cell? ⟨b,0,none⟩=some (.pointer (some ⟨g.bW,0,none⟩))/\b<u.heap.size/\u.cell? ⟨g.bW,0,none⟩=some (.pointer (some ⟨g.bT,0,none⟩))/\g.bW<u.heap.size):=by
  show ∀_,_;intro u hu;obtain ⟨_,h2,cd,h3,_⟩:=hu.V0;have:=KJ B g.bT g.bM _ _ u h2;rw [vW.2.2]at this;obtain ⟨A,cap,hp⟩:=hu;exact ⟨this,Has.cell hp.2.1 0,Has.lt hp.2.1,h3.cell 0,h3.lt⟩
 clear P2 E1 E2;go_wp2_with fail;refine K1.out.mono ?_;rintro e w3 ⟨rfl,E3⟩;clear K1;go_wp2_with fail;refine (K2.out _ E3).mono ?_;rintro e w4 ⟨rfl,P4,O4⟩;clear K2;go_wp2_with fail;refine (K3.out _ P4).mono ?_;rintro e w5 ⟨rfl,P5,O5⟩;clear K3;go_wp2_with fail;refine (K4.out _ P5).mono ?_;rintro e w6 ⟨rfl,E6⟩;clear K4;have P6:=P5.ext E6;obtain ⟨KL1,c0,cz,c1,cy⟩:=KL.out _ P6;have HX:Hid (Ext w w6):=by
  have o1:Ext w w4:=O4.after (SG.out.trans E3) (fun x hx=>by have:=rO.out x hx;omega);have o2:Ext w w5:=O5.after o1 (fun x hx=>by have:=rO.out x hx;omega);exact o2.trans E6
 have Ww:=zH KL1;clear P4 O4 P5 O5 P6 KL KL1 E3 E6;go_wp2_with fail;refine Ww.out.mono ?_;rintro e w7 ⟨rfl,E7⟩;go_wp2_with fail;go_ret;exact aI.mk rfl (HX.out.trans E7)
attribute [local go_sem] adP
end
section
open Go.ChangeShapes Go.WideShapes Go.ChangeAt Go.RowKit
attribute [local go_sem] adP
end
open Go.ChangeShapes Go.WideShapes Go.ChangeAt Go.RowKit
theorem EM {S:ae} {cu cg:Int} {t L:List aj} {b:aj} {e:Int} (h:fw S cu cg t L b e):e=0->∀t1 t2,t=t1++t2->∃l1 l2,L=l1++l2/\fw S cu cg t1 l1 gO 0/\fw S cu cg t2 l2 gO 0:=by
 induction h with
 | nil =>
  intro _ t1 t2 ht;obtain ⟨rfl,rfl⟩:=List.append_eq_nil_iff.1 ht.symm;exact ⟨[],[],rfl,.nil,.nil⟩
 | bad h=>exact fun he=>absurd he h
 | @step x t l b e h1 h2 ih =>
  intro he t1 t2 ht;subst he
  cases t1 with
  | nil =>
   rw[adB]at ht;subst ht;have hb:=h2.err rfl;subst hb;exact ⟨[],x::l,rfl,.nil,.step h1 h2⟩
  | cons y t1 =>
   rw[adV]at ht;injection ht with ha ht;subst ha;subst ht;obtain ⟨l1,l2,rfl,k1,k2⟩:=ih rfl (ew S cu cg x++t1) t2 (by rw[adN]);exact ⟨x::l1,l2,rfl,.step h1 k1,k2⟩
theorem Cv {S:ae} {cu cg:Int} {t L:List aj} {b:aj} {e:Int} (h:fw S cu cg t L b e) (ht:t=[]):L=[]:=by
 cases h with
 | nil=>rfl
 | bad _=>cases ht
 | step _ _=>cases ht
theorem x_ {S:ae} {cu cg:Int} {t L:List aj} {b:aj} {e:Int} (h:fw S cu cg t L b e) (he:e=0) {x:aj} {t':List aj} (ht:t=x::t'):∃l,L=x::l/\dQ S cu cg x=0/\fw S cu cg (ew S cu cg x++t') l b e:=by
 cases h with
 | nil=>cases ht
 | bad h=>exact absurd he h
 | step h1 h2=>injection ht with h3 h4;subst h3;subst h4;exact⟨_,rfl,h1,h2⟩
theorem vX {S:ae} {cu cg:Int}:∀{t L:List aj},fw S cu cg t L gO 0->∀y∈t,dQ S cu cg y=0:=by
 have key:∀{t L:List aj} {b:aj} {e:Int},fw S cu cg t L b e->e=0->∀y∈t,dQ S cu cg y=0:=by
  intro t L b e h
  induction h with
  | nil=>intro _ y hy;cases hy
  | bad h=>intro he;exact absurd he h
  | step h _ ih =>
   intro he y hy;rcases ads.1 hy with rfl|hy
   ·exact h
   ·exact ih he y (adt _ hy)
 intro t L h;exact key h rfl
theorem VF {c : Nat} {S:ae} (h:dy c S) (k:Kids S) {cu cg:Int} {d:Int->Nat} (hd:∀n∈S.nodes,n.kind=1->n.up≠n.no->d n.up<d n.no):∀(n:Nat) (t l:List aj),l.length<=n->fw S cu cg t l gO 0->∀(E:List Int) (p0 p:Int),p∈E->(ac S.nodes p).kind=1 ->
  (∀e∈E,d p0<=d e/\(e=p0\/(ac S.nodes e).up∈E))->(∀y∈t,y.dir=p/\∃z∈(ac S.nodes p).af,z.1=y.name/\y.no=ar S.ah z.2)->t.Pairwise (fun a b=>a.name≠b.name)->(∀y∈t,(ac S.nodes y.no).kind=1->y.no∉E) ->
  wL S cu cg t l/\∀y∈l,(y∈t\/y.dir∉E)/\(y.dir=p\/∃w∈l,(ac S.nodes w.no).kind=1/\y.dir=w.no)/\((ac S.nodes y.no).kind=1->y.no∉E/\d p0<=d y.no)/\kZ S y:=by
 intro n
 induction n with
 | zero =>
  intro t l hl hD E p0 p Js hpk hE ht Z8 hn;have:l=[]:=List.eq_nil_of_length_eq_zero (by omega);subst this
  cases t with
  | nil=>exact⟨.nil,fun y hy=>by cases hy⟩
  | cons x t =>
   obtain⟨l',h1,_⟩:=x_ hD rfl rfl;cases h1
 | succ n ih =>
  intro t l hl hD E p0 p Js hpk hE ht Z8 hn
  cases t with
  | nil =>
   have:=Cv hD rfl;subst this;exact ⟨.nil,fun y hy=>by cases hy⟩
  | cons x t =>
   obtain ⟨l',rfl,hi,hD'⟩:=x_ hD rfl rfl;obtain ⟨l1,l2,rfl,VV,vZ⟩:=EM hD' rfl _ _ rfl;rw [adp,ady]at hl;rw [adT]at Z8;obtain ⟨RC,zx,hzx,zx1,zx2⟩:=ht x (adk ..);have hx:kZ S x:=tS h k (by rw[RC];exact hpk) (by rw[RC];exact hzx) zx1 zx2 hi;have Iz:(ac S.nodes x.no).kind=1->x.no∉E/\d p<d x.no:=fun hk=>by
    refine⟨hn x (adk ..) hk,?_⟩;obtain ⟨j1,j2,j3⟩:=aO hk;have hu:=hx.up hk;have:=hd _ j3 hk (by rw[hu,j2];exact Ne.symm hx.ne);rw [hu,j2,RC]at this;exact this
   have pC:d p0<=d p:=(hE p Js).1;have K1 : wL S cu cg (ew S cu cg x) l1/\∀y∈l1,(ac S.nodes x.no).kind=1/\(y.dir=x.no\/(y.dir∉E/\y.dir≠x.no))/\(y.dir=x.no\/∃w∈l1,(ac S.nodes w.no).kind=1/\y.dir=w.no)/\((ac S.nodes y.no).kind=1->y.no∉E/\y.no≠x.no/\d p0<=d y.no)/\kZ S y:=by
    by_cases hk:(ac S.nodes x.no).kind=1
    ·obtain ⟨x1,x2⟩:=Iz hk
     obtain ⟨j1,j2,j3⟩:=aO hk;have Z9:=h.lP _ j3;obtain ⟨g1,g2⟩:=ih (ew S cu cg x) l1 (by omega) VV (x.no::E) p0 x.no (adk ..) hk
      (fun e he=>by
       rcases ads.1 he with rfl|he
       ·exact⟨by omega,.inr (by rw[hx.up hk,RC];exact adi _ Js)⟩
       ·obtain ⟨a1,a2⟩:=hE e he
        exact⟨a1,a2.imp id (adi _)⟩)
      (fun y hy=>by
       rw[fS ⟨hi,hk⟩]at hy;rw [adr]at hy;obtain ⟨z',hz',rfl⟩:=hy;unfold bo at hz';rw [adr]at hz';obtain ⟨z,hz,rfl⟩:=hz';exact ⟨rfl,z,hz,rfl,rfl⟩)
      (by
       rw[fS ⟨hi,hk⟩];unfold bo;rw [List.map_map,List.pairwise_map];refine Z9.imp ?_;intro a b hab e;have e1:a.1=b.1:=e;rw [e1,cA]at hab
       cases hab)
      (fun y hy hky hm=>by
       have hy':=hy;rw [fS ⟨hi,hk⟩]at hy;rw [adr]at hy;obtain ⟨z',hz',rfl⟩:=hy;unfold bo at hz';rw [adr]at hz';obtain ⟨z,hz,rfl⟩:=hz';have iE:∀y∈ew S cu cg x,dQ S cu cg y=0:=vX VV;have hy0:=iE _ hy';have Z_:kZ S (dZ x (z.1,ar S.ah z.2)):=tS h k hk hz rfl rfl hy0;have hyu:=Z_.up hky;have hyn:=Z_.ne;have hyk:(ac S.nodes (ar S.ah z.2)).kind=1:=hky;have VG:(ac S.nodes (ar S.ah z.2)).up=x.no:=hyu;have aaa:ar S.ah z.2≠x.no:=hyn;obtain ⟨y1,y2,y3⟩:=aO hyk;have hlt:=hd _ y3 hyk (by rw[VG,y2];exact Ne.symm aaa);rw [VG,y2]at hlt;have hm':ar S.ah z.2∈x.no::E:=hm;rcases ads.1 hm' with e|hm'
       ·exact aaa e
       ·rcases (hE _ hm').2 with e|e
        ·rw[e]at hlt;omega
        ·rw[VG]at e;exact x1 e)
     refine⟨g1,fun y hy=>?_⟩;obtain ⟨b1,b2,b3,b4⟩:=g2 y hy;refine ⟨hk,?_,b2,fun hky=>?_,b4⟩
     ·rcases b1 with b1|b1
      ·exact .inl (Jd b1)
      ·exact .inr ⟨fun hm=>b1 (adi _ hm),fun e=>b1 (by rw[e];exact adk ..)⟩
     ·obtain ⟨c1,c2⟩:=b3 hky
      exact⟨fun hm=>c1 (adi _ hm),fun e=>c1 (by rw[e];exact adk ..),c2⟩
    ·rw [mK hk]at VV|-
     have:=Cv VV rfl;subst this;exact ⟨.nil,fun y hy=>by cases hy⟩
   obtain ⟨hs1,iE⟩:=K1;obtain ⟨D1,ab6⟩:∃D1:List Int,D1=((x::l1).filter fun w=>decide ((ac S.nodes w.no).kind=1)).map (·.no):=⟨_,rfl⟩;have mD:∀e,e∈D1↔∃w∈x::l1,(ac S.nodes w.no).kind=1/\w.no=e:=fun e=>by
    rw[ab6,adr]
    constructor
    ·rintro ⟨w,hw,he⟩
     rw[adz]at hw;exact ⟨w,hw.1,by simpa using hw.2,he⟩
    ·rintro ⟨w,hw,hk,he⟩
     exact⟨w,adz.2 ⟨hw,by simpa using hk⟩,he⟩
   have okw:∀w∈x::l1,kZ S w/\(w.dir=p\/w.dir∈D1)/\((ac S.nodes w.no).kind=1->w.no∉E/\d p0<=d w.no)/\(w=x\/w.dir∉E):=fun w hw=>by
    rcases ads.1 hw with rfl|hw
    ·exact⟨hx,.inl RC,fun hk=>⟨(Iz hk).1,by have:=(Iz hk).2;omega⟩,.inl rfl⟩
    ·obtain ⟨a1,a2,a3,a4,a5⟩:=iE w hw
     refine⟨a5,.inr ((mD _).2 ?_),fun hk=>⟨(a4 hk).1,(a4 hk).2.2⟩,.inr ?_⟩
     ·rcases a3 with e|⟨v,hv,hvk,e⟩
      ·exact⟨x,adk ..,a1,e.symm⟩
      ·exact⟨v,adi _ hv,hvk,e.symm⟩
     ·rcases a2 with e|e
      ·rw[e];exact (Iz a1).1
      ·exact e.1
   have pD:p∉D1:=fun hm=>by
    obtain⟨w,hw,hk,e⟩:=(mD p).1 hm;exact ((okw w hw).2.2.1 hk).1 (by rw[e];exact Js)
   obtain ⟨f1,f2⟩:=ih t l2 (by omega) vZ (E++D1) p0 p (adu _ Js) hpk
    (fun e he=>by
     rcases adm.1 he with he|he
     ·obtain ⟨a1,a2⟩:=hE e he
      exact⟨a1,a2.imp id (adu _)⟩
     ·obtain ⟨w,hw,hk,rfl⟩:=(mD e).1 he
      obtain⟨b1,b2,b3,_⟩:=okw w hw;refine ⟨(b3 hk).2,.inr ?_⟩;rw [b1.up hk];rcases b2 with b2|b2
      ·rw[b2];exact adu _ Js
      ·exact adt _ b2)
    (fun y hy=>ht y (adi _ hy)) Z8.2
    (fun y hy hk hm=>by
     rcases adm.1 hm with hm|hm
     ·exact hn y (adi _ hy) hk hm
     ·obtain ⟨w,hw,hwk,e⟩:=(mD _).1 hm
      obtain⟨b1,b2,b3,b4⟩:=okw w hw;obtain ⟨hyp,zy,hzy,zy1,zy2⟩:=ht y (adi _ hy);have hy0:dQ S cu cg y=0:=vX vZ y hy;have Z_:kZ S y:=tS h k (by rw[hyp];exact hpk) (by rw[hyp];exact hzy) zy1 zy2 hy0;have hyu:=Z_.up hk;have hwu:=b1.up hwk;rw [e,hyu,hyp]at hwu;rcases b4 with rfl|b4
      ·have hpm:=(aO hpk).2.2
       obtain⟨j1,j2,j3⟩:=aO hk;have en1:=hx.ent;have en2:=Z_.ent;rw [RC]at en1;rw [hyp]at en2;have:=k.once _ hpm _ en1 _ en2 _ j3 (by rw[j2];exact e.symm) hk e;exact Z8.1 y hy (congrArg Prod.fst this)
      ·exact b4 (by rw[<-hwu];exact Js))
   have ab7 : wL S cu cg (x::t) (x::(l1++l2)):=by
    refine .cons hi hx hs1 f1 (fun y hy=>?_) (fun y hy z hz=>?_)
    ·obtain ⟨a1,a2,a3,a4,a5⟩:=iE y hy
     refine⟨fun e=>?_,fun e=>?_,fun _ e=>?_⟩
     ·rw [RC]at e
      have hk:(ac S.nodes y.no).kind=1:=by rw[e];exact hpk
      exact (a4 hk).1 (by rw[e];exact Js)
     ·rw [RC]at e
      rcases a2 with e2|e2
      ·exact (Iz a1).1 (by rw[<-e2,e];exact Js)
      ·exact e2.1 (by rw[e];exact Js)
     ·have hk:(ac S.nodes y.no).kind=1:=by rw[e];exact a1
      exact (a4 hk).2.1 e
    ·obtain ⟨b1,b2,b3,b4⟩:=okw y hy
     obtain ⟨c1,c2,c3,c4⟩:=f2 z hz;have hyE:y.dir∈E++D1:=by
      rcases b2 with e|e
      ·rw[e];exact adu _ Js
      ·exact adt _ e
     have hyD:(ac S.nodes y.no).kind=1->y.no∈D1:=fun hk=>(mD _).2 ⟨y,hy,hk,rfl⟩
     refine⟨fun hk e=>(c3 hk).1 (by rw[<-e];exact hyE),fun hk e=>?_,fun e=>?_,fun e=>?_⟩
     ·have hk2:(ac S.nodes y.no).kind=1:=by rw[e];exact hk
      exact (c3 hk).1 (by rw[<-e];exact adt _ (hyD hk2))
     ·have hk2:(ac S.nodes y.no).kind=1:=by rw[e];exact c4.Vp
      rcases c1 with c1|c1
      ·have:=(ht z (adi _ c1)).1
       exact (b3 hk2).1 (by rw[e,this];exact Js)
      ·exact c1 (by rw[<-e];exact adt _ (hyD hk2))
     ·obtain ⟨e1,e2⟩:=e
      rcases c1 with c1|c1
      ·have hzp:=(ht z (adi _ c1)).1
       rcases b4 with rfl|b4
       ·exact Z8.1 z c1 e2
       ·exact b4 (by rw[e1,hzp];exact Js)
      ·exact c1 (by rw[<-e1];exact hyE)
   refine⟨ab7,fun y hy=>?_⟩;rcases ads.1 hy with rfl|hy'
   ·exact⟨.inl (adk ..),.inl RC,fun hk=>⟨(Iz hk).1,by have:=(Iz hk).2;omega⟩,hx⟩
   ·rcases adm.1 hy' with RI|RI
    ·obtain ⟨b1,b2,b3,b4⟩:=okw y (adi _ RI)
     obtain⟨a1,a2,a3,a4,a5⟩:=iE y RI;refine ⟨.inr ?_,.inr ?_,b3,b1⟩
     ·rcases a2 with e|e
      ·rw[e];exact (Iz a1).1
      ·exact e.1
     ·rcases a3 with e|⟨w,hw,hwk,e⟩
      ·exact⟨x,adk ..,a1,e⟩
      ·exact⟨w,adi _ (adu _ hw),hwk,e⟩
    ·obtain ⟨c1,c2,c3,c4⟩:=f2 y RI
     refine⟨?_,?_,fun hk=>⟨fun hm=>(c3 hk).1 (adu _ hm),(c3 hk).2⟩,c4⟩
     ·rcases c1 with c1|c1
      ·exact .inl (adi _ c1)
      ·exact .inr fun hm=>c1 (adu _ hm)
     ·rcases c2 with c2|⟨w,hw,hwk,e⟩
      ·exact .inl c2
      ·exact .inr ⟨w,adi _ (adt _ hw),hwk,e⟩
structure SQ (S0:ae) (dir:Int) (nm:List UInt8) (l:List aj) (S:ae):Prop where
 look:du S 0 0 dir nm=5
 out:∀n∈S0.nodes,n.no∉l.map (·.no)->aJ S.nodes n.no=true/\ac S.nodes n.no={n with af:=(ac S.nodes n.no).af,mtime:=(ac S.nodes n.no).mtime,ctime:=(ac S.nodes n.no).ctime}/\(n.no≠dir->ac S.nodes n.no=n)
theorem EN {c:Nat} {s:av} (h:Pl c s) (hW:Whole s.t) (hd:s.dead=false) (hpl:s.plan=[]) {cu cg dir:Int} {nm:List UInt8} {l:List aj} (hT:vv s cu cg dir nm l gO 0) (hA:∀x∈l,Co s.t cu cg x) :
  ∃ s' L k,qW s cu cg dir nm s' 0 L k/\SQ s.t dir nm l s'.t/\s'.dead=false:=by
 obtain ⟨h1,hR⟩:dp s cu cg dir nm=0/\fw s.t cu cg [cO s cu cg dir nm] l gO 0:=by
  rcases hT with⟨h1,_,_,h2⟩|⟨h1,_,h2⟩
  ·exact absurd h2.symm h1
  ·exact⟨h1,h2⟩
 obtain⟨_,hl,hx⟩:=Cn h1;obtain ⟨o1,o2,o3,o4⟩:=Oj hl;obtain ⟨z,hz,hz1,hz2⟩:=nY o3;obtain ⟨d,Uw⟩:=h.iB.fE.deep;obtain⟨X,hX⟩:=zE (cO s cu cg dir nm);have DQ:X.dir=dir:=by rw[hX];rfl
 have hXn:X.name=nm:=by rw[hX];rfl
 have hXo:X.no=ar s.t.ah z.2:=by rw[hX,hx,o4,hz2]
 rw [<-hX]at hR;have hX0:dQ s.t cu cg X=0:=vX hR X (adI _);have ab8:kZ s.t X:=tS h.iB.fE h.iB.kids (by rw[DQ];exact o2) (by rw[DQ];exact hz) (by rw[hXn];exact hz1) hXo hX0;obtain ⟨q1,q2⟩:=VF h.iB.fE h.iB.kids Uw l.length [X] l (adj _) hR [dir] dir dir (adI _) o2 (fun e he=>by rw[ado]at he;subst he;exact⟨adj _,.inl rfl⟩)
  (fun y hy=>by rw[ado]at hy;subst hy;exact⟨DQ,z,hz,hz1.trans hXn.symm,hXo⟩) (List.pairwise_singleton _ _)
  (fun y hy _ hm=>by
   rw[ado]at hy hm;subst hy;exact ab8.ne (hm.trans DQ.symm))
 obtain⟨s',L,k,g1,g2,g3,g4,g5⟩:=Jj h.iB.fE q1 [] s c (Cut.nil hW) h hd hpl (fun y hy=>by cases hy) hA;rw [adB]at g2;rw [hX]at g1;refine ⟨s',L,k,.inr ⟨h1,g1⟩,⟨?_,fun n hn lM=>?_⟩,g3⟩
 ·have AF:∀y∈L.map (·.1),y.no≠dir:=fun y hy e=>by
   have:=q2 y ((g5 y).1 hy);have hk:(ac s.t.nodes y.no).kind=1:=by rw[e];exact o2
   exact (this.2.2.1 hk).1 (by rw[e];exact adI _)
  obtain ⟨a1,a2,_⟩:=g2.node dir o1 AF;have hop:bt s'.t 0 0 dir 1 1=0:=by
   unfold bt;rw [abi (by rw[a1];decide),acg (by rw[a2];exact o2),abi];rw [KU _ _ _ _ _ rfl];decide
  unfold du;rw [acg hop];have e:bf s'.t 0 0 dir 1 1=ac s'.t.nodes dir:=by unfold bf;rw[acg hop]
  rw[e,a2,acg];show aK (oC (L.map (·.1)) dir (ac s.t.nodes dir).af) nm=0;refine adW fun hne=>?_
  obtain⟨y,hy,RI,_⟩:=nY hne;unfold oC at hy;rw [adz]at hy;have:vS (L.map (·.1)) dir y.1=true:=(oD ..).2 ⟨X,(g5 X).2 (q1.sub X (adI _)),DQ,by rw[hXn,RI]⟩;rw [this]at hy;exact absurd hy.2 (by decide)
 ·obtain ⟨m1,m2⟩:=cR h.iB.fE.bc hn
  have hR:∀y∈L.map (·.1),y.no≠n.no:=fun y hy e=>lM (by rw[<-e];exact adK ((g5 y).1 hy))
  obtain⟨a1,a2,a3⟩:=g2.node n.no m2 hR;rw [m1]at a2 a3;refine ⟨a1,?_,fun hne=>a3 fun y hy e=>?_⟩
  ·rw[a2]
  ·rcases (q2 y ((g5 y).1 hy)).2.1 with e2|⟨w,hw,_,e2⟩
   ·exact hne (e.symm.trans e2)
   ·exact lM (by rw[<-e,e2];exact adK hw)
def eA (S:ae) (cu cg no:Int):Prop:=∀want,want=1\/want=3\/want=4\/want=7->dX cu cg (ac S.nodes no).uid (ac S.nodes no).gid (ac S.nodes no).mode want=true
theorem ac3 {m:Int} (h0:0<=m) (h1:m<=1023) (h:yG (m / 64) 7=true):∀want,want=1\/want=3\/want=4\/want=7->yG (m / 64) want=true:=by
 have key:∀x:Fin 1024,yG ((x.val:Int) / 64) 7=true->yG ((x.val:Int) / 64) 1=true/\yG ((x.val:Int) / 64) 3=true/\yG ((x.val:Int) / 64) 4=true:=by decide +kernel
 have:=key ⟨m.toNat,by omega⟩;simp only[adS h0]at this;obtain ⟨k1,k2,k3⟩:=this h;intro w hw;rcases hw with rfl|rfl|rfl|rfl
 ·exact k1
 ·exact k2
 ·exact k3
 ·exact h
theorem q9 {S:ae} {cu cg no:Int} (h0:0<=(ac S.nodes no).mode) (h1:(ac S.nodes no).mode<=1023) (ho:(ac S.nodes no).uid=cu) (h:dX cu cg (ac S.nodes no).uid (ac S.nodes no).gid (ac S.nodes no).mode 7=true):eA S cu cg no:=by
 intro want hw
 by_cases hc:cu=0
 ·exact KU _ _ _ _ _ hc
 ·rw [Ti _ _ _ _ hc ho.symm]at h|-
  exact ac3 h0 h1 h want hw
theorem ac4 {S:ae} {cu cg no:Int} (h0:0<=(ac S.nodes no).mode) (h1:(ac S.nodes no).mode<=1023) (ho:(ac S.nodes no).uid=cu) (h:bits .and .i64 (ac S.nodes no).mode 448=448):eA S cu cg no:=by
 refine q9 h0 h1 ho ?_
 by_cases hc:cu=0
 ·exact KU _ _ _ _ _ hc
 ·rw [Ti _ _ _ _ hc ho.symm]
  have key:∀x:Fin 1024,bits .and .i64 (x.val:Int) 448=448->yG ((x.val:Int) / 64) 7=true:=by decide +kernel
  have:=key ⟨(ac S.nodes no).mode.toNat,by omega⟩;simp only[adS h0]at this;exact this h
theorem kp {c:Nat} {S:ae} (h:dy c S) {no:Int} (hi:aJ S.nodes no=true):0<=(ac S.nodes no).mode/\(ac S.nodes no).mode<=1023:=by
 have:=h.bits _ (ak hi).2.2;exact ⟨this.1,this.2.1⟩
theorem ac5 {s:av} (hd:s.dead=false) (hp:s.plan=[]):Bd s=0:=by
 unfold Bd;rw [abi (by rw[hd];decide),hp];rfl
theorem ac6 {c:Nat} {s:av} (h:Pl c s) (hW:Whole s.t) (hd:s.dead=false) (hpl:s.plan=[]) {cu cg no:Int} (hi:aJ s.t.nodes no=true) (hk:(ac s.t.nodes no).kind=1) (ho:(ac s.t.nodes no).uid=cu) :
  F9 s cu cg no=0/\eA (pU s cu cg no).t cu cg no/\(pU s cu cg no).plan=[]/\Whole (pU s cu cg no).t/\∀q,eA s.t cu cg q->eA (pU s cu cg no).t cu cg q:=by
 obtain⟨m0,m1⟩:=kp h.iB.fE hi;have hown:fB cu (ac s.t.nodes no).uid=true:=by rw[ho];unfold fB;simp
 cases hs:FZ s.t cu cg no with
 | false =>
  have h7:dX cu cg (ac s.t.nodes no).uid (ac s.t.nodes no).gid (ac s.t.nodes no).mode 7=true:=by
   unfold FZ at hs;rw [hown,Bool.and_true]at hs;simpa using hs
  have e1:F9 s cu cg no=0:=by unfold F9;rw[abi (by rw[hs];decide)]
  have e2:pU s cu cg no=s:=by unfold pU;rw[abi (by rw[hs];decide)]
  rw[e2];exact ⟨e1,q9 m0 m1 ho h7,hpl,hW,fun q hq=>hq⟩
 | true =>
  obtain ⟨_,o1,o2,o3⟩:=Vv m0 m1;have hg:=ac5 hd hpl;have hme:fC s.t cu no (orM (ac s.t.nodes no).mode)=0:=by
   have hoE:eo s.t cu no=0:=by unfold eo;rw[abi (by rw[hi];decide),abi (by rw[hown];decide)]
   unfold fC;rw [hoE,abi (by decide),abi];rw [hk];omega
  have e1:F9 s cu cg no=0:=by
   unfold F9;rw [acg hs];unfold zJ;rw [abi (by rw[hg];decide)];exact hme
  have e2:(pU s cu cg no).t=eZ s.t cu s.now no (orM (ac s.t.nodes no).mode)/\(pU s cu cg no).plan=[]:=by
   unfold pU;rw [acg hs];unfold ww;rw [abi (by rw[hg];decide)];exact ⟨rfl,(FY s).2.1.trans hpl⟩
  have aW:=(ak hi).2.1;have ht:eZ s.t cu s.now no (orM (ac s.t.nodes no).mode)=aE s.t {ac s.t.nodes no with mode:=orM (ac s.t.nodes no).mode,ctime:=s.now}:=by unfold eZ;rw[acg hme]
  have RP:ac (pU s cu cg no).t.nodes no={ac s.t.nodes no with mode:=orM (ac s.t.nodes no).mode,ctime:=s.now}:=by
   rw[e2.1,ht];have:=AO (n:={ac s.t.nodes no with mode:=orM (ac s.t.nodes no).mode,ctime:=s.now}) h.iB.fE.bc (by show aJ s.t.nodes (ac s.t.nodes no).no=true;rw[aW];exact hi);have e3:({ac s.t.nodes no with mode:=orM (ac s.t.nodes no).mode,ctime:=s.now}:ai).no=no:=aW;rw [e3]at this;exact this
  have hgo:∀q,q≠no->ac (pU s cu cg no).t.nodes q=ac s.t.nodes q:=fun q hq=>by
   rw[e2.1,ht];exact oL (S:=s.t) (n:={ac s.t.nodes no with mode:=orM (ac s.t.nodes no).mode,ctime:=s.now}) (no:=q) (by show q≠(ac s.t.nodes no).no;rw[aW];exact hq)
  refine⟨e1,?_,e2.2,?_,fun q hq=>?_⟩
  ·refine q9 (by rw[RP];exact o1) (by rw[RP];exact o2) (by rw[RP];exact ho) ?_
   rw[RP];show dX cu cg (ac s.t.nodes no).uid (ac s.t.nodes no).gid (orM (ac s.t.nodes no).mode) 7=true
   by_cases hc:cu=0
   ·exact KU _ _ _ _ _ hc
   ·rw[Ti _ _ _ _ hc ho.symm];exact o3
  ·rw [e2.1]
   exact Jf h.iB.fE hW cu cg s.now (opC s no) (Vn s no).1 (Vn s no).2
  ·by_cases uj:q=no
   ·subst uj
    exfalso
    have:=hq 7 (.inr (.inr (.inr rfl)));unfold FZ at hs;rw [this]at hs;cases hs
   ·intro w hw
    rw[hgo q uj];exact hq w hw
theorem ac1 {c0:Nat} {S0:ae} (h0:dy c0 S0) (aH:Whole S0) {cu cg dev:Int} {t l:List aj} {b:aj} {e:Int} (hd:fw S0 0 0 t l b e) :
  e = 0->∀(c:Nat) (s:av),Pl c s->Whole s.t->s.dead=false->s.plan=[]->Rm S0 s.t->(∀y∈t,aJ S0.nodes y.no=true/\aJ S0.nodes y.dir=true/\(ac S0.nodes y.dir).dev=dev)->(∀y∈l,(ac S0.nodes y.no).uid=cu) ->
  ∃ s' k,jF cu cg dev s (t.map (·.no)) s' 0 k/\k<=l.length/\Pl (c+k) s'/\Whole s'.t/\s'.dead=false/\s'.plan=[]/\Rm S0 s'.t/\(∀q,eA s.t cu cg q->eA s'.t cu cg q)/\∀y∈l,(ac S0.nodes y.no).kind=1->eA s'.t cu cg y.no:=by
 induction hd with
 | nil=>intro _ c s hc hw PB hpl hs _ _;exact⟨s,0,.nil s,by omega,hc,hw,PB,hpl,hs,fun q hq=>hq,fun y hy=>by cases hy⟩
 | @bad x t h=>intro he;exact absurd he h
 | @step x t l b e h hd ih =>
  intro he c s hc hw PB hpl hs ht hu;obtain ⟨t1,t2,t3⟩:=ht x (adk ..);obtain ⟨i1,i2,i3,_⟩:=sk h;have Gs:¬mU s dev x.no:=fun hb=>hb.2 (by rw[hs.get];show (ac S0.nodes x.no).dev=dev;rw[i3,t3])
  have hk:(ac s.t.nodes x.no).kind=(ac S0.nodes x.no).kind:=by rw[hs.get]
  have hui:(ac s.t.nodes x.no).uid=cu:=by rw[hs.get];exact hu x (adk ..)
  by_cases rn:(ac S0.nodes x.no).kind=1
  ·have hi:aJ s.t.nodes x.no=true:=(hs.is _).trans t1
   obtain ⟨ho,hop,Ea,hw1,W_⟩:=ac6 hc hw PB hpl (cg:=cg) hi (hk.trans rn) hui;have ac8:=Cm PB ho;have hs1:=hs.trans (Ey hc cu cg x.no);have hl':bt (pU s cu cg x.no).t cu cg x.no 1 4=0:=by
    unfold bt;rw [abi (by rw[hs1.is,t1];decide),acg (by rw[hs1.get];exact rn),abi (by rw[hop 4 (.inr (.inr (.inl rfl)))];decide)]
   have hl:JT (pU s cu cg x.no) cu cg x.no=0:=by
    unfold JT fk;rw [abi (by rw[ac8];decide)];exact hl'
   have hL:Wx (pU s cu cg x.no) cu cg x.no=(ew S0 0 0 x).map (·.no):=by
    unfold Wx Og sa;rw [abi (by rw[ac8];decide),fS ⟨h,rn⟩];have e1:bf (pU s cu cg x.no).t cu cg x.no 1 4=ac (pU s cu cg x.no).t.nodes x.no:=by unfold bf;rw[acg hl']
    rw[e1,hs1.get];show ((bo (pU s cu cg x.no).t (ac S0.nodes x.no).af).map (·.2))=((bo S0 (ac S0.nodes x.no).af).map (dZ x)).map (·.no);rw [List.map_map];have e2:bo (pU s cu cg x.no).t (ac S0.nodes x.no).af=bo S0 (ac S0.nodes x.no).af:=by unfold bo;rw[hs1.ah]
    rw[e2];rfl
   obtain ⟨s',k,g1,g2,g3,g4,g5,g6,g7,g8,g9⟩:=ih he (c+1) (pU s cu cg x.no) (hc.op _ _ _) hw1 ac8 Ea hs1 (fun y hy=>by
    rcases adm.1 hy with hy|hy
    ·rw [fS ⟨h,rn⟩]at hy
     rw[adr]at hy;obtain ⟨z',hz',rfl⟩:=hy;unfold bo at hz';rw [adr]at hz';obtain ⟨z,hz,rfl⟩:=hz';have hm:=(ak i1).2.2;have hp:=h0.pos _ hm z hz;exact ⟨wQ h0 (by omega) (aH.there _ hm z hz),i1,by show (ac S0.nodes x.no).dev=dev;rw[i3,t3]⟩
    ·exact ht y (adi _ hy)) (fun y hy=>hu y (adi _ hy))
   rw[adH,<-hL]at g1;refine ⟨s',k+1,.step Gs (hk.trans rn) ho hl g1,by simp only[adp];omega,g3.mono (by omega),g4,g5,g6,g7,fun q hq=>g8 q (W_ q hq),fun y hy hyk=>?_⟩;rcases ads.1 hy with rfl|hy
   ·exact g8 _ hop
   ·exact g9 y hy hyk
  ·rw [sm (fun hx=>rn hx.2),adB]at ih
   obtain⟨s',k,g1,g2,g3,g4,g5,g6,g7,g8,g9⟩:=ih he c s hc hw PB hpl hs (fun y hy=>ht y (adi _ hy)) (fun y hy=>hu y (adi _ hy));refine ⟨s',k+1,.skip Gs (by rw[hk];exact rn) g1,by simp only[adp];omega,g3.mono (by omega),g4,g5,g6,g7,g8,fun y hy hyk=>?_⟩;rcases ads.1 hy with rfl|hy
   ·exact absurd hyk rn
   ·exact g9 y hy hyk
theorem acZ {S0 S:ae} (hs:Rm S0 S) {cu cg:Int} {t l:List aj} {b:aj} {e:Int} (hd:fw S0 0 0 t l b e):e=0->(∀y∈l,(ac S0.nodes y.no).kind=1->eA S cu cg y.no)->fw S cu cg t l b e:=by
 induction hd with
 | nil=>intro _ _;exact .nil
 | bad h=>intro he;exact absurd he h
 | @step x t l b e h hd ih =>
  intro he ho;obtain ⟨i1,i2,i3,_⟩:=sk h;have h1:dQ S cu cg x=0:=by
   unfold dQ;rw [abi (by rw[hs.is,i1];decide),abi (by rw[hs.is,i2];decide),abi (by rw[hs.get x.no,hs.get x.dir];simpa using i3)]
   by_cases hk:(ac S0.nodes x.no).kind=1
   ·rw [abi (by rw[hs.get];simpa using hk)]
    unfold bt;rw [abi (by rw[hs.is,i1];decide),acg (by rw[hs.get];exact hk),abi (by rw[ho x (adk ..) hk 4 (.inr (.inr (.inl rfl)))];decide)]
   ·rw[acg (by rw[hs.get];exact hk)]
  have h2:ew S cu cg x=ew S0 0 0 x:=by
   by_cases hk:(ac S0.nodes x.no).kind=1
   ·rw [fS ⟨h,hk⟩,fS ⟨h1,by rw[hs.get];exact hk⟩]
    have e2:bo S (ac S.nodes x.no).af=bo S0 (ac S0.nodes x.no).af:=by rw[hs.get];unfold bo;rw[hs.ah]
    rw[e2]
   ·rw[sm (fun hx=>hk hx.2),sm (fun hx=>hk (by have:=hx.2;rw[hs.get]at this;exact this))]
  refine .step h1 ?_;rw [h2];exact ih he (fun y hy=>ho y (adi _ hy))
theorem ac2 {S:ae} {cu cg:Int} {t l:List aj} {b:aj} {e:Int} (hd:fw S cu cg t l b e):∀y∈l,y∈t\/∃z∈l,(ac S.nodes z.no).kind=1/\y.dir=z.no:=by
 induction hd with
 | nil=>intro y hy;cases hy
 | bad h=>intro y hy;cases hy
 | @step x t l b e h hd ih =>
  intro y hy;rcases ads.1 hy with rfl|hy
  ·exact .inl (adk ..)
  ·rcases ih y hy with k|⟨z,hz,k1,k2⟩
   ·rcases adm.1 k with k|k
    ·unfold ew at k
     split at k
     ·rename_i hk
      rw[adr]at k;obtain ⟨q,_,rfl⟩:=k;exact .inr ⟨x,adk ..,hk.2,rfl⟩
     ·cases k
    ·exact .inl (adi _ k)
   ·exact .inr ⟨z,adi _ hz,k1,k2⟩
theorem q7 {S:ae} {cu cg dir:Int} {nm:List UInt8} (h:du S 0 0 dir nm=0) (ho:eA S cu cg dir):du S cu cg dir nm=0/\ep S cu cg dir nm=ep S 0 0 dir nm:=by
 obtain ⟨h1,h2,h3,h4⟩:=Oj h;have e1:bt S cu cg dir 1 1=0:=by
  unfold bt;rw [abi (by rw[h1];decide),acg h2,abi (by rw[ho 1 (.inl rfl)];decide)]
 have e2:bf S cu cg dir 1 1=ac S.nodes dir:=by unfold bf;rw[acg e1]
 have e3:du S cu cg dir nm=0:=by
  unfold du;rw [acg e1,e2,abi h3]
 refine⟨e3,?_⟩;rw [h4];unfold ep;rw [acg e3,e2]
theorem ac0 {c:Nat} {s:av} (h:Pl c s) (hW:Whole s.t) (hd:s.dead=false) (hpl:s.plan=[]) {cu cg dir:Int} {nm:List UInt8} {l:List aj} (hT:vv s 0 0 dir nm l gO 0) (ho:(ac s.t.nodes dir).uid=cu) (hm:bits .and .i64 (ac s.t.nodes dir).mode 448=448) (hu:∀y∈l,(ac s.t.nodes y.no).uid=cu) :
  ∃ s1 k1 s' L k,ZN s cu cg dir nm s1 0 k1 s' 0 L k/\k1<=l.length/\Pl (c+k1) s1/\aY s1.t<=aY s.t/\du s'.t 0 0 dir nm=5/\s'.dead=false:=by
 obtain ⟨h1,hR⟩:dp s 0 0 dir nm=0/\fw s.t 0 0 [cO s 0 0 dir nm] l gO 0:=by
  rcases hT with⟨h1,_,_,h2⟩|⟨h1,_,h2⟩
  ·exact absurd h2.symm h1
  ·exact⟨h1,h2⟩
 obtain ⟨_,hl,hx⟩:=Cn h1;obtain ⟨d1,d2,_,_⟩:=Oj hl;obtain ⟨m0,m1⟩:=kp h.iB.fE d1;have hod:eA s.t cu cg dir:=ac4 m0 m1 ho hm;obtain ⟨l1,l2⟩:=q7 hl hod;have f1:∀s':av,s'.dead=false->du s'.t cu cg dir nm=0->dp s' cu cg dir nm=0:=fun s' hd' hl'=>by
  unfold dp fk;rw [abi (by rw[hd'];decide)];exact hl'
 have f2:∀s':av,s'.dead=false->ep s'.t cu cg dir nm=ep s.t 0 0 dir nm->cO s' cu cg dir nm=cO s 0 0 dir nm:=fun s' hd' hl'=>by
  unfold cO zK;rw [abi (by rw[hd'];decide),abi (by rw[hd];decide),hl']
 obtain ⟨n1,n2⟩:=zf h.iB.fE hW hl;obtain ⟨s1,k1,g1,g2,g3,g4,g5,g6,g7,g8,g9⟩:=ac1 (cg:=cg) (dev:=(ac s.t.nodes dir).dev) h.iB.fE hW hR rfl c s h hW hd hpl (.refl _) (fun y hy=>by
  rw[ado]at hy;subst hy;exact ⟨by rw[hx];exact n2,n1,rfl⟩) hu
 have ac9:=g8 _ hod;have iE:du s1.t 0 0 dir nm=0/\ep s1.t 0 0 dir nm=ep s.t 0 0 dir nm:=by
  obtain ⟨a1,a2,a3,a4⟩:=Oj hl;have e1:bt s1.t 0 0 dir 1 1=0:=by
   unfold bt;rw [abi (by rw[g7.is,a1];decide),acg (by rw[g7.get];exact a2),abi (by rw[KU _ _ _ _ _ rfl];decide)]
  have e2:(bf s1.t 0 0 dir 1 1).af=(ac s.t.nodes dir).af:=by unfold bf;rw[acg e1,g7.get]
  have e3:du s1.t 0 0 dir nm=0:=by unfold du;rw[acg e1,e2,abi a3]
  refine⟨e3,?_⟩;rw [a4];unfold ep;rw [acg e3,e2,g7.ah]
 obtain ⟨p1,p2⟩:=q7 iE.1 ac9;have VV:vv s1 cu cg dir nm l gO 0:=by
  refine .inr ⟨f1 s1 g5 p1,g5,?_⟩;rw [f2 s1 g5 (p2.trans iE.2)];exact acZ g7 hR rfl g9
 have hA : ∀x∈l,Co s1.t cu cg x:=by
  intro x hx;have hxd:eA s1.t cu cg x.dir:=by
   rcases ac2 hR x hx with k|⟨z,hz,k2,k3⟩
   ·rw [ado]at k
    rw[k];exact ac9
   ·rw [k3]
    exact g9 z hz k2
  refine ⟨hxd 3 (.inr (.inl rfl)),?_⟩;unfold jY;have:fB cu (ac s1.t.nodes x.no).uid=true:=by
   rw[g7.get];show fB cu (ac s.t.nodes x.no).uid=true;rw [hu x hx];unfold fB;simp
  rw[this,Bool.or_true,Bool.or_true]
 obtain⟨s',L,k,q1,q2,q3⟩:=EN g3 g4 g5 g6 VV hA;refine ⟨s1,k1,s',L,k,⟨.inr ⟨f1 s hd l1,hd,?_⟩,.inr ⟨rfl,q1⟩⟩,g2,g3,(Vo g1 c h).2.2.1,q2.look,q3⟩;rw [f2 s hd l2];exact g1
theorem oo (x:oy) (cs:Array Value) (w:World) (h:oz w x cs):Calls Tryz.prog 8 #[.agg cs] w (aI w (.bool true)):=by
 obtain⟨W1,bL⟩:∃W,W=w.alloc (.cells cs 30):=⟨_,rfl⟩;obtain ⟨b1,kG⟩:∃b,b=w.heap.size:=⟨_,rfl⟩;have E1:Ext w W1:=by rw[bL];exact (Ext.refl _).alloc _
 have B1:Has W1 b1 (.cells cs 30):=by rw[bL,kG];exact Has.new _ _
 have KF:=zH (I3 x cs W1 (h.ext E1));obtain ⟨x0,aV⟩:∃x0:oy,x0={x with plan:=[]}:=⟨_,rfl⟩;obtain ⟨Am,cm,Ai,ci,Ap,cp,rfl,hr1,CQ,_,_,j_,iE,rh,OZ,_⟩:=h;have KB:Hid (I2 x->∀u,Ext w u->Calls Tryz.prog 12 #[.agg #[.slice Am x.ms.length cm,.slice Ai x.is.length ci,x.uid,x.gid,.int .i64 x.at_,.int .i64 x.gN,bs x.name,.slice none 0 0,.bool x.keep]] u (NJ u x0)):=by
  show _->∀_,_;intro hF u hu;rw [aV];exact NK _ _ u ⟨Am,cm,Ai,ci,none,0,rfl,hr1.ext hu,CQ.ext hu,.inl rfl,fun _=>rfl,j_,iE,rh,OZ,adj _,by decide⟩ ⟨hF.1,hF.2.1,adA _⟩
 obtain⟨nm,jA⟩:∃n,n=x.ms.length:=⟨_,rfl⟩;obtain ⟨ni,sD⟩:∃n,n=x.is.length:=⟨_,rfl⟩;obtain ⟨np,wJ⟩:∃n,n=x.plan.length:=⟨_,rfl⟩;obtain ⟨Pn,hPn⟩:∃P,P=bs x.name:=⟨_,rfl⟩;rw [<-jA,<-sD,<-hPn]at bL B1 KF KB|-;rw [<-wJ]at bL B1 KF|-;have HPN:=zH hPn;have qR:=zH B1;have vh:Hid (w.heap.size<=b1):=zH (by rw[kG];exact adj _);have c0:=B1.cell 0;have c1:=B1.cell 1;have c2:=B1.cell 2;have c3:=B1.cell 3;have c4:=B1.cell 4;have c5:=B1.cell 5;have c6:=B1.cell 6;have c7:=B1.cell 7;have c8:=B1.cell 8;have cz:=B1.lt;simp only[gA,gB,gC]at c0 c1 c2 c3 c4 c5 c6 c7 c8;clear jA sD wJ hPn B1 hr1 CQ j_ iE rh OZ;go_enter Tryz.func8,Tryz.ntmps8;go_upto_region 1 with fail;rw [<-bL,<-kG];clear bL kG;go_wp2_with fail;refine KF.out.mono ?_;rintro e w2 ⟨h2,E2⟩;clear KF;rcases h2 with⟨rfl,hF⟩|rfl
 case inr =>
  go_wp2_with fail;refine (qY _).mono ?_;rintro e wz ⟨rfl,bz⟩;go_wp2_with fail;go_ret;exact aI.mk rfl ((E1.trans E2).trans bz)
 have HF:=zH hF;have KB1:=zH (KB.out hF);have B2:=qR.out.ext E2;have aab:=zH B2;have IW:=zH (E1.trans E2);have aac:w.heap.size<=b1:=vh.out;clear hF KB c0 c1 c2 c3 c4 c5 c6 c7 c8 cz;have c7:=B2.cell 7;have cf:∀i,w2.frozen? ⟨b1,i,none⟩=false:=fun i=>(B2.free i).trans (by simp)
 have cz:=B2.lt;simp only[gA,gB,gC]at c7;clear B2;go_upto_region 4 with fail;obtain ⟨W3,cj⟩:∃W,W=w2.setCell ⟨b1,7,none⟩ (.slice none 0 0):=⟨_,rfl⟩;rw [<-cj];have O3:Only [b1] w2 W3:=by rw[cj];exact Only.setCell _ _ _ _
 have B3:Has W3 b1 (.cells #[.slice Am nm cm,.slice Ai ni ci,x.uid,x.gid,.int .i64 x.at_,.int .i64 x.gN,.string Pn,.slice none 0 0,.bool x.keep] 30):=by rw[cj];exact aab.out.setCell 7 _
 have E3:Ext w W3:=O3.after IW.out (by intro y hy;rw[ado]at hy;subst hy;exact aac);have QA:=zH E3;have HB3:=zH B3;have KB2:=zH (KB1.out W3 E3);clear cj O3 c7 cf cz E1 E2 KB1 aab IW E3 aac;have c0:=B3.cell 0;have c1:=B3.cell 1;have c2:=B3.cell 2;have c3:=B3.cell 3;have c4:=B3.cell 4;have c5:=B3.cell 5;have c6:=B3.cell 6;have c7:=B3.cell 7;have c8:=B3.cell 8;have cz:=B3.lt;simp only[gA,gB,gC]at c0 c1 c2 c3 c4 c5 c6 c7 c8;clear B3;go_wp2_with fail;refine KB2.out.mono ?_;rintro e w4 ⟨B,b,g,f,rfl,hB,hP,hR,E4⟩;rw [aV]at hP hR;have hFx:I2 {x with plan:=[]}:=⟨HF.out.1,HF.out.2.1,adA _⟩;obtain ⟨hpl,hs⟩:=zt hFx;have hwh:=Cl x.ms x.is;obtain ⟨s,hs0⟩:∃s:av,s=⟨gp x.ms x.is,0,0,[],false⟩:=⟨_,rfl⟩;have hst:s.t=gp x.ms x.is:=by rw[hs0]
 have Pb:s.dead=false:=by rw[hs0]
 have hsp:s.plan=[]:=by rw[hs0]
 have hP:PS w4 B b g s:=by rw[hs0];exact hP
 have hR:RS w4 B f s:=by rw[hs0];exact hR
 have hs:eH 140 s:=by rw[hs0];exact hs
 have hpl:jk 140 (gp x.ms x.is):=hpl;rw [<-hst]at hpl hwh;have HSD:=zH Pb;have HSP:=zH hsp;have HWH:=zH hwh;have HB0:=zH hB;have Vu:=zH E4;have HP:=zH hP;have HR:=zH hR;have HS:=zH hs;have JG:=zH hpl;have ab9:=zH (QA.out.trans E4);have JR:=zH (HB3.out.ext E4);have B4:=JR.out;have KS:=zH (NY hR hpl x.at_);clear hB hs0 hst Pb hsp hP hR hs hpl hwh hFx aV KB2 E4 c0 c1 c2 c3 c4 c5 c6 c7 c8 cz;have c4:=B4.cell 4;have cz:=B4.lt;simp only[gA,gB,gC]at c4;clear B4;go_wp2_with fail;refine KS.out.mono ?_;rintro e w5 ⟨dir,Jt,is,rfl,hn0,Ih,E5⟩;have Ud:=zH Ih;have SL:=zH E5;clear KS c4 cz Ih;obtain ⟨l,b0,e0,hT,FC⟩:=QB HS.out.fE JG.out.iB.kids 0 0 dir Jt;have hp:Pl 140 s:=⟨JG.out.iB,HS.out.c0,HS.out.c1,HS.out.plan⟩;have HPp:=zH hp;have VH:=JG.out.JP;have aad:e0=0->b0=gO:=by
  intro he;rcases hT with⟨h1,_,_,h2⟩|⟨_,_,h2⟩
  ·exact absurd (h2.symm.trans he) h1
  ·exact h2.err he
 have KR:=zH (fun (u:World) (hu:Ext w4 u)=>(HR.out.ext hu).UL HS.out (by omega) 0 0 dir Jt l b0 e0 hT (by omega));obtain⟨n0,ac7⟩:=zE (ac s.t.nodes dir);have KG:Hid (e0=0->n0.uid=x.uid->bits .and .i64 n0.mode 448=448->(∀y∈l,(ac s.t.nodes y.no).uid=x.uid)->∃s1 k1 s' L k,ZN s x.uid x.gid dir Jt s1 0 k1 s' 0 L k/\k1<=l.length/\Pl (140+k1) s1/\aY s1.t<=aY s.t/\du s'.t 0 0 dir Jt=5/\s'.dead=false):=by
  show _->_->_->_->_;intro g1 g2 g3 g4;refine ac0 hp HWH.out HSD.out HSP.out ?_ (by rw[<-ac7];exact g2) (by rw[<-ac7];exact g3) g4;have:=aad g1;subst g1;rw [<-this];exact hT
 obtain⟨n,hn⟩:=zE l.length;have HN:=zH hn;have acf:n<=141:=by omega
 have SA:=zH ac7;obtain ⟨X,F4⟩:=HR.out.Sh;have HF4:=zH F4;have HCT:=zH (show s.t.nodes.length<=1000000 by have:=HS.out.fE.count;have:=HS.out.last;omega);have w_:=zH HS.out.fE.bc;clear hT FC hp VH aad hn ac7 F4;go_wp2_with fail;refine (KR.out _ E5).mono ?_;rintro e w7 ⟨v0,rfl,O7,E7⟩;obtain ⟨A0,k0,pL,hA0,TF⟩:=O7.lies;rw [<-HN.out]at pL TF;subst pL;clear KR O7;go_upto_region 9 with fail;obtain ⟨W8,tm⟩:∃W,W=w7.alloc (.cells #[.int .i64 b0.dir,bs b0.name,b0.no,.int .i64 b0.depth] 41):=⟨_,rfl⟩;have E78:Ext w7 W8:=by rw[tm];exact (Ext.refl _).alloc _
 have HA0:=zH (hA0.ext E78);have EO:=zH (E5.trans (E7.trans E78));rw [<-tm];clear tm E78 E7 E5 hA0;obtain ⟨ade,adf,okg,KGT⟩:=KE B f s.t X dir W8 (HF4.out.ext EO.out) HCT.out w_.out;rw [<-SA.out]at okg KGT;have ZY:=zH (KGT W8 (Ext.refl _));clear KGT okg;go_wp2_with fail;refine ZY.out.mono ?_;rintro e w8 ⟨rfl,E8⟩;clear ZY;go_upto_region 10 with fail;obtain ⟨adg,hW9⟩:∃W,W=w8.alloc (.cells #[n0.no,n0.dev,n0.kind,n0.mode,n0.uid,n0.gid,n0.mtime,n0.ctime,n0.ag,n0.up,bs n0.data,.slice ade n0.af.length adf] 66):=⟨_,rfl⟩;obtain ⟨dK,iQ⟩:∃b,b=w8.heap.size:=⟨_,rfl⟩;have N9:Has adg dK (.cells #[n0.no,n0.dev,n0.kind,n0.mode,n0.uid,n0.gid,n0.mtime,n0.ctime,n0.ag,n0.up,bs n0.data,.slice ade n0.af.length adf] 66):=by rw[hW9,iQ];exact Has.new _ _
 have E89:Ext W8 adg:=E8.trans (by rw[hW9];exact (Ext.refl _).alloc _);have vk:=zH (EO.out.trans E89);have HA9:=zH (HA0.out.ext E89);rw [<-hW9,<-iQ];clear hW9 iQ E8 E89 HA0;have B9:=JR.out.ext vk.out;have c2:=B9.cell 2;have cz:=B9.lt;have q3:adg.cell? ⟨dK,3,none⟩=some (.int .i64 n0.mode):=N9.cell 3;have q4:adg.cell? ⟨dK,4,none⟩=some (.int .i64 n0.uid):=N9.cell 4;have qz:=N9.lt;simp only[gA,gB,gC]at c2;clear B9 N9;have VI:Hid (∀{wz},Ext adg wz->Ext w wz):=fun hz=>ab9.out.trans (vk.out.trans hz)
 cases is with
 | false =>
  go_wp2_with fail;refine (qY _).mono ?_;rintro e wz ⟨rfl,bz⟩;go_wp2_with fail;go_ret;exact aI.mk rfl (VI.out bz)
 | true =>
  by_cases wv:e0=0
  case neg =>
   have t0:(e0 != 0)=true:=by simpa using wv
   clear wv;go_wp2_with fail;refine (qY _).mono ?_;rintro e wz ⟨rfl,bz⟩;go_wp2_with fail;go_ret;exact aI.mk rfl (VI.out bz)
  case pos =>
  have t0:(e0 != 0)=false:=by simpa using wv
  have KG1:=zH (KG.out wv);clear wv KG
  by_cases huu:n0.uid=x.uid
  case neg =>
   have t1:(n0.uid != x.uid)=true:=by simpa using huu
   clear huu;go_wp2_with fail;refine (qY _).mono ?_;rintro e wz ⟨rfl,bz⟩;go_wp2_with fail;go_ret;exact aI.mk rfl (VI.out bz)
  case pos =>
  have t1:(n0.uid != x.uid)=false:=by simpa using huu
  have KG2:=zH (KG1.out huu);clear huu KG1;obtain⟨mb,UU⟩:=zE (bits .and .i64 n0.mode 448);have UV:=zH UU
  by_cases hm4:mb=448
  case neg =>
   have t2:(mb != 448)=true:=by simpa using hm4
   rw[UU]at t2;clear hm4 UU;go_wp2_with fail;refine (qY _).mono ?_;rintro e wz ⟨rfl,bz⟩;go_wp2_with fail;go_ret;exact aI.mk rfl (VI.out bz)
  case pos =>
  have t2:(mb != 448)=false:=by simpa using hm4
  rw[UU]at t2;have KG3:=zH (KG2.out (UV.out.symm.trans hm4));clear hm4 UU KG2;go_wp2_with fail;clear t0 t1 t2 c2 cz q3 q4 qz;go_loopw [12] (fun vi wr=>∃i:Nat,vi=.int .i64 i/\i<=n/\Hid (∀y∈l.take i,(ac s.t.nodes y.no).uid=x.uid)/\Ext adg wr) (fun vi _=>n-(intOf vi).toNat)
  case atStart=>exact⟨0,rfl,adA _,(by show ∀_,_;intro y hy;rw[List.take_zero]at hy;cases hy),Ext.refl _⟩
  case round =>
   obtain⟨i,rfl,hi,hV,hE⟩:=hrel;have HE:=zH hE;have i0:(0:Int)<=(i:Int):=adE _;obtain ⟨wR,hwR⟩:∃u,u=wr:=⟨_,rfl⟩;subst hwR
   by_cases hlt:(i:Int)<n
   case pos =>
    have hil:i<l.length:=by have:=HN.out;omega
    obtain⟨ba,oa,rfl,wH,p0,p1,p2,p3⟩:=(HA9.out.ext hE).at_ hil;have HTK:Hid (l.take (i+1)=l.take i++[l[i]]):=zH (List.take_succ_eq_append_getElem hil);obtain⟨y,hy⟩:=zE (l[i]);rw [<-hy]at p2 HTK;have AY:IntKind.i64.wrap ((i:Int)+1)=(i:Int)+1:=adw _ (by omega);obtain ⟨A1,k1,tN,KG1⟩:=KE B f s.t X y.no wR (HF4.out.ext (vk.out.trans hE)) HCT.out w_.out;obtain⟨n1,Cy⟩:=zE (ac s.t.nodes y.no);rw [<-Cy]at KG1;have abS:=zH KG1;have Kr:=zH Cy;have hfd:∀W,(Instr.field 66 (.agg #[n1.no,n1.dev,n1.kind,n1.mode,n1.uid,n1.gid,n1.mtime,n1.ctime,n1.ag,n1.up,bs n1.data,.slice A1 n1.af.length k1]) 4).run Tryz.prog W=.ok (.int .i64 n1.uid) W:=fun W=>by kernel_rfl
    have adh:=JR.out.ext (vk.out.trans hE);have u2:∀u:Gr wR,u.w.cell? ⟨b1,2,none⟩=some (.int .i64 x.uid):=Gr.cell adh.lt (adh.cell 2);have vp2:∀u:Gr wR,u.w.cell? ⟨ba,oa+i*4+2,none⟩=some (.int .i64 y.no):=Gr.cell wH p2;clear hy KG1 Cy tN hE hil p0 p1 p2 p3 adh;go_upto_region 15 with fail;refine gS wR (by kernel_rfl) (by kernel_rfl) (Ext.refl _).drew ?_
    repeat (quiet_step (first
     | ((with_reducible refine (abS.out _ (Gr.h _)).mono ?_);rintro e w'' ⟨rfl,LK⟩;exact⟨rfl,⟨w'',Ext.trans (Gr.h _) LK⟩,rfl⟩)))
    refine wpQuiet_nil ?_;rintro pO ⟨⟨adb,Y9⟩,h10⟩;dsimp only at h10;subst h10;clear u2 vp2 hfd abS;have IV:=zH (HE.out.trans Y9)
    by_cases hu1:n1.uid=x.uid
    case neg =>
     have t1:(n1.uid != x.uid)=true:=by simpa using hu1
     clear hu1 hV;go_wp2_with fail;refine (qY _).mono ?_;rintro e wz ⟨rfl,bz⟩;go_wp2_with fail;go_ret;exact aI.mk rfl (VI.out (IV.out.trans bz))
    case pos =>
     have t1:(n1.uid != x.uid)=false:=by simpa using hu1
     have HU1:=zH hu1;clear hu1;go_wp2_with fail;go_roundw
     case rel =>
      refine⟨i+1,by go_num,by omega,?_,IV.out⟩;show ∀_,_;intro z hz;rw [HTK.out]at hz;rcases adm.1 hz with hz|hz
      ·exact hV.out z hz
      ·rw [ado]at hz
       rw[hz,<-Kr.out];exact HU1.out
     case measure=>simp[intOf];omega
   case neg =>
    have hall:∀y∈l,(ac s.t.nodes y.no).uid=x.uid:=by
     have:=hV.out;rw [show i=l.length by have:=HN.out;omega,List.take_length]at this;exact this
    obtain ⟨s1,k1,s',L,k,hFT,jK,ZO,hen,hlk,Pb⟩:=KG3.out hall;have VH:=JG.out.JP;have hkb : L.length<=141/\k<=100000/\Pl (140+k1+L.length) s':=by
     rcases hFT.2 with⟨h1,_⟩|⟨_,h2⟩
     ·exact absurd rfl h1
     ·have hPe:=oO ZO h2.NZ
      have h3:k<=100000:=by
       rcases h2 with⟨_,_,_,_,h5⟩|⟨_,h5⟩
       ·omega
       ·have:=ZM h5 rfl
        have:=hPe.2;omega
      exact⟨by have:=hPe.2;omega,h3,hPe.1⟩
    have P9:=HP.out.ext (vk.out.trans hE);have PG:=HN.out;have KF:=zH (P9.Rw HPp.out x.uid x.gid dir Jt s1 0 k1 s' 0 L k hFT ZO (by have:=hkb.1;omega) hkb.2.1);have ada:=zH hkb.2.2;have DJ:=zH (show 140+k1+L.length<=900 by have:=hkb.1;omega);have aae:=zH Pb;have HLK:=zH hlk;have HP9:=zH P9;have B9:=JR.out.ext (vk.out.trans hE);have c2:=B9.cell 2;have c3:=B9.cell 3;have cz:=B9.lt;simp only[gA,gB,gC]at c2 c3;clear B9 hall hFT jK ZO hen hlk Pb VH hkb P9 KG3 PG hV hE;go_wp2_with fail;refine KF.out.mono ?_;rintro e pO ⟨rfl,MZ,Sw⟩;clear c2 c3 cz KF;have hX:Ext w pO:=by
     refine Sw.after (ab9.out.trans (vk.out.trans HE.out)) fun y hy=>?_
     have h1:=(HP9.out.cU y hy).1;have h2:=HB0.out;have h3:=QA.out.size;omega
    have aca:=zH hX;have KL:Hid (Calls Tryz.prog 28 #[.pointer (some ⟨b,0,none⟩),.agg #[.int .i64 0,.int .i64 0],.int .i64 dir,bs Jt] pO (aI pO (.tuple #[.int .i64 (ep s'.t 0 0 dir Jt),.int .i64 5]))):=by
     show Calls _ _ _ _ _;have:=MZ.look ada.out.jR DJ.out 0 0 dir Jt;rw [show zK s' (ep s'.t 0 0 dir Jt)=ep s'.t 0 0 dir Jt by unfold zK;rw[aae.out];rfl,show fk s' (du s'.t 0 0 dir Jt)=5 by unfold fk;rw[aae.out,HLK.out];rfl]at this;exact this
    clear MZ Sw hX;go_wp2_with fail;refine KL.out.mono ?_;rintro e JS ⟨rfl,vp⟩;clear KL;go_wp2_with fail;refine (qY _).mono ?_;rintro e wz ⟨rfl,bz⟩;go_wp2_with fail;go_ret;exact aI.mk rfl (aca.out.trans (vp.trans bz))
theorem pruneOwn_walk {H:Type} {enc:TypeId×Value->H} (W:World) (base:Nat) (v0:Value) (d0:DataW H) (p0:List MemPlace)
  (k0:Value.okWide Tryz.prog W .any base 30 v0) (h0:DataW.Trod enc Tryz.prog W 0 (fun _=>true) true 30 v0 d0 p0)
  : Calls Tryz.prog 8 #[v0] W (aI W (.bool true)):=by
 obtain⟨x,cs,rfl,hx⟩:=I0 k0 h0;exact oo x cs W hx
end Go.Proofs.YtpibnfdolojpcaaGreat
