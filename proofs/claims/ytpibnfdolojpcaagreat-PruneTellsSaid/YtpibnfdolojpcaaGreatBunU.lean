import Derived.Test.YtpibnfdolojpcaaGreatBunS
import Derived.Test.YtpibnfdolojpcaaGreatBunI
import Derived.Test.YtpibnfdolojpcaaGreatBunR
import Derived.Test.YtpibnfdolojpcaaGreatBunT
set_option maxHeartbeats 8000000
set_option maxRecDepth 100000
namespace Go.Proofs.YtpibnfdolojpcaaGreat
open Go.Proofs.Tryz
open Go.ChangeShapes Go.WideShapes Go.ChangeAt Go.RowKit
variable {n:Nat} {cs:List Value} {w:World} {A:Option Addr} {l:List (Int×Int)}
section
def LJ:je (Int×Int):=⟨28,216,2,16,.agg #[(),()],fun x=>[.int .i64 x.1,.int .i64 x.2],by decide,underlying28,by kernel_rfl,rfl,fun _=>rfl,fun x u hu=>by
 simp only[aR,bg,bh]at hu;rcases hu with rfl|rfl<;>rfl,by decide⟩
section
variable {H:Type} {enc:TypeId×Value->H} {w:World} {base:Nat} {spare:Nat->Bool} {held:Bool}
theorem Vp:prog.cellsOf 47=1:=by kernel_rfl
theorem YB:prog.cellsOf 4=1:=by kernel_rfl
theorem IA:prog.cellsOf 119=3:=by kernel_rfl
theorem Qv {x:DataW H×List MemPlace} (h:DataW.trod enc prog w base spare held n 119 cs=some x):∃v:gi,cs=[.string (bs v.path),.int .i64 v.b,.int .i64 v.n]:=by
 obtain⟨xs,m,_,_,hl,hxl,hf⟩:=wj underlying119 h;rw[IA]at hl
 match cs,hl with
 | [a0,a1,a2],_ =>
  match xs,hxl with
  | [y0,y1,y2],_ =>
   have f0:DataW.trod enc prog w base spare held m 9 (List.take (prog.cellsOf 9) (List.drop 0 [a0,a1,a2]))=some y0:=hf 0 _ rfl;rw[Fa]at f0;obtain⟨s0,h0,_,_⟩:=Ej underlying9 f0;have e0:a0=.string s0:=by simpa using h0
   have f1:DataW.trod enc prog w base spare held m 3 (List.take (prog.cellsOf 3) (List.drop 1 [a0,a1,a2]))=some y1:=hf 1 _ rfl;rw[my]at f1;obtain⟨k1,h1,_,_⟩:=lI underlying3 f1;have e1:a1=.int .i64 k1:=by simpa using h1
   have f2:DataW.trod enc prog w base spare held m 3 (List.take (prog.cellsOf 3) (List.drop 2 [a0,a1,a2]))=some y2:=hf 2 _ rfl;rw[my]at f2;obtain⟨k2,h2,_,_⟩:=lI underlying3 f2;have e2:a2=.int .i64 k2:=by simpa using h2
   exact⟨⟨s0.data.toList,k1,k2⟩,by rw[e0,e1,e2];simp only[El]⟩
theorem IB:prog.cellsOf 72=7:=by kernel_rfl
theorem Qw {x:DataW H×List MemPlace} (h:DataW.trod enc prog w base spare held n 72 cs=some x):∃v:fk,cs=[.string (bs v.path),.int .i64 v.kind,.int .i64 v.mode,.int .i64 v.uid,.int .i64 v.gid,.int .i64 v.mtime,.string (bs v.data)]:=by
 obtain⟨xs,m,_,_,hl,hxl,hf⟩:=wj underlying72 h;rw[IB]at hl
 match cs,hl with
 | [a0,a1,a2,a3,a4,a5,a6],_ =>
  match xs,hxl with
  | [y0,y1,y2,y3,y4,y5,y6],_ =>
   have f0:DataW.trod enc prog w base spare held m 9 (List.take (prog.cellsOf 9) (List.drop 0 [a0,a1,a2,a3,a4,a5,a6]))=some y0:=hf 0 _ rfl;rw[Fa]at f0;obtain⟨s0,h0,_,_⟩:=Ej underlying9 f0;have e0:a0=.string s0:=by simpa using h0
   have f1:DataW.trod enc prog w base spare held m 3 (List.take (prog.cellsOf 3) (List.drop 1 [a0,a1,a2,a3,a4,a5,a6]))=some y1:=hf 1 _ rfl;rw[my]at f1;obtain⟨k1,h1,_,_⟩:=lI underlying3 f1;have e1:a1=.int .i64 k1:=by simpa using h1
   have f2:DataW.trod enc prog w base spare held m 3 (List.take (prog.cellsOf 3) (List.drop 2 [a0,a1,a2,a3,a4,a5,a6]))=some y2:=hf 2 _ rfl;rw[my]at f2;obtain⟨k2,h2,_,_⟩:=lI underlying3 f2;have e2:a2=.int .i64 k2:=by simpa using h2
   have f3:DataW.trod enc prog w base spare held m 3 (List.take (prog.cellsOf 3) (List.drop 3 [a0,a1,a2,a3,a4,a5,a6]))=some y3:=hf 3 _ rfl;rw[my]at f3;obtain⟨k3,h3,_,_⟩:=lI underlying3 f3;have e3:a3=.int .i64 k3:=by simpa using h3
   have f4:DataW.trod enc prog w base spare held m 3 (List.take (prog.cellsOf 3) (List.drop 4 [a0,a1,a2,a3,a4,a5,a6]))=some y4:=hf 4 _ rfl;rw[my]at f4;obtain⟨k4,h4,_,_⟩:=lI underlying3 f4;have e4:a4=.int .i64 k4:=by simpa using h4
   have f5:DataW.trod enc prog w base spare held m 3 (List.take (prog.cellsOf 3) (List.drop 5 [a0,a1,a2,a3,a4,a5,a6]))=some y5:=hf 5 _ rfl;rw[my]at f5;obtain⟨k5,h5,_,_⟩:=lI underlying3 f5;have e5:a5=.int .i64 k5:=by simpa using h5
   have f6:DataW.trod enc prog w base spare held m 9 (List.take (prog.cellsOf 9) (List.drop 6 [a0,a1,a2,a3,a4,a5,a6]))=some y6:=hf 6 _ rfl;rw[Fa]at f6;obtain⟨s6,h6,_,_⟩:=Ej underlying9 f6;have e6:a6=.string s6:=by simpa using h6
   exact⟨⟨s0.data.toList,k1,k2,k3,k4,k5,s6.data.toList⟩,by rw[e0,e1,e2,e3,e4,e5,e6];simp only[El]⟩
theorem IC:prog.cellsOf 216=2:=by kernel_rfl
theorem Qx {x:DataW H×List MemPlace} (h:DataW.trod enc prog w base spare held n 216 cs=some x):∃v:(Int×Int),cs=[.int .i64 v.1,.int .i64 v.2]:=by
 obtain⟨xs,m,_,_,hl,hxl,hf⟩:=wj underlying216 h;rw[IC]at hl
 match cs,hl with
 | [a0,a1],_ =>
  match xs,hxl with
  | [y0,y1],_ =>
   have f0:DataW.trod enc prog w base spare held m 3 (List.take (prog.cellsOf 3) (List.drop 0 [a0,a1]))=some y0:=hf 0 _ rfl;rw[my]at f0;obtain⟨k0,h0,_,_⟩:=lI underlying3 f0;have e0:a0=.int .i64 k0:=by simpa using h0
   have f1:DataW.trod enc prog w base spare held m 47 (List.take (prog.cellsOf 47) (List.drop 1 [a0,a1]))=some y1:=hf 1 _ rfl;rw[Vp]at f1;obtain⟨k1,h1,_,_⟩:=lI underlying47 f1;have e1:a1=.int .i64 k1:=by simpa using h1
   exact⟨⟨k0,k1⟩,by rw[e0,e1]⟩
theorem BA {α:Type} {R:je α} (hk:prog.cellsOf R.t=R.k) (he:∀{n:Nat} {cs:List Value} {x:DataW H×List MemPlace},DataW.trod enc prog w base spare held n R.t cs=some x->∃v:α,cs=R.enc v)
 {x:DataW H×List MemPlace} (h:DataW.trod enc prog w base spare held n R.ts cs=some x):∃(A:Option Addr) (l:List α) (cap:Nat),cs=[.slice A l.length cap]/\fY R w A l/\(A=none->cap=0)/\l.length<=cap/\cap<=maxLen:=by
 rcases Go.Deep.open_slice R.under h with⟨hcs,_⟩|⟨ad,len,cap,m,k,D,Pl,hcs,_,hl,hm,hmm,_,hi⟩
 ·exact⟨none,[],0,hcs,.inl rfl,fun _=>rfl,aE _,by decide⟩
 ·have WK:len<=m:=by rw[hmm];split<;>omega
  obtain ⟨l,M8,hlp⟩:=WP (α:=α) len (fun i x=>∀j,j<R.k->w.cell? ((ad.add (i*R.k)).add j)=(R.enc x)[j]?) (fun i lm=>by
   obtain⟨cs',hc,ht⟩:=hi i (by omega);rw[hk]at hc;obtain⟨x,rfl⟩:=he ht;obtain⟨_,_,hat⟩:=World.cells?_some hc;exact⟨x,hat⟩)
  refine⟨some ad,l,cap,by rw[hcs,M8],?_,(fun h=>by cases h),by omega,hm⟩
  by_cases h0:l=[]
  ·exact .inl h0
  ·have hpos:0<l.length:=Jz.2 h0
   obtain⟨b,off,spot⟩:=ad;obtain⟨u,hu⟩:∃u,(R.enc l[0])[0]?=some u:=⟨(R.enc l[0])[0]'(by rw[R.len];exact R.hk),iq _⟩;have yq:=(hlp 0 hpos 0 R.hk).trans hu;have hspot:spot=none:=by simpa [Addr.add]using World.cell?_spot yq
   subst hspot;have oV:b<w.heap.size:=by
    rcases lq b w.heap.size with h'|h'
    ·exact h'
    ·simp[Addr.add,World.cell?,rf h']at yq
   refine .inr ⟨b,off,rfl,oV,fun i hi' j hj=>?_⟩;have:=hlp i hi' j hj;simp only[kU]at this;exact this
structure r7 where
 ms:List gi
 is:List fk
 uid:Int
 gid:Int
 at_:Int
 iN:Int
 name:List UInt8
 plan:List (Int×Int)
 keep:Bool
def oT (w:World) (x:r7) (cs:Array Value):Prop:=∃Am cm Ai ci Ap cp,cs=#[.slice Am x.ms.length cm,.slice Ai x.is.length ci,.int .i64 x.uid,.int .i64 x.gid,.int .i64 x.at_,.int .i64 x.iN,.string (bs x.name),.slice Ap x.plan.length cp,.bool x.keep] /\
 fY Bo w Am x.ms/\fY yA w Ai x.is/\fY LJ w Ap x.plan/\(Ap=none->cp=0)/\x.ms.length<=cm/\cm<=maxLen/\x.is.length<=ci/\ci<=maxLen/\x.plan.length<=cp/\cp<=maxLen
theorem vO:prog.cellsOf 25=2:=by kernel_rfl
theorem FA:prog.cellsOf 30=9:=by kernel_rfl
theorem ac5:prog.cellsOf 22=1:=by kernel_rfl
theorem ac6:prog.cellsOf 23=1:=by kernel_rfl
theorem ac7:prog.cellsOf 28=1:=by kernel_rfl
theorem ac8:prog.cellsOf Bo.t=Bo.k:=by kernel_rfl
theorem ac9:prog.cellsOf yA.t=yA.k:=by kernel_rfl
theorem ada:prog.cellsOf LJ.t=LJ.k:=by kernel_rfl
theorem LK {x:DataW H×List MemPlace} (h:DataW.trod enc prog w base spare held n 25 cs=some x):∃(Am:Option Addr) (ms:List gi) (cm:Nat) (Ai:Option Addr) (is:List fk) (ci:Nat),
  cs=[.slice Am ms.length cm,.slice Ai is.length ci]/\fY Bo w Am ms/\fY yA w Ai is/\ms.length<=cm/\cm<=maxLen/\is.length<=ci/\ci<=maxLen:=by
 obtain⟨xs,m,_,_,hl,hxl,hf⟩:=wj underlying25 h;rw[vO]at hl
 match cs,hl with
 | [a0,a1],_ =>
  match xs,hxl with
  | [y0,y1],_ =>
   have f0:DataW.trod enc prog w base spare held m 22 (List.take (prog.cellsOf 22) (List.drop 0 [a0,a1]))=some y0:=hf 0 _ rfl;rw[ac5]at f0;have f1:DataW.trod enc prog w base spare held m 23 (List.take (prog.cellsOf 23) (List.drop 1 [a0,a1]))=some y1:=hf 1 _ rfl;rw[ac6]at f1;obtain⟨Am,ms,cm,e0,h0,_,l0,l1⟩:=BA (R:=Bo) ac8 (fun h=>Qv h) f0;obtain⟨Ai,is,ci,e1,h1,_,l2,l3⟩:=BA (R:=yA) ac9 (fun h=>Qw h) f1;have e0':a0=.slice Am ms.length cm:=by simpa using e0
   have e1':a1=.slice Ai is.length ci:=by simpa using e1
   exact⟨Am,ms,cm,Ai,is,ci,by rw[e0',e1'],h0,h1,l0,l1,l2,l3⟩
theorem LM {x:DataW H×List MemPlace} (h:DataW.trod enc prog w base spare held n 30 cs=some x):∃v:r7,oT w v cs.toArray:=by
 obtain⟨xs,m,_,_,hl,hxl,hf⟩:=wj underlying30 h;rw[FA]at hl
 match cs,hl with
 | [a0,a1,a2,a3,a4,a5,a6,a7,a8],_ =>
  match xs,hxl with
  | [y0,y1,y2,y3,y4,y5,y6],_ =>
   have f0:DataW.trod enc prog w base spare held m 25 (List.take (prog.cellsOf 25) (List.drop 0 [a0,a1,a2,a3,a4,a5,a6,a7,a8]))=some y0:=hf 0 _ rfl;rw[vO]at f0;have f1:DataW.trod enc prog w base spare held m 27 (List.take (prog.cellsOf 27) (List.drop 2 [a0,a1,a2,a3,a4,a5,a6,a7,a8]))=some y1:=hf 1 _ rfl;rw[vh]at f1;have f2:DataW.trod enc prog w base spare held m 3 (List.take (prog.cellsOf 3) (List.drop 4 [a0,a1,a2,a3,a4,a5,a6,a7,a8]))=some y2:=hf 2 _ rfl;rw[my]at f2;have f3:DataW.trod enc prog w base spare held m 3 (List.take (prog.cellsOf 3) (List.drop 5 [a0,a1,a2,a3,a4,a5,a6,a7,a8]))=some y3:=hf 3 _ rfl;rw[my]at f3;have f4:DataW.trod enc prog w base spare held m 9 (List.take (prog.cellsOf 9) (List.drop 6 [a0,a1,a2,a3,a4,a5,a6,a7,a8]))=some y4:=hf 4 _ rfl;rw[Fa]at f4;have f5:DataW.trod enc prog w base spare held m 28 (List.take (prog.cellsOf 28) (List.drop 7 [a0,a1,a2,a3,a4,a5,a6,a7,a8]))=some y5:=hf 5 _ rfl;rw[ac7]at f5;have f6:DataW.trod enc prog w base spare held m 4 (List.take (prog.cellsOf 4) (List.drop 8 [a0,a1,a2,a3,a4,a5,a6,a7,a8]))=some y6:=hf 6 _ rfl;rw[YB]at f6;obtain⟨Am,ms,cm,Ai,is,ci,e0,h0,h1,l0,l1,l2,l3⟩:=LK f0;have e0a:a0=.slice Am ms.length cm:=by simp at e0;exact e0.1
   have e0b:a1=.slice Ai is.length ci:=by simp at e0;exact e0.2
   obtain⟨⟨u,g⟩,e1⟩:=Ku f1;have e1a:a2=.int .i64 u:=by simp at e1;exact e1.1
   have e1b:a3=.int .i64 g:=by simp at e1;exact e1.2
   obtain⟨k2,h2,_,_⟩:=lI underlying3 f2;have e2:a4=.int .i64 k2:=by simpa using h2
   obtain⟨k3,h3,_,_⟩:=lI underlying3 f3;have e3:a5=.int .i64 k3:=by simpa using h3
   obtain⟨s4,h4,_,_⟩:=Ej underlying9 f4;have e4:a6=.string s4:=by simpa using h4
   obtain⟨Ap,ps,cp,e5,h5,hn,l4,l5⟩:=BA (R:=LJ) ada (fun h=>Qx h) f5;have e5':a7=.slice Ap ps.length cp:=by simpa using e5
   obtain⟨b6,h6,_⟩:=DataW.trod_bool underlying4 f6;have e6:a8=.bool b6:=by simpa using h6
   exact⟨⟨ms,is,u,g,k2,k3,s4.data.toList,ps,b6⟩,Am,cm,Ai,ci,Ap,cp,by rw[e0a,e0b,e1a,e1b,e2,e3,e4,e5',e6];simp only[El],h0,h1,h5,hn,l0,l1,l2,l3,l4,l5⟩
theorem Qy {r:Reach} {b0:Nat} {v:Value} {d:DataW H} {p:List MemPlace} (hv:Value.okWide prog w r b0 30 v) (h:DataW.Trod enc prog w base spare held 30 v d p) :
  ∃ (x:r7) (cs:Array Value),v=.agg cs/\oT w x cs:=by
 obtain⟨cs,rfl,hsz⟩:=okWide_struct underlying30 hv;obtain⟨fuel,hf⟩:=h;obtain⟨x,hx⟩:=LM hf;exact⟨x,cs,rfl,hx⟩
end
end
def adb (ms:List gi) (is:List fk):Prop:=(ms.length<=10/\is.length<=30)/\(∀m∈ms,m.path.length<=300)/\∀it∈is,it.path.length<=300/\it.data.length<=1500
def ade (w:World) (P:Prop) (e:Ending) (w':World):Prop:=((e=.returned (.bool true)/\P)\/e=.returned (.bool false))/\Ext w w'
theorem ID {α:Type} {P:α->Prop} {l:List α} {k:Nat} (hk:k<l.length) (h:∀x∈l.take k,P x) (hx:P l[k]):∀x∈l.take (k+1),P x:=by
 intro x hm;rw[mC hk]at hm;rcases dn.1 hm with hm|hm
 ·exact h x hm
 ·rw[ax]at hm;rw[hm];exact hx
theorem Qz (A:Option Addr) (ms:List gi) (cap:Nat) (A2:Option Addr) (is:List fk) (c2:Nat) (w:World) (hM:fY Bo w A ms) (hI:fY yA w A2 is) (hl:ms.length<=9223372036854775807) (xH:is.length<=9223372036854775807) :
  Calls prog 35 #[.agg #[.slice A ms.length cap,.slice A2 is.length c2],.int .i64 30] w (ade w (adb ms is)):=by
 obtain⟨n,hn⟩:=ai ms.length;obtain⟨n2,ug⟩:=ai is.length;rw[<-hn]at hl|-;rw[<-ug]at xH|-;have HN:=zH hn;have JU:=zH ug;obtain⟨W1,cA⟩:=ai (w.alloc (.cells #[.slice A n cap,.slice A2 n2 c2] 25));obtain⟨b1,j_⟩:=ai w.heap.size;have E1:Ext w W1:=by rw[cA];exact (Ext.refl _).alloc _
 have B1:Has W1 b1 (.cells #[.slice A n cap,.slice A2 n2 c2] 25):=by rw[cA,j_];exact Has.new _ _
 have HM:=zH (hM.ext E1);have HI:=zH (hI.ext E1);have c0:=aA B1 0 rfl;have c1:=aA B1 1 rfl;have cz:=B1.lt;have nZ:=zH B1;clear hn ug hM hI B1;go_in;go_upto_region 1 with fail;rw[<-cA,<-j_];clear cA j_
 by_cases h1:(10:Int)<n
 case pos =>
  have t1:decide ((10:Int)<(n:Int))=true:=cj h1;clear h1;go_wp2;go_ret;exact⟨.inr rfl,E1⟩
 have t1:decide ((10:Int)<(n:Int))=false:=cG h1
 by_cases h2:(30:Int)<n2
 case pos =>
  have t2:decide ((30:Int)<(n2:Int))=true:=cj h2;clear h1 h2;go_wp2;go_ret;exact⟨.inr rfl,E1⟩
 have t2:decide ((30:Int)<(n2:Int))=false:=cG h2;have g1:n<=10:=by omega
 have g2:n2<=30:=by omega
 clear h1 h2;go_wp2_with fail;clear c0 c1 cz;go_loopw [5] (fun vi wr=>∃k:Nat,vi=.int .i64 k/\k<=n/\Ext W1 wr/\∀m∈ms.take k,m.path.length<=300) (fun vi _=>n-(intOf vi).toNat)
 case atStart=>exact⟨0,rfl,bC _,Ext.refl _,fun m hm=>(by cases hm)⟩
 case round =>
  obtain⟨k,rfl,hk,hE,hP⟩:=hrel;have HE:=zH hE;have B2:=nZ.o.ext hE;have c0:=aA B2 0 rfl;have c1:=aA B2 1 rfl;have cz:=B2.lt;clear B2;have k0:(0:Int)<=(k:Int):=cO _
  by_cases hlt:(k:Int)<n
  case pos =>
   have dN:k<ms.length:=by have:=HN.o;omega
   obtain⟨ba,o,rfl,yx,q0,_,_⟩:=(HM.o.ext hE).UV dN;have BS:IntKind.i64.wrap ((k:Int)+1)=(k:Int)+1:=cB _ (by omega);have hst:=ID (P:=fun m:gi=>m.path.length<=300) dN hP;obtain⟨m,hm⟩:=ai (ms[k]);rw[<-hm]at q0 hst;have hsz:(bs m.path).size=m.path.length:=bo _;obtain⟨P,Fy⟩:=ai (bs m.path);rw[<-Fy]at q0 hsz;have qQ:=zH hst;clear hm Fy hst hP hE
   by_cases h3:(300:Int)<P.size
   ·have t3:decide ((300:Int)<(P.size:Int))=true:=cj h3
    clear h3 hsz;go_wp2;go_ret;exact⟨.inr rfl,E1.trans HE.o⟩
   ·have t3:decide ((300:Int)<(P.size:Int))=false:=cG h3
    have hS:=zH (qQ.o (by show _<=_;omega));clear h3 hsz;go_wp2_with fail;go_roundw
    case rel=>exact⟨k+1,by go_num,by omega,HE.o,hS.o⟩
    case measure=>simp[intOf];omega
  case neg =>
   have hall:Hid (∀m∈ms,m.path.length<=300):=by
    show ∀_∈_,_;rw[lw (by have:=HN.o;omega)]at hP;exact hP
   clear hP;have lC:=HE;clear HE hE;go_wp2_with fail;clear c0 c1 cz;go_loopw [6] (fun vi wr=>∃k:Nat,vi=.int .i64 k/\k<=n2/\Ext W1 wr/\∀it∈is.take k,it.path.length<=300/\it.data.length<=1500) (fun vi _=>n2-(intOf vi).toNat)
   case atStart=>exact⟨0,rfl,bC _,lC.o,fun m hm=>(by cases hm)⟩
   case round =>
    clear hlt k0 hk;obtain⟨k,rfl,hk,hE,hP⟩:=hrel;have HE:=zH hE;have B2:=nZ.o.ext hE;have c0:=aA B2 0 rfl;have c1:=aA B2 1 rfl;have cz:=B2.lt;clear B2;have k0:(0:Int)<=(k:Int):=cO _
    by_cases hlt:(k:Int)<n2
    case pos =>
     have dN:k<is.length:=by have:=JU.o;omega
     obtain⟨ba,o,rfl,yx,q0,_,_,_,_,_,q6⟩:=(HI.o.ext hE).Ql dN;have BS:IntKind.i64.wrap ((k:Int)+1)=(k:Int)+1:=cB _ (by omega);have hst:=ID (P:=fun it:fk=>it.path.length<=300/\it.data.length<=1500) dN hP;obtain⟨m,hm⟩:=ai (is[k]);rw[<-hm]at q0 q6 hst;have hsz:(bs m.path).size=m.path.length:=bo _;have hsd:(bs m.data).size=m.data.length:=bo _;obtain⟨P,Fy⟩:=ai (bs m.path);obtain⟨D,hDD⟩:=ai (bs m.data);rw[<-Fy]at q0 hsz;rw[<-hDD]at q6 hsd;have qQ:=zH hst;clear hm Fy hDD hst hP hE
     by_cases h3:(300:Int)<P.size
     case pos =>
      have t3:decide ((300:Int)<(P.size:Int))=true:=cj h3;clear h3 hsz hsd;go_wp2;go_ret;exact⟨.inr rfl,E1.trans HE.o⟩
     have t3:decide ((300:Int)<(P.size:Int))=false:=cG h3
     by_cases h4:(1500:Int)<D.size
     case pos =>
      have t4:decide ((1500:Int)<(D.size:Int))=true:=cj h4;clear h3 h4 hsz hsd;go_wp2;go_ret;exact⟨.inr rfl,E1.trans HE.o⟩
     have t4:decide ((1500:Int)<(D.size:Int))=false:=cG h4;have hS:=zH (qQ.o ⟨by omega,by omega⟩);clear h3 h4 hsz hsd;go_wp2_with fail;go_roundw
     case rel=>exact⟨k+1,by go_num,by omega,HE.o,hS.o⟩
     case measure=>simp[intOf];omega
    case neg =>
     have adf:Hid (∀it∈is,it.path.length<=300/\it.data.length<=1500):=by
      show ∀_∈_,_;rw[lw (by have:=JU.o;omega)]at hP;exact hP
     clear hP hE;go_wp2;go_ret;exact⟨.inl ⟨rfl,⟨by have:=HN.o;omega,by have:=JU.o;omega⟩,hall.o,adf.o⟩,E1.trans HE.o⟩
def Vq (x:r7):Prop:=adb x.ms x.is/\x.name.length<=300/\x.plan.length<=4
theorem QA (x:r7) (cs:Array Value) (w:World) (h:oT w x cs):Calls prog 10 #[.agg cs] w (ade w (Vq x)):=by
 obtain⟨Am,cm,Ai,ci,Ap,cp,rfl,hM,hI,hP,_,l0,l1,l2,l3,l4,l5⟩:=h;have ae6:maxLen<=9223372036854775807:=by decide
 obtain⟨W1,cA⟩:=ai (w.alloc (.cells #[.slice Am x.ms.length cm,.slice Ai x.is.length ci,x.uid,x.gid,x.at_,x.iN,bs x.name,.slice Ap x.plan.length cp,.bool x.keep] 30));obtain⟨b1,j_⟩:=ai w.heap.size;have E1:Ext w W1:=by rw[cA];exact (Ext.refl _).alloc _
 have B1:Has W1 b1 (.cells #[.slice Am x.ms.length cm,.slice Ai x.is.length ci,x.uid,x.gid,x.at_,x.iN,bs x.name,.slice Ap x.plan.length cp,.bool x.keep] 30):=by rw[cA,j_];exact Has.new _ _
 obtain⟨nm,ie⟩:=ai x.ms.length;obtain⟨ni,yS⟩:=ai x.is.length;obtain⟨np,Cq⟩:=ai x.plan.length;have KF:=zH (Qz Am x.ms cm Ai x.is ci W1 (hM.ext E1) (hI.ext E1) (by omega) (by omega));have hsz:(bs x.name).size=x.name.length:=bo _;obtain⟨P,Fy⟩:=ai (bs x.name);rw[<-ie,<-yS,<-Cq]at cA B1;rw[<-ie,<-yS]at KF;rw[<-Fy]at cA B1 hsz;rw[<-ie,<-yS,<-Cq,<-Fy];have afB:np<=9223372036854775807:=by omega
 have nZ:=zH B1;have Ww:=zH Cq;have HSZ:=zH hsz;have c0:=aA B1 0 rfl;have c1:=aA B1 1 rfl;have cz:=B1.lt;clear ie yS Cq Fy hM hI hP B1 hsz l0 l1 l2 l3 l4 l5 ae6;go_in;go_upto_region 1 with fail;rw[<-cA,<-j_];clear cA j_;go_wp2_with fail;refine KF.o.mono ?_;rintro e w2 ⟨h2,E2⟩;have B2:=nZ.o.ext E2;clear c0 c1 cz KF;have c6:=aA B2 6 rfl;have c7:=aA B2 7 rfl;have cz:=B2.lt;clear B2;rcases h2 with⟨rfl,hQ⟩|rfl
 case inr =>
  go_wp2;go_ret;exact⟨.inr rfl,E1.trans E2⟩
 have HQ:=zH hQ;clear hQ
 by_cases h3:(P.size:Int)<=300
 case neg =>
  have t3:decide ((P.size:Int)<=300)=false:=cG h3;clear h3;go_wp2;go_ret;exact⟨.inr rfl,E1.trans E2⟩
 have t3:decide ((P.size:Int)<=300)=true:=cj h3
 by_cases h4:(np:Int)<=4
 case neg =>
  have t4:decide ((np:Int)<=4)=false:=cG h4;clear h3 h4;go_wp2;go_ret;exact⟨.inr rfl,E1.trans E2⟩
 have t4:decide ((np:Int)<=4)=true:=cj h4;have hall:Hid (Vq x):=⟨HQ.o,by have:=HSZ.o;omega,by have:=Ww.o;omega⟩;clear h3 h4;go_wp2;go_ret;exact⟨.inl ⟨rfl,hall.o⟩,E1.trans E2⟩
theorem RS.Vr {B:Nat} {f:cI} {s:aH} (h:RS w B f s) (A0:Option Addr) (l:List (Int×Int)) (qR:Nat) (hp:tB w B A0 l) :
  RS (w.setCell (f.bF,5) (.slice A0 l.length qR)) B f {s with plan:=l}/\Only [f.bF] w (w.setCell (f.bF,5) (.slice A0 l.length qR)):=by
 obtain⟨A,cap,h1,h2⟩:=h;have hF:=h1.dJ;have k1:=h1.aaS 5 (.slice A0 l.length qR) (Cf s.now s.count A0 l.length qR s.dead) (fun _ _=>rfl);have O:Only [f.bF] w (w.setCell (f.bF,5) (.slice A0 l.length qR)):=Only.setCell _ _ _ _;exact⟨⟨A0,qR,k1,hp.only O fun x hx=>hF x (by simp at hx;subst hx;simp)⟩,O⟩
def ZY (w:World) (x:r7) (e:Ending) (w':World):Prop:=∃(B b:Nat) (g:dL) (f:cI),e=.returned (.tuple #[((),b),((),f.bF)])/\w.heap.size<=B/\PS w' B b g ⟨jf x.ms x.is,0,0,x.plan,false⟩/\RS w' B f ⟨jf x.ms x.is,0,0,x.plan,false⟩/\Ext w w'
theorem fY.plan (h:fY LJ w A l):dd w A l:=by
 rcases h with h|⟨b,o,hA,hb,hc⟩
 ·exact .inl h
 ·exact .inr ⟨b,o,hA,hb,fun k hk=>⟨hc k hk 0 (by decide),hc k hk 1 (by decide)⟩⟩
theorem fY.adg {w':World} {B:Nat} (h:fY LJ w A l) (E:Ext w w') (hB:w.heap.size<=B):tB w' B A l:=by
 rcases h with h|⟨b,o,hA,hb,hc⟩
 ·exact .inl h
 ·exact .inr ⟨b,o,hA,by have:=E.size;omega,.inl (by omega),fun k hk=>⟨(E.cell hb).trans (hc k hk 0 (by decide)),(E.cell hb).trans (hc k hk 1 (by decide))⟩⟩
theorem fY.YC (h:fY LJ w A l) {b:Nat} (hb:w.heap.size<=b):l≠[]->dK A b:=by
 intro hl;rcases h with h|⟨b',o,hA,hb',_⟩
 ·exact absurd h hl
 ·intro y hy e
  rw[hA]at hy;injection hy with hy;subst hy;have e':b'=b:=e;omega
theorem Vs (x:r7) (cs:Array Value) (w:World) (h:oT w x cs) (hF:Vq x):Calls prog 12 #[.agg cs] w (ZY w x):=by
 obtain⟨Am,cm,Ai,ci,Ap,cp,rfl,hM,hI,hP,Z9,l0,l1,l2,l3,l4,l5⟩:=h;obtain⟨⟨⟨g1,g2⟩,g3,g4⟩,_,g6⟩:=hF;obtain⟨W1,cA⟩:=ai (w.alloc (.cells #[.slice Am x.ms.length cm,.slice Ai x.is.length ci,x.uid,x.gid,x.at_,x.iN,bs x.name,.slice Ap x.plan.length cp,.bool x.keep] 30));obtain⟨b1,j_⟩:=ai w.heap.size;have E1:Ext w W1:=by rw[cA];exact (Ext.refl _).alloc _
 have B1:Has W1 b1 (.cells #[.slice Am x.ms.length cm,.slice Ai x.is.length ci,x.uid,x.gid,x.at_,x.iN,bs x.name,.slice Ap x.plan.length cp,.bool x.keep] 30):=by rw[cA,j_];exact Has.new _ _
 have hM1:=hM.ext E1;have hI1:=hI.ext E1;have KP1:=fun (u:World) (hu:Ext W1 u)=>Bv Am x.ms cm Ai x.is ci u (hM1.ext hu) (hI1.ext hu) g1 g2 (fun m hm=>by have:=g3 m hm;omega) (fun it hit=>by have:=g4 it hit;omega)
 have KP2:=fun (B:Nat) (u:World) (hu:Ext W1 u) (hB:B<=u.heap.size)=>LI B Am x.ms cm Ai x.is ci u hB (hM1.ext hu) (hI1.ext hu) g1 g2 (fun m hm=>by have:=g3 m hm;omega) (fun it hit=>by have:=g4 it hit;omega)
 obtain⟨nm,ie⟩:=ai x.ms.length;obtain⟨ni,yS⟩:=ai x.is.length;obtain⟨np,Cq⟩:=ai x.plan.length;obtain⟨P,Fy⟩:=ai (bs x.name);obtain⟨T,hT⟩:=ai (jf x.ms x.is);rw[<-ie,<-yS,<-Cq,<-Fy]at cA B1;simp only[<-ie,<-yS,<-hT]at KP1 KP2;unfold ZY;rw[<-ie,<-yS,<-Cq,<-Fy,<-hT];have ae7:=zH KP1;have ae8:=zH KP2;have HP:=zH hP;have HPN:=zH Z9;have Ww:=zH Cq;have af9:np<=4:=by omega
 have nZ:=zH B1;have c0:=aA B1 0 rfl;have c1:=aA B1 1 rfl;have cz:=B1.lt;have KS:Hid (∀w',Ext W1 w'->(Ext W1 w'/\w'.cell? (b1,0)=some (.slice Am nm cm)/\w'.cell? (b1,1)=some (.slice Ai ni ci))):=fun w' h'=>⟨h',(h'.cell cz).trans c0,(h'.cell cz).trans c1⟩
 have FB:Ext W1 W1.drew:=(Ext.refl _).drew;clear ie yS Cq Fy hT hM hI hP Z9 B1 l0 l1 l2 l3 l4 l5 hM1 hI1 KP1 KP2 g1 g2 g3 g4 g6 c0 c1 cz;go_in;go_upto_region 1 with fail;rw[<-cA,<-j_];clear cA j_;go_region_held3 (fun w'=>Ext W1 w'/\w'.cell? (b1,0)=some (.slice Am nm cm)/\w'.cell? (b1,1)=some (.slice Ai ni ci))
  ((first|exact KS.o _ FB|exact KS.o _ (FB.trans W_)|exact KS.o _ ((FB.trans W_).trans hEb)))
  ((first|(go_at_call 36;refine (ae7.o _ FB).mono ?_;rintro e wa ⟨ba,Ba,ga,rfl,hBa,hPa,W_⟩)|(go_at_call 37;refine (ae8.o Ba wa (FB.trans W_) (by have h8:=(hPa.dJ ba (bY ..)).1;have h9:=hPa.lt ba (bY ..);omega)).mono ?_;rintro e wb ⟨fb,rfl,hRb,hEb⟩)))
 have Ewb:Ext w wb:=E1.trans ((FB.trans W_).trans hEb);have hBw:w.heap.size<=Ba:=by have h7:=E1.size;have h8:=FB.size;omega
 have PW:=hPa.ext hEb;have D0:mi wb Ba ba ga fb ⟨T,0,0,[],false⟩ ⟨T,0,0,[],false⟩ wb:=mi.start PW hRb;have yx:Ba<=ba:=(PW.dJ ba (bY ..)).1;have KP0:=D0.ac2 Ap x.plan cp (HP.o.ext Ewb).plan HPN.o (HP.o.YC (by omega)) (by have:=Ww.o;omega);rw[<-Ww.o]at KP0;have HKP:=zH KP0;have Bwb:=nZ.o.ext ((FB.trans W_).trans hEb);have HPW:=zH PW;have HRW:=zH hRb;have Cm:=zH Bwb;have HEW:=zH Ewb;have ae9:Hid (b1∉ba::(ga.list++fb.list)):=by
  show _∉_;intro hb;have h8:=FB.size;have h9:=nZ.o.lt;rcases aR.1 hb with e|hb
  ·omega
  ·rcases dn.1 hb with hb|hb
   ·have:=(HPW.o.dJ b1 (cf _ hb)).1;omega
   ·have:=(HRW.o.dJ b1 hb).1;omega
 have c7:=aA Bwb 7 rfl;have cz:=Bwb.lt;clear D0 KP0 Bwb PW hRb hPa W_ hEb Ewb yx;go_wp2_with fail;refine HKP.o.mono ?_;rintro e w5 ⟨⟨v5,rfl⟩,D5⟩;have D5':mi wb Ba ba ga fb ⟨T,0,0,x.plan,false⟩ ⟨T,0,0,[],false⟩ w5:=D5;obtain⟨vN,vD,A5,aga,YD⟩:=D5'.fs;have B5:=D5'.has Cm.o ae9.o;clear c7 cz HKP D5;have c7:=B5.cell 7;have cz:=B5.lt;have q5:=Has.cell YD 5;have f5:=Has.free YD 5;have qz:=Has.lt YD;simp only[gA,gB,gC]at c7 q5;obtain⟨V,hV⟩:=ai (w5.setCell (fb.bF,5) (.slice Ap np cp));have D6 : mi wb Ba ba ga fb ⟨T,0,0,x.plan,false⟩ ⟨T,0,0,x.plan,false⟩ V:=by
  obtain ⟨g5,f5',h1,h2,h3,h4,h5⟩:=D5';have FM:dX wb Ba (ba::(ga.list++fb.list)):=fun y hy=>by
   rcases aR.1 hy with rfl|hy
   ·exact HPW.o.dJ _ (bY ..)
   ·rcases dn.1 hy with hy|hy
    ·exact HPW.o.dJ _ (cf _ hy)
    ·exact HRW.o.dJ _ hy
  have hpt:tB w5 Ba Ap x.plan:=(HP.o.adg HEW.o hBw).only h5 FM;have:=h4.Vr Ap x.plan cp hpt;rw[h2.1,<-Ww.o,<-hV]at this;exact mi.acz h1 h2 h3 h4 h5 ⟨f5',this.1,this.2.mono (fun y hy=>by rw[ax]at hy;subst hy;rw[<-h2.1];simp),cI.ew _ _⟩
 have HD6:=zH D6;clear D6 D5' YD B5;go_upto_region 5 with fail;rw[<-hV];clear hV q5 f5 qz c7 cz;go_wp2;go_ret2;have X6:=HD6.o.after HEW.o hBw HPW.o HRW.o;obtain⟨g6,f6,h1,h2,h3,h4,h5⟩:=HD6.o;exact⟨Ba,ba,g6,f6,by rw[h2.1];rfl,hBw,h3,h4,X6⟩
end Go.Proofs.YtpibnfdolojpcaaGreat
