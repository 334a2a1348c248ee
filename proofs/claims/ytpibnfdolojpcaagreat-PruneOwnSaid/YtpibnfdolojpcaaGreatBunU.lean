import Derived.Test.YtpibnfdolojpcaaGreatBunS
import Derived.Test.YtpibnfdolojpcaaGreatBunI
import Derived.Test.YtpibnfdolojpcaaGreatBunR
import Derived.Test.YtpibnfdolojpcaaGreatBunT
set_option maxHeartbeats 8000000
set_option maxRecDepth 100000
namespace Go.Proofs.YtpibnfdolojpcaaGreat
section
open Go.ChangeShapes Go.WideShapes Go.ChangeAt Go.RowKit
def Eh:gJ (Int×Int):=⟨28,216,2,16,.agg #[.int .i64 0,.int .i64 0],fun x=>[.int .i64 x.1,.int .i64 x.2],by decide,Tryz.underlying28,by kernel_rfl,rfl,fun _=>rfl,fun x u hu=>by
 simp only[List.mem_cons,List.not_mem_nil,or_false]at hu;rcases hu with rfl|rfl<;>rfl,by decide⟩
section
variable {H:Type} {enc:TypeId×Value->H} {w:World} {base:Nat} {spare:Nat->Bool} {held:Bool}
theorem NH:Tryz.prog.cellsOf 47=1:=by kernel_rfl
theorem Ra:Tryz.prog.cellsOf 4=1:=by kernel_rfl
theorem BQ:Tryz.prog.cellsOf 119=3:=by kernel_rfl
theorem IX {n:Nat} {cs:List Value} {x:DataW H×List MemPlace} (h:DataW.trod enc Tryz.prog w base spare held n 119 cs=some x):∃v:eW,cs=[.string (bs v.path),.int .i64 v.b,.int .i64 v.n]:=by
 obtain ⟨xs,m,_,_,hl,hxl,hf⟩:=DataW.trod_struct Tryz.underlying119 h;rw [BQ]at hl
 match cs,hl with
 | [a0,a1,a2],_ =>
  match xs,hxl with
  | [y0,y1,y2],_ =>
   have f0:DataW.trod enc Tryz.prog w base spare held m 9 (List.take (Tryz.prog.cellsOf 9) (List.drop 0 [a0,a1,a2]))=some y0:=hf 0 _ rfl;rw [yQ]at f0;obtain ⟨s0,h0,_,_⟩:=DataW.trod_string Tryz.underlying9 f0;have e0:a0=.string s0:=by simpa using h0
   have f1:DataW.trod enc Tryz.prog w base spare held m 3 (List.take (Tryz.prog.cellsOf 3) (List.drop 1 [a0,a1,a2]))=some y1:=hf 1 _ rfl;rw [km]at f1;obtain ⟨k1,h1,_,_⟩:=DataW.trod_int Tryz.underlying3 f1;have e1:a1=.int .i64 k1:=by simpa using h1
   have f2:DataW.trod enc Tryz.prog w base spare held m 3 (List.take (Tryz.prog.cellsOf 3) (List.drop 2 [a0,a1,a2]))=some y2:=hf 2 _ rfl;rw [km]at f2;obtain ⟨k2,h2,_,_⟩:=DataW.trod_int Tryz.underlying3 f2;have e2:a2=.int .i64 k2:=by simpa using h2
   exact ⟨⟨s0.data.toList,k1,k2⟩,by rw[e0,e1,e2];simp only[yb]⟩
theorem BR:Tryz.prog.cellsOf 72=7:=by kernel_rfl
theorem IY {n:Nat} {cs:List Value} {x:DataW H×List MemPlace} (h:DataW.trod enc Tryz.prog w base spare held n 72 cs=some x):∃v:dS,cs=[.string (bs v.path),.int .i64 v.kind,.int .i64 v.mode,.int .i64 v.uid,.int .i64 v.gid,.int .i64 v.mtime,.string (bs v.data)]:=by
 obtain ⟨xs,m,_,_,hl,hxl,hf⟩:=DataW.trod_struct Tryz.underlying72 h;rw [BR]at hl
 match cs,hl with
 | [a0,a1,a2,a3,a4,a5,a6],_ =>
  match xs,hxl with
  | [y0,y1,y2,y3,y4,y5,y6],_ =>
   have f0:DataW.trod enc Tryz.prog w base spare held m 9 (List.take (Tryz.prog.cellsOf 9) (List.drop 0 [a0,a1,a2,a3,a4,a5,a6]))=some y0:=hf 0 _ rfl;rw [yQ]at f0;obtain ⟨s0,h0,_,_⟩:=DataW.trod_string Tryz.underlying9 f0;have e0:a0=.string s0:=by simpa using h0
   have f1:DataW.trod enc Tryz.prog w base spare held m 3 (List.take (Tryz.prog.cellsOf 3) (List.drop 1 [a0,a1,a2,a3,a4,a5,a6]))=some y1:=hf 1 _ rfl;rw [km]at f1;obtain ⟨k1,h1,_,_⟩:=DataW.trod_int Tryz.underlying3 f1;have e1:a1=.int .i64 k1:=by simpa using h1
   have f2:DataW.trod enc Tryz.prog w base spare held m 3 (List.take (Tryz.prog.cellsOf 3) (List.drop 2 [a0,a1,a2,a3,a4,a5,a6]))=some y2:=hf 2 _ rfl;rw [km]at f2;obtain ⟨k2,h2,_,_⟩:=DataW.trod_int Tryz.underlying3 f2;have e2:a2=.int .i64 k2:=by simpa using h2
   have f3:DataW.trod enc Tryz.prog w base spare held m 3 (List.take (Tryz.prog.cellsOf 3) (List.drop 3 [a0,a1,a2,a3,a4,a5,a6]))=some y3:=hf 3 _ rfl;rw [km]at f3;obtain ⟨k3,h3,_,_⟩:=DataW.trod_int Tryz.underlying3 f3;have e3:a3=.int .i64 k3:=by simpa using h3
   have f4:DataW.trod enc Tryz.prog w base spare held m 3 (List.take (Tryz.prog.cellsOf 3) (List.drop 4 [a0,a1,a2,a3,a4,a5,a6]))=some y4:=hf 4 _ rfl;rw [km]at f4;obtain ⟨k4,h4,_,_⟩:=DataW.trod_int Tryz.underlying3 f4;have e4:a4=.int .i64 k4:=by simpa using h4
   have f5:DataW.trod enc Tryz.prog w base spare held m 3 (List.take (Tryz.prog.cellsOf 3) (List.drop 5 [a0,a1,a2,a3,a4,a5,a6]))=some y5:=hf 5 _ rfl;rw [km]at f5;obtain ⟨k5,h5,_,_⟩:=DataW.trod_int Tryz.underlying3 f5;have e5:a5=.int .i64 k5:=by simpa using h5
   have f6:DataW.trod enc Tryz.prog w base spare held m 9 (List.take (Tryz.prog.cellsOf 9) (List.drop 6 [a0,a1,a2,a3,a4,a5,a6]))=some y6:=hf 6 _ rfl;rw [yQ]at f6;obtain ⟨s6,h6,_,_⟩:=DataW.trod_string Tryz.underlying9 f6;have e6:a6=.string s6:=by simpa using h6
   exact ⟨⟨s0.data.toList,k1,k2,k3,k4,k5,s6.data.toList⟩,by rw[e0,e1,e2,e3,e4,e5,e6];simp only[yb]⟩
theorem BS:Tryz.prog.cellsOf 216=2:=by kernel_rfl
theorem IZ {n:Nat} {cs:List Value} {x:DataW H×List MemPlace} (h:DataW.trod enc Tryz.prog w base spare held n 216 cs=some x):∃v:(Int×Int),cs=[.int .i64 v.1,.int .i64 v.2]:=by
 obtain ⟨xs,m,_,_,hl,hxl,hf⟩:=DataW.trod_struct Tryz.underlying216 h;rw [BS]at hl
 match cs,hl with
 | [a0,a1],_ =>
  match xs,hxl with
  | [y0,y1],_ =>
   have f0:DataW.trod enc Tryz.prog w base spare held m 3 (List.take (Tryz.prog.cellsOf 3) (List.drop 0 [a0,a1]))=some y0:=hf 0 _ rfl;rw [km]at f0;obtain ⟨k0,h0,_,_⟩:=DataW.trod_int Tryz.underlying3 f0;have e0:a0=.int .i64 k0:=by simpa using h0
   have f1:DataW.trod enc Tryz.prog w base spare held m 47 (List.take (Tryz.prog.cellsOf 47) (List.drop 1 [a0,a1]))=some y1:=hf 1 _ rfl;rw [NH]at f1;obtain ⟨k1,h1,_,_⟩:=DataW.trod_int Tryz.underlying47 f1;have e1:a1=.int .i64 k1:=by simpa using h1
   exact ⟨⟨k0,k1⟩,by rw[e0,e1]⟩
theorem vO {α:Type} {R:gJ α} (hk:Tryz.prog.cellsOf R.t=R.k) (he:∀{n:Nat} {cs:List Value} {x:DataW H×List MemPlace},DataW.trod enc Tryz.prog w base spare held n R.t cs=some x->∃v:α,cs=R.enc v)
  {n:Nat} {cs:List Value} {x:DataW H×List MemPlace} (h:DataW.trod enc Tryz.prog w base spare held n R.ts cs=some x):∃(A:Option Addr) (l:List α) (cap:Nat),cs=[.slice A l.length cap]/\eP R w A l/\(A=none->cap=0)/\l.length<=cap/\cap<=maxLen:=by
 rcases Go.Deep.open_slice R.under h with⟨hcs,_⟩|⟨ad,len,cap,m,k,D,Pl,hcs,_,hl,hm,hmm,_,hi⟩
 ·exact⟨none,[],0,hcs,.inl rfl,fun _=>rfl,Nat.le_refl _,by decide⟩
 ·have JW:len<=m:=by rw[hmm];split<;>omega
  obtain ⟨l,FC,hlp⟩:=Pr (α:=α) len (fun i x=>∀j,j<R.k->w.cell? ((ad.add (i*R.k)).add j)=(R.enc x)[j]?) (fun i kC=>by
   obtain ⟨cs',hc,ht⟩:=hi i (by omega);rw [hk]at hc;obtain ⟨x,rfl⟩:=he ht;obtain ⟨_,_,hat⟩:=World.cells?_some hc;exact ⟨x,hat⟩)
  refine ⟨some ad,l,cap,by rw[hcs,FC],?_,(fun h=>by cases h),by omega,hm⟩
  by_cases h0:l=[]
  ·exact .inl h0
  ·have hpos:0<l.length:=List.length_pos_iff.2 h0
   obtain ⟨b,off,spot⟩:=ad;obtain ⟨u,hu⟩:∃u,(R.enc l[0])[0]?=some u:=⟨(R.enc l[0])[0]'(by rw[R.len];exact R.hk),List.getElem?_eq_getElem _⟩;have tw:=(hlp 0 hpos 0 R.hk).trans hu;have hspot:spot=none:=by simpa [Addr.add]using World.cell?_spot tw
   subst hspot;have mV:b<w.heap.size:=by
    rcases Nat.lt_or_ge b w.heap.size with h'|h'
    ·exact h'
    ·simp[Addr.add,World.cell?,Array.getElem?_eq_none h']at tw
   refine .inr ⟨b,off,rfl,mV,fun i hi' j hj=>?_⟩;have:=hlp i hi' j hj;simp only[Addr.add_lit]at this;exact this
structure oy where
 ms:List eW
 is:List dS
 uid:Int
 gid:Int
 at_:Int
 gN:Int
 name:List UInt8
 plan:List (Int×Int)
 keep:Bool
def oz (w:World) (x:oy) (cs:Array Value):Prop:=∃Am cm Ai ci Ap cp,cs=#[.slice Am x.ms.length cm,.slice Ai x.is.length ci,.int .i64 x.uid,.int .i64 x.gid,.int .i64 x.at_,.int .i64 x.gN,.string (bs x.name),.slice Ap x.plan.length cp,.bool x.keep] /\
 eP vE w Am x.ms/\eP tC w Ai x.is/\eP Eh w Ap x.plan/\(Ap=none->cp=0)/\x.ms.length<=cm/\cm<=maxLen/\x.is.length<=ci/\ci<=maxLen/\x.plan.length<=cp/\cp<=maxLen
theorem qT:Tryz.prog.cellsOf 25=2:=by kernel_rfl
theorem zo:Tryz.prog.cellsOf 30=9:=by kernel_rfl
theorem Zg:Tryz.prog.cellsOf 22=1:=by kernel_rfl
theorem Zh:Tryz.prog.cellsOf 23=1:=by kernel_rfl
theorem Zi:Tryz.prog.cellsOf 28=1:=by kernel_rfl
theorem Zj:Tryz.prog.cellsOf vE.t=vE.k:=by kernel_rfl
theorem Zk:Tryz.prog.cellsOf tC.t=tC.k:=by kernel_rfl
theorem Zl:Tryz.prog.cellsOf Eh.t=Eh.k:=by kernel_rfl
theorem Ei {n:Nat} {cs:List Value} {x:DataW H×List MemPlace} (h:DataW.trod enc Tryz.prog w base spare held n 25 cs=some x):∃(Am:Option Addr) (ms:List eW) (cm:Nat) (Ai:Option Addr) (is:List dS) (ci:Nat),
  cs=[.slice Am ms.length cm,.slice Ai is.length ci]/\eP vE w Am ms/\eP tC w Ai is/\ms.length<=cm/\cm<=maxLen/\is.length<=ci/\ci<=maxLen:=by
 obtain ⟨xs,m,_,_,hl,hxl,hf⟩:=DataW.trod_struct Tryz.underlying25 h;rw [qT]at hl
 match cs,hl with
 | [a0,a1],_ =>
  match xs,hxl with
  | [y0,y1],_ =>
   have f0:DataW.trod enc Tryz.prog w base spare held m 22 (List.take (Tryz.prog.cellsOf 22) (List.drop 0 [a0,a1]))=some y0:=hf 0 _ rfl;rw [Zg]at f0;have f1:DataW.trod enc Tryz.prog w base spare held m 23 (List.take (Tryz.prog.cellsOf 23) (List.drop 1 [a0,a1]))=some y1:=hf 1 _ rfl;rw [Zh]at f1;obtain ⟨Am,ms,cm,e0,h0,_,l0,l1⟩:=vO (R:=vE) Zj (fun h=>IX h) f0;obtain ⟨Ai,is,ci,e1,h1,_,l2,l3⟩:=vO (R:=tC) Zk (fun h=>IY h) f1;have e0':a0=.slice Am ms.length cm:=by simpa using e0
   have e1':a1=.slice Ai is.length ci:=by simpa using e1
   exact ⟨Am,ms,cm,Ai,is,ci,by rw[e0',e1'],h0,h1,l0,l1,l2,l3⟩
theorem Ej {n:Nat} {cs:List Value} {x:DataW H×List MemPlace} (h:DataW.trod enc Tryz.prog w base spare held n 30 cs=some x):∃v:oy,oz w v cs.toArray:=by
 obtain ⟨xs,m,_,_,hl,hxl,hf⟩:=DataW.trod_struct Tryz.underlying30 h;rw [zo]at hl
 match cs,hl with
 | [a0,a1,a2,a3,a4,a5,a6,a7,a8],_ =>
  match xs,hxl with
  | [y0,y1,y2,y3,y4,y5,y6],_ =>
   have f0:DataW.trod enc Tryz.prog w base spare held m 25 (List.take (Tryz.prog.cellsOf 25) (List.drop 0 [a0,a1,a2,a3,a4,a5,a6,a7,a8]))=some y0:=hf 0 _ rfl;rw [qT]at f0;have f1:DataW.trod enc Tryz.prog w base spare held m 27 (List.take (Tryz.prog.cellsOf 27) (List.drop 2 [a0,a1,a2,a3,a4,a5,a6,a7,a8]))=some y1:=hf 1 _ rfl;rw [qB]at f1;have f2:DataW.trod enc Tryz.prog w base spare held m 3 (List.take (Tryz.prog.cellsOf 3) (List.drop 4 [a0,a1,a2,a3,a4,a5,a6,a7,a8]))=some y2:=hf 2 _ rfl;rw [km]at f2;have f3:DataW.trod enc Tryz.prog w base spare held m 3 (List.take (Tryz.prog.cellsOf 3) (List.drop 5 [a0,a1,a2,a3,a4,a5,a6,a7,a8]))=some y3:=hf 3 _ rfl;rw [km]at f3;have f4:DataW.trod enc Tryz.prog w base spare held m 9 (List.take (Tryz.prog.cellsOf 9) (List.drop 6 [a0,a1,a2,a3,a4,a5,a6,a7,a8]))=some y4:=hf 4 _ rfl;rw [yQ]at f4;have f5:DataW.trod enc Tryz.prog w base spare held m 28 (List.take (Tryz.prog.cellsOf 28) (List.drop 7 [a0,a1,a2,a3,a4,a5,a6,a7,a8]))=some y5:=hf 5 _ rfl;rw [Zi]at f5;have f6:DataW.trod enc Tryz.prog w base spare held m 4 (List.take (Tryz.prog.cellsOf 4) (List.drop 8 [a0,a1,a2,a3,a4,a5,a6,a7,a8]))=some y6:=hf 6 _ rfl;rw [Ra]at f6;obtain ⟨Am,ms,cm,Ai,is,ci,e0,h0,h1,l0,l1,l2,l3⟩:=Ei f0;have e0a:a0=.slice Am ms.length cm:=by simp at e0;exact e0.1
   have e0b:a1=.slice Ai is.length ci:=by simp at e0;exact e0.2
   obtain ⟨⟨u,g⟩,e1⟩:=Ds f1;have e1a:a2=.int .i64 u:=by simp at e1;exact e1.1
   have WK:a3=.int .i64 g:=by simp at e1;exact e1.2
   obtain ⟨k2,h2,_,_⟩:=DataW.trod_int Tryz.underlying3 f2;have e2:a4=.int .i64 k2:=by simpa using h2
   obtain ⟨k3,h3,_,_⟩:=DataW.trod_int Tryz.underlying3 f3;have e3:a5=.int .i64 k3:=by simpa using h3
   obtain ⟨s4,h4,_,_⟩:=DataW.trod_string Tryz.underlying9 f4;have e4:a6=.string s4:=by simpa using h4
   obtain ⟨Ap,ps,cp,e5,h5,hn,l4,l5⟩:=vO (R:=Eh) Zl (fun h=>IZ h) f5;have e5':a7=.slice Ap ps.length cp:=by simpa using e5
   obtain ⟨b6,h6,_⟩:=DataW.trod_bool Tryz.underlying4 f6;have e6:a8=.bool b6:=by simpa using h6
   exact ⟨⟨ms,is,u,g,k2,k3,s4.data.toList,ps,b6⟩,Am,cm,Ai,ci,Ap,cp,by rw[e0a,e0b,e1a,WK,e2,e3,e4,e5',e6];simp only[yb],h0,h1,h5,hn,l0,l1,l2,l3,l4,l5⟩
theorem I0 {r:Reach} {b0:Nat} {v:Value} {d:DataW H} {p:List MemPlace} (hv:Value.okWide Tryz.prog w r b0 30 v) (h:DataW.Trod enc Tryz.prog w base spare held 30 v d p) :
  ∃ (x:oy) (cs:Array Value),v=.agg cs/\oz w x cs:=by
 obtain ⟨cs,rfl,hsz⟩:=okWide_struct Tryz.underlying30 hv;obtain ⟨fuel,hf⟩:=h;obtain ⟨x,hx⟩:=Ej hf;exact ⟨x,cs,rfl,hx⟩
end
end
open Go.ChangeShapes Go.WideShapes Go.ChangeAt Go.RowKit
def Zm (ms:List eW) (is:List dS):Prop:=(ms.length<=10/\is.length<=30)/\(∀m∈ms,m.path.length<=300)/\∀it∈is,it.path.length<=300/\it.data.length<=1500
def Zn (w:World) (P:Prop) (e:Ending) (w':World):Prop:=((e=.returned (.bool true)/\P)\/e=.returned (.bool false))/\Ext w w'
theorem BU {α:Type} {P:α->Prop} {l:List α} {k:Nat} (hk:k<l.length) (h:∀x∈l.take k,P x) (hx:P l[k]):∀x∈l.take (k+1),P x:=by
 intro x hm;rw [List.take_succ_eq_append_getElem hk]at hm;rcases List.mem_append.1 hm with hm|hm
 ·exact h x hm
 ·rw[List.mem_singleton]at hm;rw[hm];exact hx
theorem I1 (A:Option Addr) (ms:List eW) (cap:Nat) (A2:Option Addr) (is:List dS) (c2:Nat) (w:World) (hM:eP vE w A ms) (hI:eP tC w A2 is) (hl:ms.length<=9223372036854775807) (rh:is.length<=9223372036854775807) :
  Calls Tryz.prog 35 #[.agg #[.slice A ms.length cap,.slice A2 is.length c2],.int .i64 30] w (Zn w (Zm ms is)):=by
 obtain⟨n,hn⟩:=zE ms.length;obtain ⟨n2,tj⟩:∃n,n=is.length:=⟨_,rfl⟩;rw [<-hn]at hl|-;rw [<-tj]at rh|-;have HN:=zH hn;have RO:=zH tj;obtain ⟨W1,bL⟩:∃W,W=w.alloc (.cells #[.slice A n cap,.slice A2 n2 c2] 25):=⟨_,rfl⟩;obtain ⟨b1,kG⟩:∃b,b=w.heap.size:=⟨_,rfl⟩;have E1:Ext w W1:=by rw[bL];exact (Ext.refl _).alloc _
 have B1:Has W1 b1 (.cells #[.slice A n cap,.slice A2 n2 c2] 25):=by rw[bL,kG];exact Has.new _ _
 have HM:=zH (hM.ext E1);have HI:=zH (hI.ext E1);have c0:=B1.cell 0;have c1:=B1.cell 1;have cz:=B1.lt;simp only[gA,gB,gC]at c0 c1;have qR:=zH B1;clear hn tj hM hI B1;go_enter Tryz.func35,Tryz.ntmps35;go_upto_region 1 with fail;rw [<-bL,<-kG];clear bL kG
 by_cases h1:(10:Int)<n
 case pos =>
  have t1:decide ((10:Int)<(n:Int))=true:=decide_eq_true h1;clear h1;go_wp2_with fail;go_ret;exact ⟨.inr rfl,E1⟩
 have t1:decide ((10:Int)<(n:Int))=false:=decide_eq_false h1
 by_cases h2:(30:Int)<n2
 case pos =>
  have t2:decide ((30:Int)<(n2:Int))=true:=decide_eq_true h2;clear h1 h2;go_wp2_with fail;go_ret;exact ⟨.inr rfl,E1⟩
 have t2:decide ((30:Int)<(n2:Int))=false:=decide_eq_false h2;have g1:n<=10:=by omega
 have g2:n2<=30:=by omega
 clear h1 h2;go_wp2_with fail;clear c0 c1 cz;go_loopw [5] (fun vi wr=>∃k:Nat,vi=.int .i64 k/\k<=n/\Ext W1 wr/\∀m∈ms.take k,m.path.length<=300) (fun vi _=>n-(intOf vi).toNat)
 case atStart=>exact⟨0,rfl,Nat.zero_le _,Ext.refl _,fun m hm=>(by cases hm)⟩
 case round =>
  obtain ⟨k,rfl,hk,hE,hP⟩:=hrel;have HE:=zH hE;have B2:=qR.out.ext hE;have c0:=B2.cell 0;have c1:=B2.cell 1;have cz:=B2.lt;simp only[gA,gB,gC]at c0 c1;clear B2;have k0:(0:Int)<=(k:Int):=Int.natCast_nonneg _
  by_cases hlt:(k:Int)<n
  case pos =>
   have dI:k<ms.length:=by have:=HN.out;omega
   obtain ⟨ba,o,rfl,wH,q0,_,_⟩:=(HM.out.ext hE).M_ dI;have AY:IntKind.i64.wrap ((k:Int)+1)=(k:Int)+1:=IntWalk.i64_in _ (by omega);have hst:=BU (P:=fun m:eW=>m.path.length<=300) dI hP;obtain⟨m,hm⟩:=zE (ms[k]);rw [<-hm]at q0 hst;have hsz:(bs m.path).size=m.path.length:=bi _;obtain⟨P,zm⟩:=zE (bs m.path);rw [<-zm]at q0 hsz;have rb:=zH hst;clear hm zm hst hP hE
   by_cases h3:(300:Int)<P.size
   ·have t3:decide ((300:Int)<(P.size:Int))=true:=decide_eq_true h3
    clear h3 hsz;go_wp2_with fail;go_ret;exact ⟨.inr rfl,E1.trans HE.out⟩
   ·have t3:decide ((300:Int)<(P.size:Int))=false:=decide_eq_false h3
    have hS:=zH (rb.out (by show _<=_;omega));clear h3 hsz;go_wp2_with fail;go_roundw
    case rel=>exact⟨k+1,by go_num,by omega,HE.out,hS.out⟩
    case measure=>simp[intOf];omega
  case neg =>
   have hall:Hid (∀m∈ms,m.path.length<=300):=by
    show ∀_∈_,_;rw [List.take_of_length_le (by have:=HN.out;omega)]at hP;exact hP
   clear hP;have lD:=HE;clear HE hE;go_wp2_with fail;clear c0 c1 cz;go_loopw [6] (fun vi wr=>∃k:Nat,vi=.int .i64 k/\k<=n2/\Ext W1 wr/\∀it∈is.take k,it.path.length<=300/\it.data.length<=1500) (fun vi _=>n2-(intOf vi).toNat)
   case atStart=>exact⟨0,rfl,Nat.zero_le _,lD.out,fun m hm=>(by cases hm)⟩
   case round =>
    clear hlt k0 hk;obtain ⟨k,rfl,hk,hE,hP⟩:=hrel;have HE:=zH hE;have B2:=qR.out.ext hE;have c0:=B2.cell 0;have c1:=B2.cell 1;have cz:=B2.lt;simp only[gA,gB,gC]at c0 c1;clear B2;have k0:(0:Int)<=(k:Int):=Int.natCast_nonneg _
    by_cases hlt:(k:Int)<n2
    case pos =>
     have dI:k<is.length:=by have:=RO.out;omega
     obtain ⟨ba,o,rfl,wH,q0,_,_,_,_,_,q6⟩:=(HI.out.ext hE).IK dI;have AY:IntKind.i64.wrap ((k:Int)+1)=(k:Int)+1:=IntWalk.i64_in _ (by omega);have hst:=BU (P:=fun it:dS=>it.path.length<=300/\it.data.length<=1500) dI hP;obtain⟨m,hm⟩:=zE (is[k]);rw [<-hm]at q0 q6 hst;have hsz:(bs m.path).size=m.path.length:=bi _;have Pb:(bs m.data).size=m.data.length:=bi _;obtain⟨P,zm⟩:=zE (bs m.path);obtain ⟨D,hDD⟩:∃P,P=bs m.data:=⟨_,rfl⟩;rw [<-zm]at q0 hsz;rw [<-hDD]at q6 Pb;have rb:=zH hst;clear hm zm hDD hst hP hE
     by_cases h3:(300:Int)<P.size
     case pos =>
      have t3:decide ((300:Int)<(P.size:Int))=true:=decide_eq_true h3;clear h3 hsz Pb;go_wp2_with fail;go_ret;exact ⟨.inr rfl,E1.trans HE.out⟩
     have t3:decide ((300:Int)<(P.size:Int))=false:=decide_eq_false h3
     by_cases h4:(1500:Int)<D.size
     case pos =>
      have t4:decide ((1500:Int)<(D.size:Int))=true:=decide_eq_true h4;clear h3 h4 hsz Pb;go_wp2_with fail;go_ret;exact ⟨.inr rfl,E1.trans HE.out⟩
     have t4:decide ((1500:Int)<(D.size:Int))=false:=decide_eq_false h4;have hS:=zH (rb.out ⟨by omega,by omega⟩);clear h3 h4 hsz Pb;go_wp2_with fail;go_roundw
     case rel=>exact⟨k+1,by go_num,by omega,HE.out,hS.out⟩
     case measure=>simp[intOf];omega
    case neg =>
     have Zo:Hid (∀it∈is,it.path.length<=300/\it.data.length<=1500):=by
      show ∀_∈_,_;rw [List.take_of_length_le (by have:=RO.out;omega)]at hP;exact hP
     clear hP hE;go_wp2_with fail;go_ret;exact ⟨.inl ⟨rfl,⟨by have:=HN.out;omega,by have:=RO.out;omega⟩,hall.out,Zo.out⟩,E1.trans HE.out⟩
def I2 (x:oy):Prop:=Zm x.ms x.is/\x.name.length<=300/\x.plan.length<=4
theorem I3 (x:oy) (cs:Array Value) (w:World) (h:oz w x cs):Calls Tryz.prog 10 #[.agg cs] w (Zn w (I2 x)):=by
 obtain ⟨Am,cm,Ai,ci,Ap,cp,rfl,hM,hI,hP,_,l0,l1,l2,l3,l4,l5⟩:=h;have abC:maxLen<=9223372036854775807:=by decide
 obtain ⟨W1,bL⟩:∃W,W=w.alloc (.cells #[.slice Am x.ms.length cm,.slice Ai x.is.length ci,x.uid,x.gid,.int .i64 x.at_,.int .i64 x.gN,bs x.name,.slice Ap x.plan.length cp,.bool x.keep] 30):=⟨_,rfl⟩;obtain ⟨b1,kG⟩:∃b,b=w.heap.size:=⟨_,rfl⟩;have E1:Ext w W1:=by rw[bL];exact (Ext.refl _).alloc _
 have B1:Has W1 b1 (.cells #[.slice Am x.ms.length cm,.slice Ai x.is.length ci,x.uid,x.gid,.int .i64 x.at_,.int .i64 x.gN,bs x.name,.slice Ap x.plan.length cp,.bool x.keep] 30):=by rw[bL,kG];exact Has.new _ _
 obtain ⟨nm,jA⟩:∃n,n=x.ms.length:=⟨_,rfl⟩;obtain ⟨ni,sD⟩:∃n,n=x.is.length:=⟨_,rfl⟩;obtain ⟨np,wJ⟩:∃n,n=x.plan.length:=⟨_,rfl⟩;have KF:=zH (I1 Am x.ms cm Ai x.is ci W1 (hM.ext E1) (hI.ext E1) (by omega) (by omega));have hsz:(bs x.name).size=x.name.length:=bi _;obtain⟨P,zm⟩:=zE (bs x.name);rw [<-jA,<-sD,<-wJ]at bL B1;rw [<-jA,<-sD]at KF;rw [<-zm]at bL B1 hsz;rw [<-jA,<-sD,<-wJ,<-zm];have ace:np<=9223372036854775807:=by omega
 have qR:=zH B1;have Pa:=zH wJ;have HSZ:=zH hsz;have c0:=B1.cell 0;have c1:=B1.cell 1;have cz:=B1.lt;simp only[gA,gB,gC]at c0 c1;clear jA sD wJ zm hM hI hP B1 hsz l0 l1 l2 l3 l4 l5 abC;go_enter Tryz.func10,Tryz.ntmps10;go_upto_region 1 with fail;rw [<-bL,<-kG];clear bL kG;go_wp2_with fail;refine KF.out.mono ?_;rintro e w2 ⟨h2,E2⟩;have B2:=qR.out.ext E2;clear c0 c1 cz KF;have c6:=B2.cell 6;have c7:=B2.cell 7;have cz:=B2.lt;simp only[gA,gB,gC]at c6 c7;clear B2;rcases h2 with⟨rfl,hQ⟩|rfl
 case inr =>
  go_wp2_with fail;go_ret;exact ⟨.inr rfl,E1.trans E2⟩
 have HQ:=zH hQ;clear hQ
 by_cases h3:(P.size:Int)<=300
 case neg =>
  have t3:decide ((P.size:Int)<=300)=false:=decide_eq_false h3;clear h3;go_wp2_with fail;go_ret;exact ⟨.inr rfl,E1.trans E2⟩
 have t3:decide ((P.size:Int)<=300)=true:=decide_eq_true h3
 by_cases h4:(np:Int)<=4
 case neg =>
  have t4:decide ((np:Int)<=4)=false:=decide_eq_false h4;clear h3 h4;go_wp2_with fail;go_ret;exact ⟨.inr rfl,E1.trans E2⟩
 have t4:decide ((np:Int)<=4)=true:=decide_eq_true h4;have hall:Hid (I2 x):=⟨HQ.out,by have:=HSZ.out;omega,by have:=Pa.out;omega⟩;clear h3 h4;go_wp2_with fail;go_ret;exact ⟨.inl ⟨rfl,hall.out⟩,E1.trans E2⟩
theorem RS.NI {w:World} {B:Nat} {f:cI} {s:av} (h:RS w B f s) (A0:Option Addr) (l:List (Int×Int)) (mZ:Nat) (hp:pz w B A0 l) :
  RS (w.setCell ⟨f.bF,5,none⟩ (.slice A0 l.length mZ)) B f {s with plan:=l}/\Only [f.bF] w (w.setCell ⟨f.bF,5,none⟩ (.slice A0 l.length mZ)):=by
 obtain ⟨A,cap,h1,h2⟩:=h;have hF:=h1.cU;have k1:=h1.aaV 5 (.slice A0 l.length mZ) (TU s.now s.count A0 l.length mZ s.dead) (fun _ _=>rfl);have O:Only [f.bF] w (w.setCell ⟨f.bF,5,none⟩ (.slice A0 l.length mZ)):=Only.setCell _ _ _ _;exact ⟨⟨A0,mZ,k1,hp.only O fun x hx=>hF x (by simp at hx;subst hx;simp)⟩,O⟩
def NJ (w:World) (x:oy) (e:Ending) (w':World):Prop:=∃(B b:Nat) (g:bG) (f:cI),e=.returned (.tuple #[.pointer (some ⟨b,0,none⟩),.pointer (some ⟨f.bF,0,none⟩)])/\w.heap.size<=B/\PS w' B b g ⟨gp x.ms x.is,0,0,x.plan,false⟩/\RS w' B f ⟨gp x.ms x.is,0,0,x.plan,false⟩/\Ext w w'
theorem eP.plan {w:World} {A:Option Addr} {l:List (Int×Int)} (h:eP Eh w A l):cK w A l:=by
 rcases h with h|⟨b,o,hA,hb,hc⟩
 ·exact .inl h
 ·exact .inr ⟨b,o,hA,hb,fun k hk=>⟨hc k hk 0 (by decide),hc k hk 1 (by decide)⟩⟩
theorem eP.Zp {w w':World} {B:Nat} {A:Option Addr} {l:List (Int×Int)} (h:eP Eh w A l) (E:Ext w w') (hB:w.heap.size<=B):pz w' B A l:=by
 rcases h with h|⟨b,o,hA,hb,hc⟩
 ·exact .inl h
 ·exact .inr ⟨b,o,hA,by have:=E.size;omega,.inl (by omega),fun k hk=>⟨(E.cell hb).trans (hc k hk 0 (by decide)),(E.cell hb).trans (hc k hk 1 (by decide))⟩⟩
theorem eP.Rb {w:World} {A:Option Addr} {l:List (Int×Int)} (h:eP Eh w A l) {b:Nat} (hb:w.heap.size<=b):l≠[]->cZ A b:=by
 intro hl;rcases h with h|⟨b',o,hA,hb',_⟩
 ·exact absurd h hl
 ·intro y hy e
  rw [hA]at hy;injection hy with hy;subst hy;have e':b'=b:=e;omega
theorem NK (x:oy) (cs:Array Value) (w:World) (h:oz w x cs) (hF:I2 x):Calls Tryz.prog 12 #[.agg cs] w (NJ w x):=by
 obtain ⟨Am,cm,Ai,ci,Ap,cp,rfl,hM,hI,hP,SS,l0,l1,l2,l3,l4,l5⟩:=h;obtain ⟨⟨⟨g1,g2⟩,g3,g4⟩,_,g6⟩:=hF;obtain ⟨W1,bL⟩:∃W,W=w.alloc (.cells #[.slice Am x.ms.length cm,.slice Ai x.is.length ci,x.uid,x.gid,.int .i64 x.at_,.int .i64 x.gN,bs x.name,.slice Ap x.plan.length cp,.bool x.keep] 30):=⟨_,rfl⟩;obtain ⟨b1,kG⟩:∃b,b=w.heap.size:=⟨_,rfl⟩;have E1:Ext w W1:=by rw[bL];exact (Ext.refl _).alloc _
 have B1:Has W1 b1 (.cells #[.slice Am x.ms.length cm,.slice Ai x.is.length ci,x.uid,x.gid,.int .i64 x.at_,.int .i64 x.gN,bs x.name,.slice Ap x.plan.length cp,.bool x.keep] 30):=by rw[bL,kG];exact Has.new _ _
 have hM1:=hM.ext E1;have hI1:=hI.ext E1;have KP1:=fun (u:World) (hu:Ext W1 u)=>vK Am x.ms cm Ai x.is ci u (hM1.ext hu) (hI1.ext hu) g1 g2 (fun m hm=>by have:=g3 m hm;omega) (fun it hit=>by have:=g4 it hit;omega)
 have KP2:=fun (B:Nat) (u:World) (hu:Ext W1 u) (hB:B<=u.heap.size)=>Eg B Am x.ms cm Ai x.is ci u hB (hM1.ext hu) (hI1.ext hu) g1 g2 (fun m hm=>by have:=g3 m hm;omega) (fun it hit=>by have:=g4 it hit;omega)
 obtain ⟨nm,jA⟩:∃n,n=x.ms.length:=⟨_,rfl⟩;obtain ⟨ni,sD⟩:∃n,n=x.is.length:=⟨_,rfl⟩;obtain ⟨np,wJ⟩:∃n,n=x.plan.length:=⟨_,rfl⟩;obtain⟨P,zm⟩:=zE (bs x.name);obtain⟨T,hT⟩:=zE (gp x.ms x.is);rw [<-jA,<-sD,<-wJ,<-zm]at bL B1;simp only[<-jA,<-sD,<-hT]at KP1 KP2;unfold NJ;rw [<-jA,<-sD,<-wJ,<-zm,<-hT];have abD:=zH KP1;have abE:=zH KP2;have HP:=zH hP;have HPN:=zH SS;have Pa:=zH wJ;have acP:np<=4:=by omega
 have qR:=zH B1;have c0:=B1.cell 0;have c1:=B1.cell 1;have cz:=B1.lt;simp only[gA,gB,gC]at c0 c1;have KS:Hid (∀w',Ext W1 w'->(Ext W1 w'/\w'.cell? ⟨b1,0,none⟩=some (.slice Am nm cm)/\w'.cell? ⟨b1,1,none⟩=some (.slice Ai ni ci))):=fun w' h'=>⟨h',(h'.cell cz).trans c0,(h'.cell cz).trans c1⟩
 have zq:Ext W1 W1.drew:=(Ext.refl _).drew;clear jA sD wJ zm hT hM hI hP SS B1 l0 l1 l2 l3 l4 l5 hM1 hI1 KP1 KP2 g1 g2 g3 g4 g6 c0 c1 cz;go_enter Tryz.func12,Tryz.ntmps12;go_upto_region 1 with fail;rw [<-bL,<-kG];clear bL kG;go_region_held3 (fun w'=>Ext W1 w'/\w'.cell? ⟨b1,0,none⟩=some (.slice Am nm cm)/\w'.cell? ⟨b1,1,none⟩=some (.slice Ai ni ci))
  ((first|exact KS.out _ zq|exact KS.out _ (zq.trans PI)|exact KS.out _ ((zq.trans PI).trans Zq)))
  ((first|(go_at_call 36;refine (abD.out _ zq).mono ?_;rintro e wa ⟨ba,Ba,ga,rfl,hBa,hPa,PI⟩)|(go_at_call 37;refine (abE.out Ba wa (zq.trans PI) (by have h8:=(hPa.cU ba (List.mem_cons_self ..)).1;have h9:=hPa.lt ba (List.mem_cons_self ..);omega)).mono ?_;rintro e wb ⟨fb,rfl,hRb,Zq⟩)))
 have Ewb:Ext w wb:=E1.trans ((zq.trans PI).trans Zq);have hBw:w.heap.size<=Ba:=by have h7:=E1.size;have h8:=zq.size;omega
 have PW:=hPa.ext Zq;have D0:tP wb Ba ba ga fb ⟨T,0,0,[],false⟩ ⟨T,0,0,[],false⟩ wb:=tP.start PW hRb;have wH:Ba<=ba:=(PW.cU ba (List.mem_cons_self ..)).1;have KP0:=D0.Y2 Ap x.plan cp (HP.out.ext Ewb).plan HPN.out (HP.out.Rb (by omega)) (by have:=Pa.out;omega);rw [<-Pa.out]at KP0;have HKP:=zH KP0;have Bwb:=qR.out.ext ((zq.trans PI).trans Zq);have HPW:=zH PW;have Wt:=zH hRb;have vh:=zH Bwb;have HEW:=zH Ewb;have abF:Hid (b1∉ba::(ga.list++fb.list)):=by
  show _∉_;intro hb;have h8:=zq.size;have h9:=qR.out.lt;rcases List.mem_cons.1 hb with e|hb
  ·omega
  ·rcases List.mem_append.1 hb with hb|hb
   ·have:=(HPW.out.cU b1 (List.mem_cons_of_mem _ hb)).1;omega
   ·have:=(Wt.out.cU b1 hb).1;omega
 have c7:=Bwb.cell 7;have cz:=Bwb.lt;simp only[gA,gB,gC]at c7;clear D0 KP0 Bwb PW hRb hPa PI Zq Ewb wH;go_wp2_with fail;refine HKP.out.mono ?_;rintro e w5 ⟨⟨v5,rfl⟩,D5⟩;have D5':tP wb Ba ba ga fb ⟨T,0,0,x.plan,false⟩ ⟨T,0,0,[],false⟩ w5:=D5;obtain ⟨vN,vD,A5,acQ,hfs⟩:=D5'.fs;have B5:=D5'.has vh.out abF.out;clear c7 cz HKP D5;have c7:=B5.cell 7;have cz:=B5.lt;have q5:=Has.cell hfs 5;have f5:=Has.free hfs 5;have qz:=Has.lt hfs;simp only[gA,gB,gC]at c7 q5;obtain⟨V,hV⟩:=zE (w5.setCell ⟨fb.bF,5,none⟩ (.slice Ap np cp));have D6 : tP wb Ba ba ga fb ⟨T,0,0,x.plan,false⟩ ⟨T,0,0,x.plan,false⟩ V:=by
  obtain ⟨g5,f5',h1,h2,h3,h4,h5⟩:=D5';have zB:dh wb Ba (ba::(ga.list++fb.list)):=fun y hy=>by
   rcases List.mem_cons.1 hy with rfl|hy
   ·exact HPW.out.cU _ (List.mem_cons_self ..)
   ·rcases List.mem_append.1 hy with hy|hy
    ·exact HPW.out.cU _ (List.mem_cons_of_mem _ hy)
    ·exact Wt.out.cU _ hy
  have hpt:pz w5 Ba Ap x.plan:=(HP.out.Zp HEW.out hBw).only h5 zB;have:=h4.NI Ap x.plan cp hpt;rw [h2.1,<-Pa.out,<-hV]at this;exact tP.aaW h1 h2 h3 h4 h5 ⟨f5',this.1,this.2.mono (fun y hy=>by rw[List.mem_singleton]at hy;subst hy;rw[<-h2.1];simp),cI.fq _ _⟩
 have HD6:=zH D6;clear D6 D5' hfs B5;go_upto_region 5 with fail;rw [<-hV];clear hV q5 f5 qz c7 cz;go_wp2_with fail;go_ret2;have X6:=HD6.out.after HEW.out hBw HPW.out Wt.out;obtain ⟨g6,f6,h1,h2,h3,h4,h5⟩:=HD6.out;exact ⟨Ba,ba,g6,f6,by rw[h2.1];rfl,hBw,h3,h4,X6⟩
end Go.Proofs.YtpibnfdolojpcaaGreat
