import Derived.Test.YtblbohcaphcobaaGreatDoorBunS
import Derived.Test.YtblbohcaphcobaaGreatDoorBunI
import Derived.Test.YtblbohcaphcobaaGreatDoorBunR
import Derived.Test.YtblbohcaphcobaaGreatDoorBunT
set_option maxHeartbeats 8000000
set_option maxRecDepth 100000
namespace Go.Proofs.YtblbohcaphcobaaGreatDoor
section
open Go.ChangeShapes Go.WideShapes Go.ChangeAt Go.RowKit
def Ec:RowK (Int×Int):=⟨28,198,2,16,.agg #[.int .i64 0,.int .i64 0],fun x=>[.int .i64 x.1,.int .i64 x.2],by decide,Tryz.underlying28,by kernel_rfl,rfl,fun _=>rfl,fun x u hu=>by
 simp only[List.mem_cons,List.not_mem_nil,or_false]at hu;rcases hu with rfl|rfl<;>rfl,by decide⟩
section
variable {H:Type} {enc:TypeId×Value->H} {w:World} {base:Nat} {spare:Nat->Bool} {held:Bool}
theorem MF:Tryz.prog.cellsOf 40=1:=by kernel_rfl
theorem Qn:Tryz.prog.cellsOf 4=1:=by kernel_rfl
theorem BR:Tryz.prog.cellsOf 125=3:=by kernel_rfl
theorem Ij {n:Nat} {cs:List Value} {x:DataW H×List MemPlace} (h:DataW.trod enc Tryz.prog w base spare held n 125 cs=some x):∃v:eA,cs=[.string (bs v.path),.int .i64 v.b,.int .i64 v.n]:=by
 obtain ⟨xs,m,_,_,hl,hxl,hf⟩:=DataW.trod_struct Tryz.underlying125 h;rw [BR]at hl
 match cs,hl with
 | [a0,a1,a2],_ =>
  match xs,hxl with
  | [y0,y1,y2],_ =>
   have f0:DataW.trod enc Tryz.prog w base spare held m 9 (List.take (Tryz.prog.cellsOf 9) (List.drop 0 [a0,a1,a2]))=some y0:=hf 0 _ rfl;rw [yL]at f0;obtain ⟨s0,h0,_,_⟩:=DataW.trod_string Tryz.underlying9 f0;have e0:a0=.string s0:=by simpa using h0
   have f1:DataW.trod enc Tryz.prog w base spare held m 3 (List.take (Tryz.prog.cellsOf 3) (List.drop 1 [a0,a1,a2]))=some y1:=hf 1 _ rfl;rw [jS]at f1;obtain ⟨k1,h1,_,_⟩:=DataW.trod_int Tryz.underlying3 f1;have e1:a1=.int .i64 k1:=by simpa using h1
   have f2:DataW.trod enc Tryz.prog w base spare held m 3 (List.take (Tryz.prog.cellsOf 3) (List.drop 2 [a0,a1,a2]))=some y2:=hf 2 _ rfl;rw [jS]at f2;obtain ⟨k2,h2,_,_⟩:=DataW.trod_int Tryz.underlying3 f2;have e2:a2=.int .i64 k2:=by simpa using h2
   exact ⟨⟨s0.data.toList,k1,k2⟩,by rw[e0,e1,e2];simp only[x_]⟩
theorem BS:Tryz.prog.cellsOf 80=7:=by kernel_rfl
theorem Ik {n:Nat} {cs:List Value} {x:DataW H×List MemPlace} (h:DataW.trod enc Tryz.prog w base spare held n 80 cs=some x):∃v:dJ,cs=[.string (bs v.path),.int .i64 v.kind,.int .i64 v.mode,.int .i64 v.uid,.int .i64 v.gid,.int .i64 v.mtime,.string (bs v.data)]:=by
 obtain ⟨xs,m,_,_,hl,hxl,hf⟩:=DataW.trod_struct Tryz.underlying80 h;rw [BS]at hl
 match cs,hl with
 | [a0,a1,a2,a3,a4,a5,a6],_ =>
  match xs,hxl with
  | [y0,y1,y2,y3,y4,y5,y6],_ =>
   have f0:DataW.trod enc Tryz.prog w base spare held m 9 (List.take (Tryz.prog.cellsOf 9) (List.drop 0 [a0,a1,a2,a3,a4,a5,a6]))=some y0:=hf 0 _ rfl;rw [yL]at f0;obtain ⟨s0,h0,_,_⟩:=DataW.trod_string Tryz.underlying9 f0;have e0:a0=.string s0:=by simpa using h0
   have f1:DataW.trod enc Tryz.prog w base spare held m 3 (List.take (Tryz.prog.cellsOf 3) (List.drop 1 [a0,a1,a2,a3,a4,a5,a6]))=some y1:=hf 1 _ rfl;rw [jS]at f1;obtain ⟨k1,h1,_,_⟩:=DataW.trod_int Tryz.underlying3 f1;have e1:a1=.int .i64 k1:=by simpa using h1
   have f2:DataW.trod enc Tryz.prog w base spare held m 3 (List.take (Tryz.prog.cellsOf 3) (List.drop 2 [a0,a1,a2,a3,a4,a5,a6]))=some y2:=hf 2 _ rfl;rw [jS]at f2;obtain ⟨k2,h2,_,_⟩:=DataW.trod_int Tryz.underlying3 f2;have e2:a2=.int .i64 k2:=by simpa using h2
   have f3:DataW.trod enc Tryz.prog w base spare held m 3 (List.take (Tryz.prog.cellsOf 3) (List.drop 3 [a0,a1,a2,a3,a4,a5,a6]))=some y3:=hf 3 _ rfl;rw [jS]at f3;obtain ⟨k3,h3,_,_⟩:=DataW.trod_int Tryz.underlying3 f3;have e3:a3=.int .i64 k3:=by simpa using h3
   have f4:DataW.trod enc Tryz.prog w base spare held m 3 (List.take (Tryz.prog.cellsOf 3) (List.drop 4 [a0,a1,a2,a3,a4,a5,a6]))=some y4:=hf 4 _ rfl;rw [jS]at f4;obtain ⟨k4,h4,_,_⟩:=DataW.trod_int Tryz.underlying3 f4;have e4:a4=.int .i64 k4:=by simpa using h4
   have f5:DataW.trod enc Tryz.prog w base spare held m 3 (List.take (Tryz.prog.cellsOf 3) (List.drop 5 [a0,a1,a2,a3,a4,a5,a6]))=some y5:=hf 5 _ rfl;rw [jS]at f5;obtain ⟨k5,h5,_,_⟩:=DataW.trod_int Tryz.underlying3 f5;have e5:a5=.int .i64 k5:=by simpa using h5
   have f6:DataW.trod enc Tryz.prog w base spare held m 9 (List.take (Tryz.prog.cellsOf 9) (List.drop 6 [a0,a1,a2,a3,a4,a5,a6]))=some y6:=hf 6 _ rfl;rw [yL]at f6;obtain ⟨s6,h6,_,_⟩:=DataW.trod_string Tryz.underlying9 f6;have e6:a6=.string s6:=by simpa using h6
   exact ⟨⟨s0.data.toList,k1,k2,k3,k4,k5,s6.data.toList⟩,by rw[e0,e1,e2,e3,e4,e5,e6];simp only[x_]⟩
theorem BU:Tryz.prog.cellsOf 198=2:=by kernel_rfl
theorem Il {n:Nat} {cs:List Value} {x:DataW H×List MemPlace} (h:DataW.trod enc Tryz.prog w base spare held n 198 cs=some x):∃v:(Int×Int),cs=[.int .i64 v.1,.int .i64 v.2]:=by
 obtain ⟨xs,m,_,_,hl,hxl,hf⟩:=DataW.trod_struct Tryz.underlying198 h;rw [BU]at hl
 match cs,hl with
 | [a0,a1],_ =>
  match xs,hxl with
  | [y0,y1],_ =>
   have f0:DataW.trod enc Tryz.prog w base spare held m 3 (List.take (Tryz.prog.cellsOf 3) (List.drop 0 [a0,a1]))=some y0:=hf 0 _ rfl;rw [jS]at f0;obtain ⟨k0,h0,_,_⟩:=DataW.trod_int Tryz.underlying3 f0;have e0:a0=.int .i64 k0:=by simpa using h0
   have f1:DataW.trod enc Tryz.prog w base spare held m 40 (List.take (Tryz.prog.cellsOf 40) (List.drop 1 [a0,a1]))=some y1:=hf 1 _ rfl;rw [MF]at f1;obtain ⟨k1,h1,_,_⟩:=DataW.trod_int Tryz.underlying40 f1;have e1:a1=.int .i64 k1:=by simpa using h1
   exact ⟨⟨k0,k1⟩,by rw[e0,e1]⟩
theorem vk {α:Type} {R:RowK α} (hk:Tryz.prog.cellsOf R.t=R.k) (he:∀{n:Nat} {cs:List Value} {x:DataW H×List MemPlace},DataW.trod enc Tryz.prog w base spare held n R.t cs=some x->∃v:α,cs=R.enc v)
  {n:Nat} {cs:List Value} {x:DataW H×List MemPlace} (h:DataW.trod enc Tryz.prog w base spare held n R.ts cs=some x):∃(A:Option Addr) (l:List α) (cap:Nat),cs=[.slice A l.length cap]/\dC R w A l/\(A=none->cap=0)/\l.length<=cap/\cap<=maxLen:=by
 rcases Go.Deep.open_slice R.under h with⟨hcs,_⟩|⟨ad,len,cap,m,k,D,Pl,hcs,_,hl,hm,hmm,_,hi⟩
 ·exact⟨none,[],0,hcs,.inl rfl,fun _=>rfl,Nat.le_refl _,by decide⟩
 ·have OH:len<=m:=by rw[hmm];split<;>omega
  obtain ⟨l,I3,hlp⟩:=OM (α:=α) len (fun i x=>∀j,j<R.k->w.cell? ((ad.add (i*R.k)).add j)=(R.enc x)[j]?) (fun i sw=>by
   obtain ⟨cs',hc,ht⟩:=hi i (by omega);rw [hk]at hc;obtain ⟨x,rfl⟩:=he ht;obtain ⟨_,_,hat⟩:=World.cells?_some hc;exact ⟨x,hat⟩)
  refine ⟨some ad,l,cap,by rw[hcs,I3],?_,(fun h=>by cases h),by omega,hm⟩
  by_cases h0:l=[]
  ·exact .inl h0
  ·have hpos:0<l.length:=List.length_pos_iff.2 h0
   obtain ⟨b,off,spot⟩:=ad;obtain ⟨u,hu⟩:∃u,(R.enc l[0])[0]?=some u:=⟨(R.enc l[0])[0]'(by rw[R.len];exact R.hk),List.getElem?_eq_getElem _⟩;have sG:=(hlp 0 hpos 0 R.hk).trans hu;have hspot:spot=none:=by simpa [Addr.add]using World.cell?_spot sG
   subst hspot;have zy:b<w.heap.size:=by
    rcases Nat.lt_or_ge b w.heap.size with h'|h'
    ·exact h'
    ·simp[Addr.add,World.cell?,Array.getElem?_eq_none h']at sG
   refine .inr ⟨b,off,rfl,zy,fun i hi' j hj=>?_⟩;have:=hlp i hi' j hj;simp only[Addr.add_lit]at this;exact this
structure nA where
 ms:List eA
 is:List dJ
 uid:Int
 gid:Int
 at_:Int
 aY:Int
 name:List UInt8
 plan:List (Int×Int)
 keep:Bool
def nB (w:World) (x:nA) (cs:Array Value):Prop:=∃Am cm Ai ci Ap cp,cs=#[.slice Am x.ms.length cm,.slice Ai x.is.length ci,.int .i64 x.uid,.int .i64 x.gid,.int .i64 x.at_,.int .i64 x.aY,.string (bs x.name),.slice Ap x.plan.length cp,.bool x.keep] /\
 dC uW w Am x.ms/\dC sP w Ai x.is/\dC Ec w Ap x.plan/\(Ap=none->cp=0)/\x.ms.length<=cm/\cm<=maxLen/\x.is.length<=ci/\ci<=maxLen/\x.plan.length<=cp/\cp<=maxLen
theorem qt:Tryz.prog.cellsOf 25=2:=by kernel_rfl
theorem zh:Tryz.prog.cellsOf 30=9:=by kernel_rfl
theorem Yv:Tryz.prog.cellsOf 22=1:=by kernel_rfl
theorem Yw:Tryz.prog.cellsOf 23=1:=by kernel_rfl
theorem Yx:Tryz.prog.cellsOf 28=1:=by kernel_rfl
theorem Yy:Tryz.prog.cellsOf uW.t=uW.k:=by kernel_rfl
theorem Yz:Tryz.prog.cellsOf sP.t=sP.k:=by kernel_rfl
theorem YA:Tryz.prog.cellsOf Ec.t=Ec.k:=by kernel_rfl
theorem Ed {n:Nat} {cs:List Value} {x:DataW H×List MemPlace} (h:DataW.trod enc Tryz.prog w base spare held n 25 cs=some x):∃(Am:Option Addr) (ms:List eA) (cm:Nat) (Ai:Option Addr) (is:List dJ) (ci:Nat),
  cs=[.slice Am ms.length cm,.slice Ai is.length ci]/\dC uW w Am ms/\dC sP w Ai is/\ms.length<=cm/\cm<=maxLen/\is.length<=ci/\ci<=maxLen:=by
 obtain ⟨xs,m,_,_,hl,hxl,hf⟩:=DataW.trod_struct Tryz.underlying25 h;rw [qt]at hl
 match cs,hl with
 | [a0,a1],_ =>
  match xs,hxl with
  | [y0,y1],_ =>
   have f0:DataW.trod enc Tryz.prog w base spare held m 22 (List.take (Tryz.prog.cellsOf 22) (List.drop 0 [a0,a1]))=some y0:=hf 0 _ rfl;rw [Yv]at f0;have f1:DataW.trod enc Tryz.prog w base spare held m 23 (List.take (Tryz.prog.cellsOf 23) (List.drop 1 [a0,a1]))=some y1:=hf 1 _ rfl;rw [Yw]at f1;obtain ⟨Am,ms,cm,e0,h0,_,l0,l1⟩:=vk (R:=uW) Yy (fun h=>Ij h) f0;obtain ⟨Ai,is,ci,e1,h1,_,l2,l3⟩:=vk (R:=sP) Yz (fun h=>Ik h) f1;have e0':a0=.slice Am ms.length cm:=by simpa using e0
   have e1':a1=.slice Ai is.length ci:=by simpa using e1
   exact ⟨Am,ms,cm,Ai,is,ci,by rw[e0',e1'],h0,h1,l0,l1,l2,l3⟩
theorem Ee {n:Nat} {cs:List Value} {x:DataW H×List MemPlace} (h:DataW.trod enc Tryz.prog w base spare held n 30 cs=some x):∃v:nA,nB w v cs.toArray:=by
 obtain ⟨xs,m,_,_,hl,hxl,hf⟩:=DataW.trod_struct Tryz.underlying30 h;rw [zh]at hl
 match cs,hl with
 | [a0,a1,a2,a3,a4,a5,a6,a7,a8],_ =>
  match xs,hxl with
  | [y0,y1,y2,y3,y4,y5,y6],_ =>
   have f0:DataW.trod enc Tryz.prog w base spare held m 25 (List.take (Tryz.prog.cellsOf 25) (List.drop 0 [a0,a1,a2,a3,a4,a5,a6,a7,a8]))=some y0:=hf 0 _ rfl;rw [qt]at f0;have f1:DataW.trod enc Tryz.prog w base spare held m 27 (List.take (Tryz.prog.cellsOf 27) (List.drop 2 [a0,a1,a2,a3,a4,a5,a6,a7,a8]))=some y1:=hf 1 _ rfl;rw [pZ]at f1;have f2:DataW.trod enc Tryz.prog w base spare held m 3 (List.take (Tryz.prog.cellsOf 3) (List.drop 4 [a0,a1,a2,a3,a4,a5,a6,a7,a8]))=some y2:=hf 2 _ rfl;rw [jS]at f2;have f3:DataW.trod enc Tryz.prog w base spare held m 3 (List.take (Tryz.prog.cellsOf 3) (List.drop 5 [a0,a1,a2,a3,a4,a5,a6,a7,a8]))=some y3:=hf 3 _ rfl;rw [jS]at f3;have f4:DataW.trod enc Tryz.prog w base spare held m 9 (List.take (Tryz.prog.cellsOf 9) (List.drop 6 [a0,a1,a2,a3,a4,a5,a6,a7,a8]))=some y4:=hf 4 _ rfl;rw [yL]at f4;have f5:DataW.trod enc Tryz.prog w base spare held m 28 (List.take (Tryz.prog.cellsOf 28) (List.drop 7 [a0,a1,a2,a3,a4,a5,a6,a7,a8]))=some y5:=hf 5 _ rfl;rw [Yx]at f5;have f6:DataW.trod enc Tryz.prog w base spare held m 4 (List.take (Tryz.prog.cellsOf 4) (List.drop 8 [a0,a1,a2,a3,a4,a5,a6,a7,a8]))=some y6:=hf 6 _ rfl;rw [Qn]at f6;obtain ⟨Am,ms,cm,Ai,is,ci,e0,h0,h1,l0,l1,l2,l3⟩:=Ed f0;have e0a:a0=.slice Am ms.length cm:=by simp at e0;exact e0.1
   have e0b:a1=.slice Ai is.length ci:=by simp at e0;exact e0.2
   obtain ⟨⟨u,g⟩,e1⟩:=Dn f1;have e1a:a2=.int .i64 u:=by simp at e1;exact e1.1
   have Wk:a3=.int .i64 g:=by simp at e1;exact e1.2
   obtain ⟨k2,h2,_,_⟩:=DataW.trod_int Tryz.underlying3 f2;have e2:a4=.int .i64 k2:=by simpa using h2
   obtain ⟨k3,h3,_,_⟩:=DataW.trod_int Tryz.underlying3 f3;have e3:a5=.int .i64 k3:=by simpa using h3
   obtain ⟨s4,h4,_,_⟩:=DataW.trod_string Tryz.underlying9 f4;have e4:a6=.string s4:=by simpa using h4
   obtain ⟨Ap,ps,cp,e5,h5,hn,l4,l5⟩:=vk (R:=Ec) YA (fun h=>Il h) f5;have e5':a7=.slice Ap ps.length cp:=by simpa using e5
   obtain ⟨b6,h6,_⟩:=DataW.trod_bool Tryz.underlying4 f6;have e6:a8=.bool b6:=by simpa using h6
   exact ⟨⟨ms,is,u,g,k2,k3,s4.data.toList,ps,b6⟩,Am,cm,Ai,ci,Ap,cp,by rw[e0a,e0b,e1a,Wk,e2,e3,e4,e5',e6];simp only[x_],h0,h1,h5,hn,l0,l1,l2,l3,l4,l5⟩
theorem Im {r:Reach} {b0:Nat} {v:Value} {d:DataW H} {p:List MemPlace} (hv:Value.okWide Tryz.prog w r b0 30 v) (h:DataW.Trod enc Tryz.prog w base spare held 30 v d p) :
  ∃ (x:nA) (cs:Array Value),v=.agg cs/\nB w x cs:=by
 obtain ⟨cs,rfl,hsz⟩:=okWide_struct Tryz.underlying30 hv;obtain ⟨fuel,hf⟩:=h;obtain ⟨x,hx⟩:=Ee hf;exact ⟨x,cs,rfl,hx⟩
end
end
open Go.ChangeShapes Go.WideShapes Go.ChangeAt Go.RowKit
def YB (ms:List eA) (is:List dJ):Prop:=(ms.length<=10/\is.length<=30)/\(∀m∈ms,m.path.length<=300)/\∀it∈is,it.path.length<=300/\it.data.length<=1500
def YC (w:World) (P:Prop) (e:Ending) (w':World):Prop:=((e=.returned (.bool true)/\P)\/e=.returned (.bool false))/\Ext w w'
theorem BV {α:Type} {P:α->Prop} {l:List α} {k:Nat} (hk:k<l.length) (h:∀x∈l.take k,P x) (hx:P l[k]):∀x∈l.take (k+1),P x:=by
 intro x hm;rw [List.take_succ_eq_append_getElem hk]at hm;rcases List.mem_append.1 hm with hm|hm
 ·exact h x hm
 ·rw[List.mem_singleton]at hm;rw[hm];exact hx
theorem Io (A:Option Addr) (ms:List eA) (cap:Nat) (A2:Option Addr) (is:List dJ) (c2:Nat) (w:World) (hM:dC uW w A ms) (hI:dC sP w A2 is) (hl:ms.length<=9223372036854775807) (rO:is.length<=9223372036854775807) :
  Calls Tryz.prog 23 #[.agg #[.slice A ms.length cap,.slice A2 is.length c2],.int .i64 30] w (YC w (YB ms is)):=by
 obtain⟨n,hn⟩:=ar ms.length;obtain ⟨n2,z_⟩:∃n,n=is.length:=⟨_,rfl⟩;rw [<-hn]at hl|-;rw [<-z_]at rO|-;have HN:=zH hn;have NH:=zH z_;obtain ⟨W1,b_⟩:∃W,W=w.alloc (.cells #[.slice A n cap,.slice A2 n2 c2] 25):=⟨_,rfl⟩;obtain ⟨b1,jZ⟩:∃b,b=w.heap.size:=⟨_,rfl⟩;have E1:Ext w W1:=by rw[b_];exact (Ext.refl _).alloc _
 have B1:Has W1 b1 (.cells #[.slice A n cap,.slice A2 n2 c2] 25):=by rw[b_,jZ];exact Has.new _ _
 have HM:=zH (hM.ext E1);have HI:=zH (hI.ext E1);have c0:=B1.cell 0;have c1:=B1.cell 1;have cz:=B1.lt;simp only[gA,gB,gC]at c0 c1;have qs:=zH B1;clear hn z_ hM hI B1;go_enter Tryz.func23,Tryz.ntmps23;go_upto_region 1 with fail;rw [<-b_,<-jZ];clear b_ jZ
 by_cases h1:(10:Int)<n
 case pos =>
  have t1:decide ((10:Int)<(n:Int))=true:=decide_eq_true h1;clear h1;go_wp2_with fail;go_ret;exact ⟨.inr rfl,E1⟩
 have t1:decide ((10:Int)<(n:Int))=false:=decide_eq_false h1
 by_cases h2:(30:Int)<n2
 case pos =>
  have t2:decide ((30:Int)<(n2:Int))=true:=decide_eq_true h2;clear h1 h2;go_wp2_with fail;go_ret;exact ⟨.inr rfl,E1⟩
 have t2:decide ((30:Int)<(n2:Int))=false:=decide_eq_false h2;have g1:n<=10:=by omega
 have g2:n2<=30:=by omega
 clear h1 h2;go_wp2_with fail;clear c0 c1 cz;go_loopw [5] (fun vi wr=>∃k:Nat,vi=.int .i64 k/\k<=n/\Ext W1 wr/\∀m∈ms.take k,m.path.length<=300) (fun vi _=>n-(intOf vi).toNat)
 case atStart=>exact⟨0,rfl,Nat.zero_le _,Ext.refl _,fun m hm=>(by cases hm)⟩
 case round =>
  obtain ⟨k,rfl,hk,hE,hP⟩:=hrel;have HE:=zH hE;have B2:=qs.out.ext hE;have c0:=B2.cell 0;have c1:=B2.cell 1;have cz:=B2.lt;simp only[gA,gB,gC]at c0 c1;clear B2;have k0:(0:Int)<=(k:Int):=Int.natCast_nonneg _
  by_cases hlt:(k:Int)<n
  case pos =>
   have dq:k<ms.length:=by have:=HN.out;omega
   obtain ⟨ba,o,rfl,zG,q0,_,_⟩:=(HM.out.ext hE).Ib dq;have Du:IntKind.i64.wrap ((k:Int)+1)=(k:Int)+1:=IntWalk.i64_in _ (by omega);have hst:=BV (P:=fun m:eA=>m.path.length<=300) dq hP;obtain⟨m,hm⟩:=ar (ms[k]);rw [<-hm]at q0 hst;have hsz:(bs m.path).size=m.path.length:=aU _;obtain⟨P,zf⟩:=ar (bs m.path);rw [<-zf]at q0 hsz;have ou:=zH hst;clear hm zf hst hP hE
   by_cases h3:(300:Int)<P.size
   ·have t3:decide ((300:Int)<(P.size:Int))=true:=decide_eq_true h3
    clear h3 hsz;go_wp2_with fail;go_ret;exact ⟨.inr rfl,E1.trans HE.out⟩
   ·have t3:decide ((300:Int)<(P.size:Int))=false:=decide_eq_false h3
    have hS:=zH (ou.out (by show _<=_;omega));clear h3 hsz;go_wp2_with fail;go_roundw
    case rel=>exact⟨k+1,by go_num,by omega,HE.out,hS.out⟩
    case measure=>simp[intOf];omega
  case neg =>
   have hall:Hid (∀m∈ms,m.path.length<=300):=by
    show ∀_∈_,_;rw [List.take_of_length_le (by have:=HN.out;omega)]at hP;exact hP
   clear hP;have jm:=HE;clear HE hE;go_wp2_with fail;clear c0 c1 cz;go_loopw [6] (fun vi wr=>∃k:Nat,vi=.int .i64 k/\k<=n2/\Ext W1 wr/\∀it∈is.take k,it.path.length<=300/\it.data.length<=1500) (fun vi _=>n2-(intOf vi).toNat)
   case atStart=>exact⟨0,rfl,Nat.zero_le _,jm.out,fun m hm=>(by cases hm)⟩
   case round =>
    clear hlt k0 hk;obtain ⟨k,rfl,hk,hE,hP⟩:=hrel;have HE:=zH hE;have B2:=qs.out.ext hE;have c0:=B2.cell 0;have c1:=B2.cell 1;have cz:=B2.lt;simp only[gA,gB,gC]at c0 c1;clear B2;have k0:(0:Int)<=(k:Int):=Int.natCast_nonneg _
    by_cases hlt:(k:Int)<n2
    case pos =>
     have dq:k<is.length:=by have:=NH.out;omega
     obtain ⟨ba,o,rfl,zG,q0,_,_,_,_,_,q6⟩:=(HI.out.ext hE).DV dq;have Du:IntKind.i64.wrap ((k:Int)+1)=(k:Int)+1:=IntWalk.i64_in _ (by omega);have hst:=BV (P:=fun it:dJ=>it.path.length<=300/\it.data.length<=1500) dq hP;obtain⟨m,hm⟩:=ar (is[k]);rw [<-hm]at q0 q6 hst;have hsz:(bs m.path).size=m.path.length:=aU _;have Uw:(bs m.data).size=m.data.length:=aU _;obtain⟨P,zf⟩:=ar (bs m.path);obtain ⟨D,hDD⟩:∃P,P=bs m.data:=⟨_,rfl⟩;rw [<-zf]at q0 hsz;rw [<-hDD]at q6 Uw;have ou:=zH hst;clear hm zf hDD hst hP hE
     by_cases h3:(300:Int)<P.size
     case pos =>
      have t3:decide ((300:Int)<(P.size:Int))=true:=decide_eq_true h3;clear h3 hsz Uw;go_wp2_with fail;go_ret;exact ⟨.inr rfl,E1.trans HE.out⟩
     have t3:decide ((300:Int)<(P.size:Int))=false:=decide_eq_false h3
     by_cases h4:(1500:Int)<D.size
     case pos =>
      have t4:decide ((1500:Int)<(D.size:Int))=true:=decide_eq_true h4;clear h3 h4 hsz Uw;go_wp2_with fail;go_ret;exact ⟨.inr rfl,E1.trans HE.out⟩
     have t4:decide ((1500:Int)<(D.size:Int))=false:=decide_eq_false h4;have hS:=zH (ou.out ⟨by omega,by omega⟩);clear h3 h4 hsz Uw;go_wp2_with fail;go_roundw
     case rel=>exact⟨k+1,by go_num,by omega,HE.out,hS.out⟩
     case measure=>simp[intOf];omega
    case neg =>
     have YD:Hid (∀it∈is,it.path.length<=300/\it.data.length<=1500):=by
      show ∀_∈_,_;rw [List.take_of_length_le (by have:=NH.out;omega)]at hP;exact hP
     clear hP hE;go_wp2_with fail;go_ret;exact ⟨.inl ⟨rfl,⟨by have:=HN.out;omega,by have:=NH.out;omega⟩,hall.out,YD.out⟩,E1.trans HE.out⟩
def Ip (x:nA):Prop:=YB x.ms x.is/\x.name.length<=300/\x.plan.length<=4
theorem Iq (x:nA) (cs:Array Value) (w:World) (h:nB w x cs):Calls Tryz.prog 5 #[.agg cs] w (YC w (Ip x)):=by
 obtain ⟨Am,cm,Ai,ci,Ap,cp,rfl,hM,hI,hP,_,l0,l1,l2,l3,l4,l5⟩:=h;have abk:maxLen<=9223372036854775807:=by decide
 obtain ⟨W1,b_⟩:∃W,W=w.alloc (.cells #[.slice Am x.ms.length cm,.slice Ai x.is.length ci,x.uid,x.gid,.int .i64 x.at_,.int .i64 x.aY,bs x.name,.slice Ap x.plan.length cp,.bool x.keep] 30):=⟨_,rfl⟩;obtain ⟨b1,jZ⟩:∃b,b=w.heap.size:=⟨_,rfl⟩;have E1:Ext w W1:=by rw[b_];exact (Ext.refl _).alloc _
 have B1:Has W1 b1 (.cells #[.slice Am x.ms.length cm,.slice Ai x.is.length ci,x.uid,x.gid,.int .i64 x.at_,.int .i64 x.aY,bs x.name,.slice Ap x.plan.length cp,.bool x.keep] 30):=by rw[b_,jZ];exact Has.new _ _
 obtain ⟨nm,gY⟩:∃n,n=x.ms.length:=⟨_,rfl⟩;obtain ⟨ni,tg⟩:∃n,n=x.is.length:=⟨_,rfl⟩;obtain ⟨np,Jb⟩:∃n,n=x.plan.length:=⟨_,rfl⟩;have KF:=zH (Io Am x.ms cm Ai x.is ci W1 (hM.ext E1) (hI.ext E1) (by omega) (by omega));have hsz:(bs x.name).size=x.name.length:=aU _;obtain⟨P,zf⟩:=ar (bs x.name);rw [<-gY,<-tg,<-Jb]at b_ B1;rw [<-gY,<-tg]at KF;rw [<-zf]at b_ B1 hsz;rw [<-gY,<-tg,<-Jb,<-zf];have abU:np<=9223372036854775807:=by omega
 have qs:=zH B1;have YE:=zH Jb;have HSZ:=zH hsz;have c0:=B1.cell 0;have c1:=B1.cell 1;have cz:=B1.lt;simp only[gA,gB,gC]at c0 c1;clear gY tg Jb zf hM hI hP B1 hsz l0 l1 l2 l3 l4 l5 abk;go_enter Tryz.func5,Tryz.ntmps5;go_upto_region 1 with fail;rw [<-b_,<-jZ];clear b_ jZ;go_wp2_with fail;refine KF.out.mono ?_;rintro e w2 ⟨h2,E2⟩;have B2:=qs.out.ext E2;clear c0 c1 cz KF;have c6:=B2.cell 6;have c7:=B2.cell 7;have cz:=B2.lt;simp only[gA,gB,gC]at c6 c7;clear B2;rcases h2 with⟨rfl,hQ⟩|rfl
 case inr =>
  go_wp2_with fail;go_ret;exact ⟨.inr rfl,E1.trans E2⟩
 have HQ:=zH hQ;clear hQ
 by_cases h3:(P.size:Int)<=300
 case neg =>
  have t3:decide ((P.size:Int)<=300)=false:=decide_eq_false h3;clear h3;go_wp2_with fail;go_ret;exact ⟨.inr rfl,E1.trans E2⟩
 have t3:decide ((P.size:Int)<=300)=true:=decide_eq_true h3
 by_cases h4:(np:Int)<=4
 case neg =>
  have t4:decide ((np:Int)<=4)=false:=decide_eq_false h4;clear h3 h4;go_wp2_with fail;go_ret;exact ⟨.inr rfl,E1.trans E2⟩
 have t4:decide ((np:Int)<=4)=true:=decide_eq_true h4;have hall:Hid (Ip x):=⟨HQ.out,by have:=HSZ.out;omega,by have:=YE.out;omega⟩;clear h3 h4;go_wp2_with fail;go_ret;exact ⟨.inl ⟨rfl,hall.out⟩,E1.trans E2⟩
theorem RS.MG {w:World} {B:Nat} {f:cJ} {s:aA} (h:RS w B f s) (A0:Option Addr) (l:List (Int×Int)) (mH:Nat) (hp:oQ w B A0 l) :
  RS (w.setCell ⟨f.bF,5,none⟩ (.slice A0 l.length mH)) B f {s with plan:=l}/\Only [f.bF] w (w.setCell ⟨f.bF,5,none⟩ (.slice A0 l.length mH)):=by
 obtain ⟨A,cap,h1,h2⟩:=h;have hF:=h1.cV;have k1:=h1.aaH 5 (.slice A0 l.length mH) (Tn s.now s.count A0 l.length mH s.dead) (fun _ _=>rfl);have O:Only [f.bF] w (w.setCell ⟨f.bF,5,none⟩ (.slice A0 l.length mH)):=Only.setCell _ _ _ _;exact ⟨⟨A0,mH,k1,hp.only O fun x hx=>hF x (by simp at hx;subst hx;simp)⟩,O⟩
def MH (w:World) (x:nA) (e:Ending) (w':World):Prop:=∃(B b:Nat) (g:bQ) (f:cJ),e=.returned (.tuple #[.pointer (some ⟨b,0,none⟩),.pointer (some ⟨f.bF,0,none⟩)])/\w.heap.size<=B/\PS w' B b g ⟨fD x.ms x.is,0,0,x.plan,false⟩/\RS w' B f ⟨fD x.ms x.is,0,0,x.plan,false⟩/\Ext w w'
theorem dC.plan {w:World} {A:Option Addr} {l:List (Int×Int)} (h:dC Ec w A l):cZ w A l:=by
 rcases h with h|⟨b,o,hA,hb,hc⟩
 ·exact .inl h
 ·exact .inr ⟨b,o,hA,hb,fun k hk=>⟨hc k hk 0 (by decide),hc k hk 1 (by decide)⟩⟩
theorem dC.YF {w w':World} {B:Nat} {A:Option Addr} {l:List (Int×Int)} (h:dC Ec w A l) (E:Ext w w') (hB:w.heap.size<=B):oQ w' B A l:=by
 rcases h with h|⟨b,o,hA,hb,hc⟩
 ·exact .inl h
 ·exact .inr ⟨b,o,hA,by have:=E.size;omega,.inl (by omega),fun k hk=>⟨(E.cell hb).trans (hc k hk 0 (by decide)),(E.cell hb).trans (hc k hk 1 (by decide))⟩⟩
theorem dC.Qo {w:World} {A:Option Addr} {l:List (Int×Int)} (h:dC Ec w A l) {b:Nat} (hb:w.heap.size<=b):l≠[]->dK A b:=by
 intro hl;rcases h with h|⟨b',o,hA,hb',_⟩
 ·exact absurd h hl
 ·intro y hy e
  rw [hA]at hy;injection hy with hy;subst hy;have e':b'=b:=e;omega
theorem MI (x:nA) (cs:Array Value) (w:World) (h:nB w x cs) (hF:Ip x):Calls Tryz.prog 7 #[.agg cs] w (MH w x):=by
 obtain ⟨Am,cm,Ai,ci,Ap,cp,rfl,hM,hI,hP,Vk,l0,l1,l2,l3,l4,l5⟩:=h;obtain ⟨⟨⟨g1,g2⟩,g3,g4⟩,_,g6⟩:=hF;obtain ⟨W1,b_⟩:∃W,W=w.alloc (.cells #[.slice Am x.ms.length cm,.slice Ai x.is.length ci,x.uid,x.gid,.int .i64 x.at_,.int .i64 x.aY,bs x.name,.slice Ap x.plan.length cp,.bool x.keep] 30):=⟨_,rfl⟩;obtain ⟨b1,jZ⟩:∃b,b=w.heap.size:=⟨_,rfl⟩;have E1:Ext w W1:=by rw[b_];exact (Ext.refl _).alloc _
 have B1:Has W1 b1 (.cells #[.slice Am x.ms.length cm,.slice Ai x.is.length ci,x.uid,x.gid,.int .i64 x.at_,.int .i64 x.aY,bs x.name,.slice Ap x.plan.length cp,.bool x.keep] 30):=by rw[b_,jZ];exact Has.new _ _
 have hM1:=hM.ext E1;have hI1:=hI.ext E1;have KP1:=fun (u:World) (hu:Ext W1 u)=>u_ Am x.ms cm Ai x.is ci u (hM1.ext hu) (hI1.ext hu) g1 g2 (fun m hm=>by have:=g3 m hm;omega) (fun it hit=>by have:=g4 it hit;omega)
 have KP2:=fun (B:Nat) (u:World) (hu:Ext W1 u) (hB:B<=u.heap.size)=>Eb B Am x.ms cm Ai x.is ci u hB (hM1.ext hu) (hI1.ext hu) g1 g2 (fun m hm=>by have:=g3 m hm;omega) (fun it hit=>by have:=g4 it hit;omega)
 obtain ⟨nm,gY⟩:∃n,n=x.ms.length:=⟨_,rfl⟩;obtain ⟨ni,tg⟩:∃n,n=x.is.length:=⟨_,rfl⟩;obtain ⟨np,Jb⟩:∃n,n=x.plan.length:=⟨_,rfl⟩;obtain⟨P,zf⟩:=ar (bs x.name);obtain⟨T,hT⟩:=ar (fD x.ms x.is);rw [<-gY,<-tg,<-Jb,<-zf]at b_ B1;simp only[<-gY,<-tg,<-hT]at KP1 KP2;unfold MH;rw [<-gY,<-tg,<-Jb,<-zf,<-hT];have abl:=zH KP1;have abm:=zH KP2;have HP:=zH hP;have HPN:=zH Vk;have YE:=zH Jb;have acn:np<=4:=by omega
 have qs:=zH B1;have c0:=B1.cell 0;have c1:=B1.cell 1;have cz:=B1.lt;simp only[gA,gB,gC]at c0 c1;have KS:Hid (∀w',Ext W1 w'->(Ext W1 w'/\w'.cell? ⟨b1,0,none⟩=some (.slice Am nm cm)/\w'.cell? ⟨b1,1,none⟩=some (.slice Ai ni ci))):=fun w' h'=>⟨h',(h'.cell cz).trans c0,(h'.cell cz).trans c1⟩
 have zi:Ext W1 W1.drew:=(Ext.refl _).drew;clear gY tg Jb zf hT hM hI hP Vk B1 l0 l1 l2 l3 l4 l5 hM1 hI1 KP1 KP2 g1 g2 g3 g4 g6 c0 c1 cz;go_enter Tryz.func7,Tryz.ntmps7;go_upto_region 1 with fail;rw [<-b_,<-jZ];clear b_ jZ;go_region_held3 (fun w'=>Ext W1 w'/\w'.cell? ⟨b1,0,none⟩=some (.slice Am nm cm)/\w'.cell? ⟨b1,1,none⟩=some (.slice Ai ni ci))
  ((first|exact KS.out _ zi|exact KS.out _ (zi.trans Pj)|exact KS.out _ ((zi.trans Pj).trans YG)))
  ((first|(go_at_call 24;refine (abl.out _ zi).mono ?_;rintro e wa ⟨ba,Ba,ga,rfl,hBa,hPa,Pj⟩)|(go_at_call 27;refine (abm.out Ba wa (zi.trans Pj) (by have h8:=(hPa.cV ba (List.mem_cons_self ..)).1;have h9:=hPa.lt ba (List.mem_cons_self ..);omega)).mono ?_;rintro e wb ⟨fb,rfl,hRb,YG⟩)))
 have Ewb:Ext w wb:=E1.trans ((zi.trans Pj).trans YG);have hBw:w.heap.size<=Ba:=by have h7:=E1.size;have h8:=zi.size;omega
 have PW:=hPa.ext YG;have D0:uy wb Ba ba ga fb ⟨T,0,0,[],false⟩ ⟨T,0,0,[],false⟩ wb:=uy.start PW hRb;have zG:Ba<=ba:=(PW.cV ba (List.mem_cons_self ..)).1;have KP0:=D0.Yg Ap x.plan cp (HP.out.ext Ewb).plan HPN.out (HP.out.Qo (by omega)) (by have:=YE.out;omega);rw [<-YE.out]at KP0;have HKP:=zH KP0;have Bwb:=qs.out.ext ((zi.trans Pj).trans YG);have HPW:=zH PW;have Ox:=zH hRb;have uJ:=zH Bwb;have Ux:=zH Ewb;have abn:Hid (b1∉ba::(ga.list++fb.list)):=by
  show _∉_;intro hb;have h8:=zi.size;have h9:=qs.out.lt;rcases List.mem_cons.1 hb with e|hb
  ·omega
  ·rcases List.mem_append.1 hb with hb|hb
   ·have:=(HPW.out.cV b1 (List.mem_cons_of_mem _ hb)).1;omega
   ·have:=(Ox.out.cV b1 hb).1;omega
 have c7:=Bwb.cell 7;have cz:=Bwb.lt;simp only[gA,gB,gC]at c7;clear D0 KP0 Bwb PW hRb hPa Pj YG Ewb zG;go_wp2_with fail;refine HKP.out.mono ?_;rintro e w5 ⟨⟨v5,rfl⟩,D5⟩;have D5':uy wb Ba ba ga fb ⟨T,0,0,x.plan,false⟩ ⟨T,0,0,[],false⟩ w5:=D5;obtain ⟨vN,vD,A5,BW,VP⟩:=D5'.fs;have B5:=D5'.has uJ.out abn.out;clear c7 cz HKP D5;have c7:=B5.cell 7;have cz:=B5.lt;have q5:=Has.cell VP 5;have f5:=Has.free VP 5;have qz:=Has.lt VP;simp only[gA,gB,gC]at c7 q5;obtain⟨V,hV⟩:=ar (w5.setCell ⟨fb.bF,5,none⟩ (.slice Ap np cp));have D6 : uy wb Ba ba ga fb ⟨T,0,0,x.plan,false⟩ ⟨T,0,0,x.plan,false⟩ V:=by
  obtain ⟨g5,f5',h1,h2,h3,h4,h5⟩:=D5';have J6:eR wb Ba (ba::(ga.list++fb.list)):=fun y hy=>by
   rcases List.mem_cons.1 hy with rfl|hy
   ·exact HPW.out.cV _ (List.mem_cons_self ..)
   ·rcases List.mem_append.1 hy with hy|hy
    ·exact HPW.out.cV _ (List.mem_cons_of_mem _ hy)
    ·exact Ox.out.cV _ hy
  have hpt:oQ w5 Ba Ap x.plan:=(HP.out.YF Ux.out hBw).only h5 J6;have:=h4.MG Ap x.plan cp hpt;rw [h2.1,<-YE.out,<-hV]at this;exact uy.aaI h1 h2 h3 h4 h5 ⟨f5',this.1,this.2.mono (fun y hy=>by rw[List.mem_singleton]at hy;subst hy;rw[<-h2.1];simp),cJ.fK _ _⟩
 have HD6:=zH D6;clear D6 D5' VP B5;go_upto_region 5 with fail;rw [<-hV];clear hV q5 f5 qz c7 cz;go_wp2_with fail;go_ret2;have X6:=HD6.out.after Ux.out hBw HPW.out Ox.out;obtain ⟨g6,f6,h1,h2,h3,h4,h5⟩:=HD6.out;exact ⟨Ba,ba,g6,f6,by rw[h2.1];rfl,hBw,h3,h4,X6⟩
end Go.Proofs.YtblbohcaphcobaaGreatDoor
