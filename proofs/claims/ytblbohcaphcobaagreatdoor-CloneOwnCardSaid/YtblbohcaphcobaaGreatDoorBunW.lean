import Derived.Test.YtblbohcaphcobaaGreatDoorBunR
import Derived.Test.YtblbohcaphcobaaGreatDoorBunS
import Derived.Test.YtblbohcaphcobaaGreatDoorBunI
import Derived.Test.YtblbohcaphcobaaGreatDoorBunL
import Derived.Test.YtblbohcaphcobaaGreatDoorBunN
import Derived.Test.YtblbohcaphcobaaGreatDoorBunV
import Derived.Test.YtblbohcaphcobaaGreatDoorBunC
import Derived.Test.YtblbohcaphcobaaGreatDoorBunU
import Derived.Test.YtblbohcaphcobaaGreatDoorBunQ
import Derived.Test.YtblbohcaphcobaaGreatDoorBunO
import Derived.StillTailTactics
import Derived.Deep.CutBlock
import Derived.OpenShut
set_option maxHeartbeats 16000000
set_option maxRecDepth 100000
namespace Go.Proofs.YtblbohcaphcobaaGreatDoor
section
theorem WX (ds:List eo) (d:Int) (q:dw) (no:Int):ar (iI ds d q) no=ar ds no:=by
 unfold ar iI;have key:∀(l:List eo) (k:Nat),(match (l.modify k fun x=>{x with q:=q}).find? (fun d=>d.over == no) with|some d=>d.root|none=>no)=(match l.find? (fun d=>d.over == no) with|some d=>d.root|none=>no):=by
  intro l
  induction l with
  | nil=>intro k;cases k<;>rfl
  | cons a l ih =>
   intro k
   cases k with
   | zero =>
    rw [List.modify_zero_cons,List.find?_cons,List.find?_cons]
    cases a.over == no<;>rfl
   | succ k =>
    rw [List.modify_succ_cons,List.find?_cons,List.find?_cons]
    cases a.over == no
    ·exact ih k
    ·rfl
 split
 ·exact key _ _
 ·rfl
theorem EO (s:az):(Gh s).t=s.t/\(Gh s).plan=s.plan/\(Gh s).now=s.now:=by unfold Gh;split<;>exact⟨rfl,rfl,rfl⟩
structure Pl (c:Nat) (s:az):Prop where
 ee:e7 c s.t
 c0:0<=s.count
 c1:s.count<=c
 plan:s.plan.length<=1000
theorem Pl.ig {c:Nat} {s:az} (h:Pl c s):fJ c s:=⟨h.ee.eD,h.ee.BN,h.ee.last,h.c0,h.c1,h.plan⟩
theorem Pl.mono {c d:Nat} {s:az} (h:Pl c s) (Eu:c<=d):Pl d s:=⟨h.ee.mono Eu,h.c0,by have:=h.c1;omega,h.plan⟩
theorem Pl.go {c:Nat} {s:az} (h:Pl c s):Pl (c+1) (Gh s):=by
 have:=h.c0;have:=h.c1;refine ⟨by rw[(EO s).1];exact h.ee.mono (by omega),?_,?_,by rw[(EO s).2.1];exact h.plan⟩<;>unfold Gh<;>split
 ·omega
 ·show 0<=s.count+1;omega
 ·omega
 ·show s.count+1<=((c+1:Nat):Int);omega
theorem Pl.kp {c:Nat} {s:az} (h:Pl c s) (cu cg:Int) (x:ia) (hx:∀fr a to_ b,x≠.rename fr a to_ b):Pl (c+1) (jq s cu cg x):=by
 unfold jq;split
 ·exact h.go
 ·have:=h.go
  exact ⟨h.ee.kp _ _ _ _ hx,this.c0,this.c1,this.plan⟩
def fl (cu cg:Int):az->List ia->az×Int
 | s,[]=>(s,0)
 | s,x::l=>if kW s cu cg x≠0 then (jq s cu cg x,kW s cu cg x) else fl cu cg (jq s cu cg x) l
theorem nc {cu cg:Int} {s:az} {x:ia} {l:List ia} (h:kW s cu cg x≠0):fl cu cg s (x::l)=(jq s cu cg x,kW s cu cg x):=by unfold fl;rw[if_pos h]
theorem p8 {cu cg:Int} {s:az} {x:ia} {l:List ia} (h:kW s cu cg x=0):fl cu cg s (x::l)=fl cu cg (jq s cu cg x) l:=by conv=>{lhs;unfold fl};rw[if_neg (fun k=>k h)]
theorem LP (cu cg:Int) (s:az) (x:ia):fl cu cg s [x]=(jq s cu cg x,kW s cu cg x):=by
 by_cases h:kW s cu cg x=0
 ·rw[p8 h,h];rfl
 ·exact nc h
def OQ (keep:Bool) (cu cg no:Int) (m:ai):List ia:=if keep=true/\cu=0/\(m.uid≠cu\/m.gid≠cg) then [.cK no m.uid m.gid] else []
def Qv (no:Int) (m:ai):List ia:=if m.kind=1 then [.cJ no m.mode] else []
def ml (keep:Bool) (cu cg no:Int) (m:ai):List ia:=OQ keep cu cg no m++(Qv no m++[.dA no m.mtime])
theorem uG {keep:Bool} {cu cg no:Int} {m:ai}:∀x∈ml keep cu cg no m,∀fr a to_ b,x≠.rename fr a to_ b:=by
 intro x hx;unfold ml OQ Qv at hx;rcases List.mem_append.1 hx with hx|hx
 ·split at hx
  ·rw[List.mem_singleton]at hx;subst hx;exact fun _ _ _ _ e=>by cases e
  ·cases hx
 ·rcases List.mem_append.1 hx with hx|hx
  ·split at hx
   ·rw[List.mem_singleton]at hx;subst hx;exact fun _ _ _ _ e=>by cases e
   ·cases hx
  ·rw[List.mem_singleton]at hx;subst hx;exact fun _ _ _ _ e=>by cases e
theorem p9 (keep:Bool) (cu cg no:Int) (m:ai):(ml keep cu cg no m).length<=3:=by
 unfold ml OQ Qv;rw [List.length_append,List.length_append];split<;>split<;>simp
theorem Pl.fl {c:Nat} {s:az} (h:Pl c s) (cu cg:Int) (l:List ia) (hm:∀x∈l,∀fr a to_ b,x≠.rename fr a to_ b):Pl (c+l.length) (fl cu cg s l).1:=by
 induction l generalizing s c with
 | nil=>exact h
 | cons x l ih =>
  have h1:=h.kp cu cg x (hm x (List.mem_cons_self ..));unfold Go.Proofs.YtblbohcaphcobaaGreatDoor.fl;split
  ·exact h1.mono (by rw[List.length_cons];omega)
  ·exact (ih h1 (fun y hy=>hm y (List.mem_cons_of_mem _ hy))).mono (by rw[List.length_cons];omega)
theorem gF {s:az} {cu cg:Int} {x:ia} (h:kW s cu cg x=0):yi s=0/\(jq s cu cg x).dead=false:=by
 have h0:yi s=0:=by
  unfold kW at h;split at h
  ·rename_i h1;exact absurd h h1
  ·rename_i h1;exact Decidable.not_not.1 h1
 refine ⟨h0,?_⟩;obtain ⟨h1,h2⟩:=nv h0;unfold jq;rw [if_neg (fun k=>k h0)];show (Gh s).dead=false;rw [h2];exact h1
structure uH where
 s : az
 made:List (Int×Int)
 late:List ai
def aI:List (Int×Int)->Int->Int
 | [],_=>0
 | p::M,no=>if p.1=no then p.2 else aI M no
theorem q7 {M:List (Int×Int)} {no:Int} (h:aI M no≠0):(no,aI M no)∈M:=by
 induction M with
 | nil=>exact absurd rfl h
 | cons p M ih =>
  unfold aI at h|-;split at h
  ·rename_i e
   rw [if_pos e,<-e];exact List.mem_cons_self ..
  ·rename_i e
   rw [if_neg e];exact List.mem_cons_of_mem _ (ih h)
def yH (s:az) (cu cg:Int) (m:ai) (no:Int):Int:=if m.kind=1 then 0 else if m.kind=2 then dH s (bf s.t cu cg no 2 4) else dH s (bf s.t 0 0 no 3 0)
def YR (s:az) (cu cg:Int) (m:ai) (no:Int):List UInt8:=if m.kind=1 then [] else if m.kind=2 then nP s (aT s.t cu cg no 2 4).data else nP s (aT s.t 0 0 no 3 0).data
def yI (m:ai) (dir:Int) (nm x:List UInt8):ia:=if m.kind=1 then .bB dir nm 448 else if m.kind=2 then .bc dir nm m.mode x else .symlink dir nm x
theorem LQ {m:ai} {dir:Int} {nm x:List UInt8}:∀fr a to_ b,yI m dir nm x≠.rename fr a to_ b:=by
 intro fr a to_ b;unfold yI;split
 ·exact fun e=>by cases e
 ·split<;>exact fun e=>by cases e
theorem yJ {cu cg:Int} {s:az} {m:ai} {dir:Int} {nm x:List UInt8} (h:kW s cu cg (yI m dir nm x)=0) :
  ow s cu cg (yI m dir nm x)=s.t.last+1/\∃n:ai,n.af=[]/\bC s.t cu cg s.now dir nm n=0/\(jq s cu cg (yI m dir nm x)).t=aW s.t cu cg s.now dir nm n:=by
 obtain ⟨h0,_⟩:=gF h;have e1:fA s.t cu cg s.now (yI m dir nm x)=0:=by unfold kW at h;rw[if_neg (fun k=>k h0)]at h;exact h
 have e2:ow s cu cg (yI m dir nm x)=j_ s.t cu cg s.now (yI m dir nm x):=by unfold ow;rw[if_neg (fun k=>k h0)]
 have e3:(jq s cu cg (yI m dir nm x)).t=cq s.t cu cg s.now (yI m dir nm x):=by unfold jq;rw[if_neg (fun k=>k h0)]
 rw [e2,e3];have key:∀(p:Int) (n0:ai),n0.af=[]->fQ p (bC s.t cu cg s.now dir nm n0)=0->gZ p (cZ s.t cu cg s.now dir nm n0)=s.t.last+1/\∃n:ai,n.af=[]/\bC s.t cu cg s.now dir nm n=0/\dR p s.t (aW s.t cu cg s.now dir nm n0)=aW s.t cu cg s.now dir nm n:=by
  intro p n hn hp;have RL:p=0:=by
   unfold fQ at hp;split at hp
   ·exact hp
   ·rename_i h;exact Decidable.not_not.1 h
  have hc:bC s.t cu cg s.now dir nm n=0:=by unfold fQ at hp;rw[if_neg (fun k=>k RL)]at hp;exact hp
  exact ⟨by unfold gZ cZ;rw[if_neg (fun k=>k RL),if_pos hc],n,hn,hc,by unfold dR;rw[if_neg (fun k=>k RL)]⟩
 unfold yI at e1|-;split
 ·rename_i hk
  rw [if_pos hk]at e1;obtain ⟨g1,n,g2,g3,g4⟩:=key _ (dM 448 dir) rfl e1;exact⟨g1,n,g2,g3,g4⟩
 ·rename_i hk
  rw [if_neg hk]at e1;split
  ·rename_i hk2
   rw [if_pos hk2]at e1;obtain ⟨g1,n,g2,g3,g4⟩:=key _ (ct m.mode x) rfl e1;exact⟨g1,n,g2,g3,g4⟩
  ·rename_i hk2
   rw [if_neg hk2]at e1;obtain ⟨g1,n,g2,g3,g4⟩:=key _ (dY x) rfl e1;exact⟨g1,n,g2,g3,g4⟩
def d_ (T:uH) (cu cg:Int) (x:ak) (dir:Int) (nm:List UInt8):ia:=yI (ac T.s.t.nodes x.no) dir nm (YR T.s cu cg (ac T.s.t.nodes x.no) x.no)
def jh (keep:Bool) (cu cg:Int) (T:uH) (x:ak) (dir:Int) (nm:List UInt8):uH×Int:=
 if dH T.s (cC T.s.t x.no)≠0 then (T,dH T.s (cC T.s.t x.no))
 else if aI T.made x.no≠0 then ({T with s:=jq T.s cu cg (.link (aI T.made x.no) dir nm)},kW T.s cu cg (.link (aI T.made x.no) dir nm))
 else if yH T.s cu cg (ac T.s.t.nodes x.no) x.no≠0 then (T,yH T.s cu cg (ac T.s.t.nodes x.no) x.no)
 else if kW T.s cu cg (d_ T cu cg x dir nm)≠0 then ({T with s:=jq T.s cu cg (d_ T cu cg x dir nm)},kW T.s cu cg (d_ T cu cg x dir nm))
 else if (ac T.s.t.nodes x.no).kind=1 then (⟨jq T.s cu cg (d_ T cu cg x dir nm),T.made++[(x.no,ow T.s cu cg (d_ T cu cg x dir nm))],T.late++[ac T.s.t.nodes x.no]⟩,0)
 else (⟨(fl cu cg (jq T.s cu cg (d_ T cu cg x dir nm)) (ml keep cu cg (ow T.s cu cg (d_ T cu cg x dir nm)) (ac T.s.t.nodes x.no))).1,T.made++[(x.no,ow T.s cu cg (d_ T cu cg x dir nm))],T.late⟩,
  (fl cu cg (jq T.s cu cg (d_ T cu cg x dir nm)) (ml keep cu cg (ow T.s cu cg (d_ T cu cg x dir nm)) (ac T.s.t.nodes x.no))).2)
theorem DC {c n:Nat} {keep:Bool} {cu cg:Int} {T:uH} (h:Pl c T.s) (hn:c+3*T.late.length<=n) (x:ak) (dir:Int) (nm:List UInt8):∃c',Pl c' (jh keep cu cg T x dir nm).1.s/\c'+3*(jh keep cu cg T x dir nm).1.late.length<=n+4:=by
 have h1:=h.kp cu cg (.link (aI T.made x.no) dir nm) (fun _ _ _ _ e=>by cases e);have h2:=h.kp cu cg (d_ T cu cg x dir nm) LQ;have h3:=h2.fl cu cg (ml keep cu cg (ow T.s cu cg (d_ T cu cg x dir nm)) (ac T.s.t.nodes x.no)) uG;have h4:=p9 keep cu cg (ow T.s cu cg (d_ T cu cg x dir nm)) (ac T.s.t.nodes x.no);unfold jh;split
 ·exact⟨c,h,by show c+3*T.late.length<=_;omega⟩
 split
 ·exact⟨c+1,h1,by show c+1+3*T.late.length<=_;omega⟩
 split
 ·exact⟨c,h,by show c+3*T.late.length<=_;omega⟩
 split
 ·exact⟨c+1,h2,by show c+1+3*T.late.length<=_;omega⟩
 split
 ·exact⟨c+1,h2,by show c+1+3*(T.late++[_]).length<=_;rw[List.length_append,List.length_singleton];omega⟩
 ·exact⟨_,h3,by show _+3*T.late.length<=_;omega⟩
def vQ (keep:Bool) (cu cg:Int):uH->List ak->uH×Int
 | T,[]=>(T,0)
 | T,x::l=>if (jh keep cu cg T x (aI T.made x.dir) x.name).2≠0 then jh keep cu cg T x (aI T.made x.dir) x.name else vQ keep cu cg (jh keep cu cg T x (aI T.made x.dir) x.name).1 l
def uI (keep:Bool) (cu cg to_:Int) (b:List UInt8) (s:az):List ak->uH×Int
 | []=>(⟨s,[],[]⟩,0)
 | x::l=>if (jh keep cu cg ⟨s,[],[]⟩ x to_ b).2≠0 then jh keep cu cg ⟨s,[],[]⟩ x to_ b else vQ keep cu cg (jh keep cu cg ⟨s,[],[]⟩ x to_ b).1 l
def ji (keep:Bool) (cu cg:Int) (M:List (Int×Int)):az->List ai->az×Int
 | s,[]=>(s,0)
 | s,m::l=>if (fl cu cg s (ml keep cu cg (aI M m.no) m)).2≠0 then fl cu cg s (ml keep cu cg (aI M m.no) m) else ji keep cu cg M (fl cu cg s (ml keep cu cg (aI M m.no) m)).1 l
def gM (keep:Bool) (cu cg to_:Int) (b:List UInt8) (s:az) (l:List ak) (e:Int):az×Int:=
 if e≠0 then (s,e) else if (uI keep cu cg to_ b s l).2≠0 then ((uI keep cu cg to_ b s l).1.s,(uI keep cu cg to_ b s l).2)
 else ji keep cu cg (uI keep cu cg to_ b s l).1.made (uI keep cu cg to_ b s l).1.s (uI keep cu cg to_ b s l).1.late.reverse
theorem l9 {cu cg:Int} {l:List ia}:∀{s:az},l≠[]->(fl cu cg s l).2=0->(fl cu cg s l).1.dead=false:=by
 induction l with
 | nil=>intro s h _;exact absurd rfl h
 | cons x l ih =>
  intro s _ hr
  by_cases h:kW s cu cg x=0
  ·rw [p8 h]at hr|-
   cases l with
   | nil=>exact (gF h).2
   | cons y l=>exact ih (by simp) hr
  ·rw[nc h]at hr;exact absurd hr h
theorem yK {keep:Bool} {cu cg no:Int} {m:ai}:ml keep cu cg no m≠[]:=by unfold ml;simp
theorem Bo {keep:Bool} {cu cg:Int} {T:uH} {c:Nat} (hp:Pl c T.s) (hz:∀p∈T.made,p.2≠0) {x:ak} {dir:Int} {nm:List UInt8} :
  (∀p∈(jh keep cu cg T x dir nm).1.made,p.2≠0)/\(jh keep cu cg T x dir nm).1.late.length<=T.late.length+1/\((jh keep cu cg T x dir nm).2=0->(jh keep cu cg T x dir nm).1.s.dead=false):=by
 unfold jh
 by_cases h1:dH T.s (cC T.s.t x.no)=0
 case neg=>rw[if_pos h1];exact⟨hz,Nat.le_succ _,fun k=>absurd k h1⟩
 rw [if_neg (fun k=>k h1)]
 by_cases h2:aI T.made x.no=0
 case neg=>rw[if_pos h2];exact⟨hz,Nat.le_succ _,fun k=>(gF k).2⟩
 rw [if_neg (fun k=>k h2)]
 by_cases h3:yH T.s cu cg (ac T.s.t.nodes x.no) x.no=0
 case neg=>rw[if_pos h3];exact⟨hz,Nat.le_succ _,fun k=>absurd k h3⟩
 rw [if_neg (fun k=>k h3)]
 by_cases h4:kW T.s cu cg (d_ T cu cg x dir nm)=0
 case neg=>rw[if_pos h4];exact⟨hz,Nat.le_succ _,fun k=>absurd k h4⟩
 rw [if_neg (fun k=>k h4)];have hn:ow T.s cu cg (d_ T cu cg x dir nm)≠0:=by
  have e:ow T.s cu cg (d_ T cu cg x dir nm)=T.s.t.last+1:=(yJ h4).1;have:=hp.ee.eD.last;omega
 have hz':∀p∈T.made++[(x.no,ow T.s cu cg (d_ T cu cg x dir nm))],p.2≠0:=fun p hq=>by
  rcases List.mem_append.1 hq with hq|hq
  ·exact hz p hq
  ·rw[List.mem_singleton]at hq;subst hq;exact hn
 split
 ·exact⟨hz',by show (T.late++[_]).length<=_;rw[List.length_append];exact Nat.le_refl _,fun _=>(gF h4).2⟩
 ·exact⟨hz',Nat.le_succ _,fun k=>l9 yK k⟩
open Go.ChangeShapes Go.WideShapes Go.ChangeAt Go.RowKit
def gY (m:ai):List Value:=[.int .i64 m.no,.int .i64 m.dev,.int .i64 m.kind,.int .i64 m.mode,.int .i64 m.uid,.int .i64 m.gid,.int .i64 m.ah,.int .i64 m.data.length,.int .i64 m.mtime,.int .i64 m.ctime]
def yL:RowK ai:=⟨95,46,10,80,.agg #[.int .i64 0,.int .i64 0,.int .i64 0,.int .i64 0,.int .i64 0,.int .i64 0,.int .i64 0,.int .i64 0,.int .i64 0,.int .i64 0],gY,by decide,Tryz.underlying95,by kernel_rfl,rfl,fun _=>rfl,fun x u hu=>by
 unfold gY at hu;simp only[List.mem_cons,List.not_mem_nil,or_false]at hu;rcases hu with rfl|rfl|rfl|rfl|rfl|rfl|rfl|rfl|rfl|rfl<;>rfl,by decide⟩
def jN (es:List MapEntry) (M:List (Int×Int)):Prop:=
 es.length=M.length/\∀k,(h:k<M.length)->∃e,es[k]?=some e/\e.key=.int .i64 M[k].1/\e.val=.int .i64 M[k].2
theorem uJ {M:List (Int×Int)} {x:Int} (h:∀p∈M,p.1≠x):aI M x=0:=by
 induction M with
 | nil=>rfl
 | cons p M ih =>
  unfold aI;rw [if_neg (h p (List.mem_cons_self ..))];exact ih fun q hq=>h q (List.mem_cons_of_mem _ hq)
theorem DD {M:List (Int×Int)} {x:Int} (h:∃p∈M,p.1=x) (hz:∀p∈M,p.2≠0):aI M x≠0:=by
 induction M with
 | nil=>obtain⟨p,hp,_⟩:=h;cases hp
 | cons p M ih =>
  unfold aI;split
  ·exact hz p (List.mem_cons_self ..)
  ·rename_i hn
   obtain ⟨q,hq,e⟩:=h;rcases List.mem_cons.1 hq with rfl|hq
   ·exact absurd e hn
   ·exact ih ⟨q,hq,e⟩ fun y hy=>hz y (List.mem_cons_of_mem _ hy)
theorem ki (x:Int):∀(es:List MapEntry) (M:List (Int×Int)) (i:Nat),jN es M ->
  ((∀p∈M,p.1≠x)/\Instr.findNow (.int .i64) (.int .i64 x) es i=some none)\/((∃p∈M,p.1=x)/\∃k,Instr.findNow (.int .i64) (.int .i64 x) es i=some (some (k,.int .i64 (aI M x)))):=by
 intro es
 induction es with
 | nil =>
  intro M i h;obtain rfl:M=[]:=List.eq_nil_of_length_eq_zero h.1.symm;exact .inl ⟨fun p hp=>(by cases hp),rfl⟩
 | cons e es ih =>
  intro M i h
  cases M with
  | nil=>have:=h.1;simp at this
  | cons n M =>
   obtain ⟨e',h1,h2,h3⟩:=h.2 0 (by simp);simp at h1;subst h1;simp at h2 h3;have hs:Instr.sameNow (.int .i64) (.int .i64 x) e.key=some (x == n.1):=by rw[h2];simp[Instr.sameNow]
   by_cases hq:n.1=x
   ·right
    refine ⟨⟨n,List.mem_cons_self ..,hq⟩,i,?_⟩;unfold Instr.findNow;rw [hs];have hm:aI (n::M) x=n.2:=by unfold aI;rw[if_pos hq]
    rw [hm];simp [hq,h3]
   ·have hb:(x == n.1)=false:=by simpa using fun e:x=n.1=>hq e.symm
    have ru:Instr.findNow (.int .i64) (.int .i64 x) (e::es) i=Instr.findNow (.int .i64) (.int .i64 x) es (i+1):=by
     conv=>lhs;unfold Instr.findNow
     rw [hs,hb]
    have hm:aI (n::M) x=aI M x:=by conv=>{lhs;unfold aI};rw[if_neg hq]
    rw [ru,hm];rcases ih M (i+1) ⟨by have:=h.1;simpa using this,fun k hk=>by
     obtain ⟨y,hx1,hx2,hx3⟩:=h.2 (k+1) (by simpa using hk);exact ⟨y,by simpa using hx1,by simpa using hx2,by simpa using hx3⟩⟩ with⟨g1,g2⟩|⟨⟨p,hp,g1⟩,g2⟩
    ·exact .inl ⟨fun p hp=>(List.mem_cons.1 hp).elim (fun e=>e▸hq) (g1 p),g2⟩
    ·exact .inr ⟨⟨p,List.mem_cons_of_mem _ hp,g1⟩,g2⟩
theorem uK {w:World} {bM:Nat} {es:Array MapEntry} {clock:Nat} {M:List (Int×Int)} (hm:Has w bM (.map es clock)) (h:jN es.toList M) (x:Int) :
  (Instr.lookup 94 (.map (some bM)) (.int .i64 x) false).run Tryz.prog w=.ok (.int .i64 (aI M x)) w:=by
 have hk:∀r,Instr.findNow (.int .i64) (.int .i64 x) es.toList 0=some r->(Instr.findKey 3 (.int .i64 x) es.toList).run Tryz.prog w=.ok r w:=fun r hr=>by
  unfold Instr.findKey;rw [Sem.run_bind,run_underlying Tryz.underlying3];simp [hr]
 have hz:(zeroValue 3).run Tryz.prog w=.ok (.int .i64 0) w:=by kernel_rfl
 rcases ki x es.toList M 0 h with⟨g1,g2⟩|⟨_,k,g2⟩
 ·rw [uJ g1]
  simp [Instr.lookup,run_underlying Tryz.underlying94,MapKept.run_getObj_map hm,cP,hk _ g2,hz]
 ·simp[Instr.lookup,run_underlying Tryz.underlying94,MapKept.run_getObj_map hm,cP,hk _ g2]
theorem run_make {w:World} {bM:Nat} {es:Array MapEntry} {clock:Nat} {M:List (Int×Int)} (hm:Has w bM (.map es clock)) (h:jN es.toList M) {x:Int} (h0:aI M x=0) (hz:∀p∈M,p.2≠0) (n:Int) :
  ∃ es' clock',(Instr.mapUpdate 94 (.map (some bM)) (.int .i64 x) (.int .i64 n)).run Tryz.prog w=.ok () (jj w bM (.map es' clock'))/\jN es'.toList (M++[(x,n)]):=by
 have hk:∀r,Instr.findNow (.int .i64) (.int .i64 x) es.toList 0=some r->(Instr.findKey 3 (.int .i64 x) es.toList).run Tryz.prog w=.ok r w:=fun r hr=>by
  unfold Instr.findKey;rw [Sem.run_bind,run_underlying Tryz.underlying3];simp [hr]
 rcases ki x es.toList M 0 h with⟨g1,g2⟩|⟨g1,_⟩
 case inr=>exact absurd h0 (DD g1 hz)
 refine ⟨es.push ⟨.int .i64 x,.int .i64 n,clock⟩,clock+1,?_,?_⟩
 ·simp[Instr.mapUpdate,run_underlying Tryz.underlying94,MapKept.run_getObj_map hm,cP,hk _ g2,MapKept.run_setObj_map _ hm,Result.andThen,jj]
 ·have hl:es.size=M.length:=by simpa using h.1
  refine ⟨by simp;simpa using h.1,fun j hj=>?_⟩;rw [List.length_append,List.length_singleton]at hj;rw [Array.getElem?_toList,Array.getElem?_push,hl]
  by_cases ej:j=M.length
  ·subst ej
   refine ⟨_,by rw[if_pos rfl],?_⟩;rw [List.getElem_append_right (Nat.le_refl _)];simp only[Nat.sub_self,List.getElem_singleton];exact ⟨trivial,trivial⟩
  ·obtain ⟨e',h1,h2,h3⟩:=h.2 j (by omega)
   rw [Array.getElem?_toList]at h1;refine ⟨e',by rw[if_neg ej];exact h1,?_⟩;rw [List.getElem_append_left (by omega)];exact ⟨h2,h3⟩
def OS (w:World) (B b:Nat) (g:bJ) (s':az) (x:Int) (e:Ending) (w':World):Prop:=e=.returned (.int .i64 x)/\PS w' B b g s'/\Only (b::g.list) w w'
def SY (w:World) (bt b:Nat) (cu cg:Int) (keep:Bool) (bM:Nat) (v:Value):Prop:=Has w bt (.cells #[.pointer (some ⟨b,0,none⟩),cu,cg,.bool keep,.map (some bM),v] 97)
theorem PS.SZ {w:World} {B b bt bM:Nat} {g:bJ} {s:az} {cu cg:Int} {keep:Bool} {v:Value} (h:PS w B b g s) (hT:SY w bt b cu cg keep bM v):bt∉b::g.list:=by
 obtain ⟨A,cap,h1,h2,_⟩:=h;intro hm;rcases List.mem_cons.1 hm with rfl|hm
 ·unfold SY Has at hT
  unfold eI Has at h2;rw [hT]at h2;cases h2
 ·exact h1.iy hT (by decide) (by decide) (by decide) hm
theorem PS.EP {c:Nat} {w:World} {B b:Nat} {g:bJ} {s:az} (h:PS w B b g s) (hp:Pl c s) (hc:c+3<=900) (hd:s.dead=false) {bt bM:Nat} {cu cg:Int} {keep:Bool} {v:Value} (hT:SY w bt b cu cg keep bM v) (no:Int) (m:ai) :
  Calls Tryz.prog 32 #[.pointer (some ⟨bt,0,none⟩),.int .i64 no,fG m] w (OS w B b g (fl cu cg s (ml keep cu cg no m)).1 (fl cu cg s (ml keep cu cg no m)).2):=by
 obtain ⟨W0,aY⟩:∃W,W=w.alloc (.cells #[m.no,m.dev,m.kind,m.mode,m.uid,m.gid,m.ah,.int .i64 m.data.length,m.mtime,m.ctime] 46):=⟨_,rfl⟩;obtain ⟨b5,kF⟩:∃b,b=w.heap.size:=⟨_,rfl⟩;have E0:Ext w W0:=by rw[aY];exact (Ext.refl _).alloc _
 have X0:Has W0 b5 (.cells #[m.no,m.dev,m.kind,m.mode,m.uid,m.gid,m.ah,.int .i64 m.data.length,m.mtime,m.ctime] 46):=by rw[aY,kF];exact Has.new _ _
 have YS:=h.SZ hT;have hn5:b5∉b::g.list:=fun hm=>by have:=h.lt _ hm;omega
 have P0:=h.ext E0;have T0:SY W0 bt b cu cg keep bM v:=Has.ext hT E0;obtain⟨R,hR⟩:=aq (fl cu cg s (ml keep cu cg no m));obtain⟨C,hC⟩:=aq (decide (keep=true/\cu=0/\(m.uid≠cu\/m.gid≠cg)));have hCt:C=true->OQ keep cu cg no m=[.cK no m.uid m.gid]:=fun e=>by unfold OQ;rw[if_pos (of_decide_eq_true (hC.symm.trans e))]
 have hCf:C=false->OQ keep cu cg no m=[]:=fun e=>by unfold OQ;rw[if_neg (of_decide_eq_false (hC.symm.trans e))]
 have Qw:=zH hCt;have S4:=zH hCf;have HR:=zH hR;rw [<-hR];have Qx:=zH P0;have Qy:=zH T0;have sA:=zH X0;have ja:=zH E0;have HP:=zH hp;have HD:=zH hd;have LR:=zH YS;have OT:=zH hn5;have t1:=Has.cell T0 1;have t2:=Has.cell T0 2;have t3:=Has.cell T0 3;have tz:=Has.lt T0;have x4:=X0.cell 4;have x5:=X0.cell 5;have xz:=X0.lt;simp only[gA,gB,gC]at t1 t2 t3 x4 x5;unfold fG;clear h hp hd hT YS hn5 P0 T0 X0 E0 hR hCt hCf;go_enter Tryz.func32,Tryz.ntmps32;go_upto_region 1 with fail;rw [<-aY,<-kF];clear aY kF;go_cut [40] (fun t wc=>t=.bool C/\Ext W0 wc)
 case first =>
  cases keep with
  | false =>
   have OU:C=false:=by rw[hC];simp
   clear hC HR HP HD Qw S4 sA Qy LR OT Qx ja;go_quiet (fail);go_wp2_with fail;go_meet;exact ⟨by rw[OU],(Ext.refl _).drewN nq⟩
  | true =>
   by_cases k2:cu=0
   case neg =>
    have h2:(cu == 0)=false:=by simpa using k2
    have OU:C=false:=by rw[hC];simp[k2]
    clear hC HR HP HD Qw S4 sA Qy LR OT Qx ja k2;go_quiet (fail);go_wp2_with fail;go_meet;exact ⟨by rw[OU],(Ext.refl _).drewN nq⟩
   have h2:(cu == 0)=true:=by simpa using k2
   by_cases k3:m.uid=cu
   case neg =>
    have h3:(m.uid != cu)=true:=by simpa using k3
    have OU:C=true:=by rw[hC];simp only[decide_eq_true_eq];exact⟨trivial,k2,.inl k3⟩
    clear hC HR HP HD Qw S4 sA Qy LR OT Qx ja k2 k3;go_quiet (fail);go_wp2_with fail;go_meet;exact ⟨by rw[OU],(Ext.refl _).drewN nq⟩
   have h3:(m.uid != cu)=false:=by simpa using k3
   by_cases k4:m.gid=cg
   case neg =>
    have h4:(m.gid != cg)=true:=by simpa using k4
    have OU:C=true:=by rw[hC];simp only[decide_eq_true_eq];exact⟨trivial,k2,.inr k4⟩
    clear hC HR HP HD Qw S4 sA Qy LR OT Qx ja k2 k3 k4;go_quiet (fail);go_wp2_with fail;go_meet;exact ⟨by rw[OU],(Ext.refl _).drewN nq⟩
   have h4:(m.gid != cg)=false:=by simpa using k4
   have OU:C=false:=by rw[hC];simp only[decide_eq_false_iff_not];rintro⟨_,_,h|h⟩;exact h k3;exact h k4
   clear hC HR HP HD Qw S4 sA Qy LR OT Qx ja k2 k3 k4;go_quiet (fail);go_wp2_with fail;go_meet;exact ⟨by rw[OU],(Ext.refl _).drewN nq⟩
 case rest =>
 obtain ⟨rfl,E1⟩:=hcut;clear hC t1 t2 t3 tz x4 x5 xz;obtain⟨w1,Vl⟩:=aq wc;rw [<-Vl]at E1|-;have AR:=zH E1;clear Vl;go_upto_if 40 with fail;go_cut [] (fun wd=>∃s1,PS wd B b g s1/\Pl (c+1) s1/\s1.dead=false/\R=fl cu cg s1 (Qv no m++[.dA no m.mtime])/\Only (b::g.list) W0 wd)
 case first =>
  cases C with
  | false =>
   go_wp2_with fail;go_meet;exact ⟨s,Qx.out.ext AR.out,HP.out.mono (by omega),HD.out,by rw[HR.out];unfold ml;rw[S4.out (by first|rfl|trivial)];rfl,Only.av AR.out⟩
  | true =>
   have K:Hid (∀u,Ext w1 u->Calls Tryz.prog 47 #[.pointer (some ⟨b,0,none⟩),.agg #[cu,cg],.int .i64 no,m.uid,m.gid] u (JW u B b g s cu cg (.cK no m.uid m.gid))):=by
    show ∀_,_;intro u hu;exact (Qx.out.ext (AR.out.trans hu)).cK HP.out.ig (by omega) HD.out cu cg no m.uid m.gid
   obtain ⟨e1,qf⟩:∃e,e=kW s cu cg (.cK no m.uid m.gid):=⟨_,rfl⟩;obtain ⟨s1,hs1⟩:∃e,e=jq s cu cg (.cK no m.uid m.gid):=⟨_,rfl⟩;unfold JW at K;rw [<-qf,<-hs1]at K;have HE:=zH qf;have HS:=zH hs1;have T1:=Has.ext Qy.out E1;have X1:=sA.out.ext E1;have t0:=Has.cell T1 0;have t1:=Has.cell T1 1;have t2:=Has.cell T1 2;have tz:=Has.lt T1;have x4:=X1.cell 4;have x5:=X1.cell 5;have xz:=X1.lt;simp only[gA,gB,gC]at t0 t1 t2 x4 x5;clear qf hs1 T1 X1;go_upto_region 2 with fail;go_still_tail 13,(by kernel_rfl);change wpList _ _ _ _ _ w1.drew;go_wp2_with fail;have ED:Ext w1 w1.drew:=(Ext.refl _).drew;refine (K.out _ ED).mono ?_;rintro e w2 ⟨rfl,P2,O2⟩;have O2:=(Only.av (L:=b::g.list) ED).then O2;have yA:=zH P2;have vq:=zH O2;clear t0 t1 t2 tz x4 x5 xz K P2 O2
   by_cases k:e1=0
   ·have hk:(e1 != 0)=false:=by simpa using k
    have H1:=zH k;clear k;go_wp2_with fail;go_meet;have he:kW s cu cg (.cK no m.uid m.gid)=0:=by rw[<-HE.out];exact H1.out
    refine ⟨s1,yA.out,?_,?_,?_,(Only.av AR.out).then vq.out⟩
    ·rw[HS.out];exact HP.out.kp cu cg _ (fun _ _ _ _ e=>by cases e)
    ·rw[HS.out];exact (gF he).2
    ·rw[HR.out,HS.out];unfold ml;rw[Qw.out (by first|rfl|trivial)];exact p8 he
   ·have hk:(e1 != 0)=true:=by simpa using k
    have H1:=zH k;clear k;go_wp2_with fail;go_ret;have he:R=(s1,e1):=by rw[HR.out,HS.out,HE.out];unfold ml;rw[Qw.out (by first|rfl|trivial)];exact nc (by rw[<-HE.out];exact H1.out)
    rw [he];exact ⟨rfl,yA.out,Only.pre ja.out ((Only.av AR.out).then vq.out)⟩
 case rest =>
 obtain ⟨s1,P1,p1,d1,r1,O1⟩:=hcut;obtain ⟨w2,hw2⟩:∃w1,w1=wc:=⟨_,rfl⟩;rw [<-hw2]at P1 O1|-;clear hw2 HR HP HD Qw S4 Qx E1 AR;have EB:=zH P1;have YT:=zH p1;have Hd1:=zH d1;have HR:=zH r1;have HO1:=zH O1;have T2:=O1.has Qy.out LR.out;have X2:=O1.has sA.out OT.out;have Qz:=zH T2;have vM:=zH X2;have x2:=X2.cell 2;have xz:=X2.lt;simp only[gA,gB,gC]at x2;clear P1 p1 d1 r1 O1 T2 X2 Qy sA;go_upto_if 60 with fail;clear x2 xz;go_cut [] (fun wd=>∃s1,PS wd B b g s1/\Pl (c+2) s1/\s1.dead=false/\R=fl cu cg s1 [.dA no m.mtime]/\Only (b::g.list) w2 wd)
 case first =>
  by_cases kk:m.kind=1
  case neg =>
   have hk:(m.kind == 1)=false:=by simpa using kk
   have H1:=zH kk;clear kk;go_wp2_with fail;go_meet;exact ⟨s1,EB.out,YT.out.mono (by omega),Hd1.out,by rw[HR.out];unfold Qv;rw[if_neg H1.out];rfl,Only.av (Ext.refl _)⟩
  case pos =>
   have hk:(m.kind == 1)=true:=by simpa using kk
   have HK:=zH kk;have K:Hid (∀u,Ext w2 u->Calls Tryz.prog 48 #[.pointer (some ⟨b,0,none⟩),.agg #[cu,cg],.int .i64 no,m.mode] u (JW u B b g s1 cu cg (.cJ no m.mode))):=by
    show ∀_,_;intro u hu;exact (EB.out.ext hu).cJ YT.out.ig (by omega) Hd1.out cu cg no m.mode
   obtain ⟨e1,qf⟩:∃e,e=kW s1 cu cg (.cJ no m.mode):=⟨_,rfl⟩;obtain ⟨s2,hs2⟩:∃e,e=jq s1 cu cg (.cJ no m.mode):=⟨_,rfl⟩;unfold JW at K;rw [<-qf,<-hs2]at K;have HE:=zH qf;have HS:=zH hs2;have t0:=Has.cell Qz.out 0;have t1:=Has.cell Qz.out 1;have t2:=Has.cell Qz.out 2;have tz:=Has.lt Qz.out;have x3:=vM.out.cell 3;have xz:=vM.out.lt;simp only[gA,gB,gC]at t0 t1 t2 x3;clear qf hs2 kk;go_upto_region 6 with fail;go_still_tail 11,(by kernel_rfl);change wpList _ _ _ _ _ w2.drew;go_wp2_with fail;have ED:Ext w2 w2.drew:=(Ext.refl _).drew;refine (K.out _ ED).mono ?_;rintro e w3 ⟨rfl,P2,O2⟩;have O2:=(Only.av (L:=b::g.list) ED).then O2;have yA:=zH P2;have vq:=zH O2;clear t0 t1 t2 tz x3 xz K P2 O2
   by_cases k:e1=0
   ·have hk:(e1 != 0)=false:=by simpa using k
    have H1:=zH k;clear k;go_wp2_with fail;go_meet;have he:kW s1 cu cg (.cJ no m.mode)=0:=by rw[<-HE.out];exact H1.out
    refine ⟨s2,yA.out,?_,?_,?_,vq.out⟩
    ·rw[HS.out];exact YT.out.kp cu cg _ (fun _ _ _ _ e=>by cases e)
    ·rw[HS.out];exact (gF he).2
    ·rw[HR.out,HS.out];unfold Qv;rw[if_pos HK.out];exact p8 he
   ·have hk:(e1 != 0)=true:=by simpa using k
    have H1:=zH k;clear k;go_wp2_with fail;go_ret;have he:R=(s2,e1):=by rw[HR.out,HS.out,HE.out];unfold Qv;rw[if_pos HK.out];exact nc (by rw[<-HE.out];exact H1.out)
    rw [he];exact ⟨rfl,yA.out,Only.pre ja.out (HO1.out.then vq.out)⟩
 case rest =>
 obtain ⟨s2,P2,p2,d2,r2,O2⟩:=hcut;obtain ⟨w3,WY⟩:∃w1,w1=wc:=⟨_,rfl⟩;rw [<-WY]at P2 O2|-;have T3:=O2.has Qz.out LR.out;have X3:=O2.has vM.out OT.out;have t0:=Has.cell T3 0;have t1:=Has.cell T3 1;have t2:=Has.cell T3 2;have tz:=Has.lt T3;have x8:=X3.cell 8;have xz:=X3.lt;simp only[gA,gB,gC]at t0 t1 t2 x8;have K:Hid (∀u,Ext w3 u->Calls Tryz.prog 49 #[.pointer (some ⟨b,0,none⟩),.agg #[cu,cg],.int .i64 no,m.mtime] u (OS u B b g R.1 R.2)):=by
  show ∀_,_;intro u hu;rw [r2,LP];exact (P2.ext hu).dA p2.ig (by omega) d2 cu cg no m.mtime
 have HO:=zH ((HO1.out).then O2);clear WY P2 p2 d2 r2 O2 T3 X3 HR EB YT Hd1 Qz vM HO1;go_upto_region 9 with fail;go_still_tail 11,(by kernel_rfl);change wpList _ _ _ _ _ w3.drew;go_wp2_with fail;have ED:Ext w3 w3.drew:=(Ext.refl _).drew;refine (K.out _ ED).mono ?_;rintro e w4 ⟨rfl,P4,O4⟩;have O4:=(Only.av (L:=b::g.list) ED).then O4;go_wp2_with fail;go_ret;exact ⟨rfl,P4,Only.pre ja.out (HO.out.then O4)⟩
theorem uL {id:Nat} {Q:Exit->Act->World->Prop} {a:Act} {w:World} {l:List Oper} (V:World) (m s:Nat) (d t:Tmp) (n:ai) (om os:Oper)
  (hB:Region.lexB .any l.toArray=true) (hc:IQ l m s d t=true) (Ef:l[m]?=some om) (ry:l[s]?=some os) (Il:om.op=.alloc 46) (mA:os.op=.store 46 (.tmp d) (.tmp t)) (QW:d<a.tmps.size)
  (hV:Ext V w.drew) :
  bp Tryz.prog l.toArray V (fun a1=>bp Tryz.prog l.toArray V (fun a2=>a2.eval (.tmp t)=fG n/\bp Tryz.prog l.toArray V (fun a3=>∀w' bx,Ext V w'->V.heap.size<=bx->Has w' bx (.cells (gY n).toArray 46)->Q .normal (a3.put (some d) (.pointer (some ⟨bx,0,none⟩))) w') (l.drop (s+1)) a2) ((l.take s).drop (m+1)) a1) (l.take m) a ->
  (Code.region id l.toArray true).wp Tryz.prog Q a w:=by
 refine lf V m s d t (fG n) (.cells (gY ae).toArray 46) _ om os (by kernel_rfl) hB hc Ef ry ?_ ?_ hV QW
 ·intro a w
  simp [execOp,Il,go_sem];rfl
 ·intro a w bx hsz hb he
  have hd:(a.put (some d) (.pointer (some ⟨bx,0,none⟩))).eval (.tmp d)=.pointer (some ⟨bx,0,none⟩):=by
   simp [Act.put,Act.eval,hsz]
  have hb':Has w bx (.cells (gY ae).toArray 46):=hb;refine ⟨_,?_,Has.Ev hb' n,cG (Ad n) 0 w⟩;have hst:=run_storeAt_mid (P:=Tryz.prog) w bx 0 46 (gY n).toArray hb'.there oQ (Ae n);unfold gY at hst;simp only[execOp,mA,hd,he,fG,hst,Sem.run_bind,Sem.run_pure,Result.andThen_ok];rfl
def kj (w:World) (B b:Nat) (g:bJ) (N bt bM:Nat) (cu cg:Int) (keep:Bool) (v:Value) (T:uH):Prop:=
 PS w B b g T.s/\SY w bt b cu cg keep bM v/\bZ yL w N v T.late/\(∃es cl,Has w bM (.map es cl)/\jN es.toList T.made)/\B<=N/\N<=bt/\N<=bM/\∀x∈b::g.list,x<N
def yM (b:Nat) (g:bJ) (bt bM:Nat) (v:Value):List Nat:=b::(g.list++bt::bM::v.ownBlock.toList)
def oY (w:World) (B b:Nat) (g:bJ) (N bt bM:Nat) (cu cg:Int) (keep:Bool) (v:Value) (T:uH) (E:Int) (e:Ending) (w':World):Prop:=
 e = .returned (.int .i64 E)/\∃v',kj w' B b g N bt bM cu cg keep v' T/\Only (yM b g bt bM v) w w'/\∀x,v'.ownBlock=some x->v.ownBlock=some x\/w.heap.size<=x
attribute [local irreducible] fY
attribute [local go_sem] eP
section
variable {w:World} {B b:Nat} {g:bJ} {N bt bM:Nat} {cu cg:Int} {keep:Bool} {v:Value} {T:uH}
theorem kj.tm (h:kj w B b g N bt bM cu cg keep v T):bt≠bM:=by
 obtain ⟨_,h2,_,⟨es,cl,h4,_⟩,_⟩:=h;exact fw h2 h4
theorem kj.own (h:kj w B b g N bt bM cu cg keep v T):∀x,v.ownBlock=some x->N<=x/\x<w.heap.size/\x≠bt/\x≠bM:=by
 obtain ⟨_,h2,h3,⟨es,cl,h4,_⟩,_⟩:=h;intro x hx;obtain ⟨a1,a2⟩:=h3.lt hx;exact ⟨a1,a2,fun e=>ez h3 h2 (by decide) (by rw[hx,e]),fun e=>j7 h3 h4 (by rw[hx,e])⟩
theorem kj.ext {w':World} (h:kj w B b g N bt bM cu cg keep v T) (k:Ext w w'):kj w' B b g N bt bM cu cg keep v T:=by
 obtain ⟨h1,h2,h3,⟨es,cl,h4,h5⟩,h6⟩:=h;exact ⟨h1.ext k,Has.ext h2 k,h3.ext k,⟨es,cl,Has.ext h4 k,h5⟩,h6⟩
theorem kj.fs {w':World} {s:az} (h:kj w B b g N bt bM cu cg keep v T) (o:Only (b::g.list) w w') (k:PS w' B b g s):kj w' B b g N bt bM cu cg keep v {T with s:=s}:=by
 have ho:=h.own;obtain ⟨h1,h2,h3,⟨es,cl,h4,h5⟩,h6,h7,h8,h9⟩:=h;have nb:∀x,N<=x->x∉b::g.list:=fun x hx hm=>by have:=h9 x hm;omega
 exact ⟨k,o.has h2 (nb _ h7),h3.only o (fun x hx=>nb _ (ho x hx).1),⟨es,cl,o.has h4 (nb _ h8),h5⟩,h6,h7,h8,h9⟩
theorem sE {w':World} (o:Only (b::g.list) w w'):Only (yM b g bt bM v) w w':=o.mono fun x hx=>by
 unfold yM;rcases List.mem_cons.1 hx with rfl|hx
 ·exact List.mem_cons_self ..
 ·exact List.mem_cons_of_mem _ (List.mem_append_left _ hx)
theorem oY.ext {w':World} {E:Int} (h:kj w B b g N bt bM cu cg keep v T) (k:Ext w w'):oY w B b g N bt bM cu cg keep v T E (.returned (.int .i64 E)) w':=⟨rfl,v,h.ext k,Only.av k,fun _ hx=>.inl hx⟩
theorem oY.fs {w':World} {s:az} {E:Int} (h:kj w B b g N bt bM cu cg keep v T) (o:Only (b::g.list) w w') (k:PS w' B b g s):oY w B b g N bt bM cu cg keep v {T with s:=s} E (.returned (.int .i64 E)) w':=⟨rfl,v,h.fs o k,sE o,fun _ hx=>.inl hx⟩
theorem oY.pre {W:World} {E:Int} {e:Ending} {w':World} {T':uH} (k:Ext w W) (h:oY W B b g N bt bM cu cg keep v T' E e w'):oY w B b g N bt bM cu cg keep v T' E e w':=by
 obtain ⟨h1,v',h2,h3,h4⟩:=h;exact ⟨h1,v',h2,Only.pre k h3,fun x hx=>(h4 x hx).imp id fun a=>by have:=k.size;omega⟩
theorem kj.WZ {w':World} {es':Array MapEntry} {BH:Nat} {M':List (Int×Int)} (h:kj w B b g N bt bM cu cg keep v T) (o:Only [bM] w w') (hM:Has w' bM (.map es' BH)) (hI:jN es'.toList M'):kj w' B b g N bt bM cu cg keep v {T with made:=M'}:=by
 have ho:=h.own;have ht:=h.tm;obtain ⟨h1,h2,h3,⟨es,cl,h4,_⟩,h6,h7,h8,h9⟩:=h;have m1:∀y∈[bM],y=bM:=fun y hy=>by simpa using hy
 refine ⟨h1.only o (fun y hy=>?_) (fun y hy hm=>by have:=m1 _ hm;have:=h9 _ hy;omega),o.has h2 (fun hm=>ht (m1 _ hm)),h3.only o (fun x hx hm=>(ho x hx).2.2.2 (m1 _ hm)),⟨es',BH,hM,hI⟩,h6,h7,h8,h9⟩;have:=m1 _ hy;subst this;unfold Has at h4;refine ⟨by omega,?_,?_⟩<;>rintro⟨cs,fr,e⟩<;>rw[h4]at e<;>cases e
theorem kj.W_ {w5:World} {m:ai} {A:Option Addr} {cap gg Bl:Nat} (h:kj w B b g N bt bM cu cg keep (.slice A T.late.length cap) T) (o5:Only (Value.slice A T.late.length cap).ownBlock.toList w w5)
  (hown:w5.ownsRow N 46 10 (.slice (some ⟨gg,0,none⟩) (T.late.length+1) Bl) (T.late.length+1) (yL.cells T.late++gY m)) :
  kj (w5.setCell ⟨bt,5,none⟩ (.slice (some ⟨gg,0,none⟩) (T.late.length+1) Bl)) B b g N bt bM cu cg keep (.slice (some ⟨gg,0,none⟩) (T.late.length+1) Bl) {T with late:=T.late++[m]} /\
   Only (bt::(Value.slice A T.late.length cap).ownBlock.toList) w (w5.setCell ⟨bt,5,none⟩ (.slice (some ⟨gg,0,none⟩) (T.late.length+1) Bl)):=by
 have ho:=h.own;have ht:=h.tm;have YS:=h.1.SZ h.2.1;obtain ⟨h1,h2,h3,⟨es,cl,h4,h5⟩,h6,h7,h8,h9⟩:=h;have mo:∀y∈(Value.slice A T.late.length cap).ownBlock.toList,N<=y/\y<w.heap.size/\y≠bt/\y≠bM:=fun y hy=>ho y (Option.mem_toList.1 hy)
 have T5:=o5.has h2 (fun hm=>(mo _ hm).2.2.1 rfl);have o6:Only (bt::(Value.slice A T.late.length cap).ownBlock.toList) w (w5.setCell ⟨bt,5,none⟩ (.slice (some ⟨gg,0,none⟩) (T.late.length+1) Bl)):=(o5.mono (fun y hy=>List.mem_cons_of_mem _ hy)).then ((Only.setCell w5 bt 5 _).mono (fun y hy=>by rw[List.mem_singleton]at hy;subst hy;exact List.mem_cons_self ..));have hgb:gg≠bt:=fun e=>ez hown T5 (by decide) (by rw[e];rfl)
 have hf:=h3.cR h6 (by decide) (by decide);refine ⟨⟨h1.only o6 (fun y hy=>?_) (fun y hy hm=>?_),Has.setCell T5 5 _,?_,⟨es,cl,o6.has h4 (fun hm=>?_),h5⟩,h6,h7,h8,h9⟩,o6⟩
 ·rcases List.mem_cons.1 hy with rfl|hy
  ·unfold SY Has at h2
   refine ⟨by omega,?_,?_⟩<;>rintro⟨cs,fr,e⟩<;>rw[h2]at e<;>cases e
  ·exact hf y hy
 ·rcases List.mem_cons.1 hm with rfl|hm
  ·exact YS hy
  ·have:=(mo _ hm).1;have:=h9 _ hy;omega
 ·have:=au hown (Only.setCell w5 bt 5 (.slice (some ⟨gg,0,none⟩) (T.late.length+1) Bl)) (fun x hx=>by simp[Value.ownBlock]at hx;subst hx;simpa using hgb)
  show World.ownsRow _ _ _ _ _ (T.late++[m]).length (yL.cells (T.late++[m]));rw [List.length_append,yL.gE];have e:yL.cells [m]=gY m:=by unfold RowK.cells;simp;rfl
  rw [e];exact this
 ·rcases List.mem_cons.1 hm with hm|hm
  ·exact ht hm.symm
  ·exact (mo _ hm).2.2.2 rfl
theorem LS {x:ak} {dir:Int} {nm:List UInt8} (h:dH T.s (cC T.s.t x.no)≠0):jh keep cu cg T x dir nm=(T,dH T.s (cC T.s.t x.no)):=by unfold jh;rw[if_pos h]
theorem LU {x:ak} {dir:Int} {nm:List UInt8} (h:dH T.s (cC T.s.t x.no)=0) (h2:aI T.made x.no≠0):jh keep cu cg T x dir nm=({T with s:=jq T.s cu cg (.link (aI T.made x.no) dir nm)},kW T.s cu cg (.link (aI T.made x.no) dir nm)):=by
 unfold jh;rw[if_neg (fun k=>k h),if_pos h2]
theorem LV {x:ak} {dir:Int} {nm:List UInt8} (h:dH T.s (cC T.s.t x.no)=0) (h2:aI T.made x.no=0) (h3:yH T.s cu cg (ac T.s.t.nodes x.no) x.no≠0):jh keep cu cg T x dir nm=(T,yH T.s cu cg (ac T.s.t.nodes x.no) x.no):=by
 unfold jh;rw[if_neg (fun k=>k h),if_neg (fun k=>k h2),if_pos h3]
theorem OW {x:ak} {dir:Int} {nm:List UInt8} (h:dH T.s (cC T.s.t x.no)=0) (h2:aI T.made x.no=0) (h3:yH T.s cu cg (ac T.s.t.nodes x.no) x.no=0) (h4:kW T.s cu cg (d_ T cu cg x dir nm)≠0) :
  jh keep cu cg T x dir nm=({T with s:=jq T.s cu cg (d_ T cu cg x dir nm)},kW T.s cu cg (d_ T cu cg x dir nm)):=by
 unfold jh;rw[if_neg (fun k=>k h),if_neg (fun k=>k h2),if_neg (fun k=>k h3),if_pos h4]
theorem OX {x:ak} {dir:Int} {nm:List UInt8} (h:dH T.s (cC T.s.t x.no)=0) (h2:aI T.made x.no=0) (h3:yH T.s cu cg (ac T.s.t.nodes x.no) x.no=0) (h4:kW T.s cu cg (d_ T cu cg x dir nm)=0) (h5:(ac T.s.t.nodes x.no).kind=1) :
  jh keep cu cg T x dir nm=(⟨jq T.s cu cg (d_ T cu cg x dir nm),T.made++[(x.no,ow T.s cu cg (d_ T cu cg x dir nm))],T.late++[ac T.s.t.nodes x.no]⟩,0):=by
 unfold jh;rw[if_neg (fun k=>k h),if_neg (fun k=>k h2),if_neg (fun k=>k h3),if_neg (fun k=>k h4),if_pos h5]
theorem LW {x:ak} {dir:Int} {nm:List UInt8} (h:dH T.s (cC T.s.t x.no)=0) (h2:aI T.made x.no=0) (h3:yH T.s cu cg (ac T.s.t.nodes x.no) x.no=0) (h4:kW T.s cu cg (d_ T cu cg x dir nm)=0) (h5:¬(ac T.s.t.nodes x.no).kind=1) :
  jh keep cu cg T x dir nm=(⟨(fl cu cg (jq T.s cu cg (d_ T cu cg x dir nm)) (ml keep cu cg (ow T.s cu cg (d_ T cu cg x dir nm)) (ac T.s.t.nodes x.no))).1,T.made++[(x.no,ow T.s cu cg (d_ T cu cg x dir nm))],T.late⟩,
   (fl cu cg (jq T.s cu cg (d_ T cu cg x dir nm)) (ml keep cu cg (ow T.s cu cg (d_ T cu cg x dir nm)) (ac T.s.t.nodes x.no))).2):=by
 unfold jh;rw[if_neg (fun k=>k h),if_neg (fun k=>k h2),if_neg (fun k=>k h3),if_neg (fun k=>k h4),if_neg h5]
theorem OY {c:Nat} {S:aa} (h:dC c S) (no:Int):(ac S.nodes no).data.length<=1048576:=by
 cases hi:aK S.nodes no
 ·rw[(aZ hi).1];exact Nat.zero_le _
 ·exact (h.on _ (aj hi).2.2).2
theorem Bp {c:Nat} {s:az} (h:dC c s.t) (cu cg no k w:Int):(nP s (aT s.t cu cg no k w).data).length<=1000000000:=by
 unfold nP aT;split
 ·exact Nat.zero_le _
 ·split
  ·exact Nat.le_trans (OY h no) (by decide)
  ·exact Nat.zero_le _
def ER (V:World) (B b:Nat) (g:bJ) (s1:az):Nat->World->Prop:=ph2 (fun w'=>Ext V w') (fun w'=>PS w' B b g s1/\Only (b::g.list) V w') (fun w'=>PS w' B b g s1/\Only (b::g.list) V w')
theorem nH {V:World} {s1:az} {x:Nat} {cs:Array Value} {t:TypeId} (h:Has V x (.cells cs t)) (hn:x∉b::g.list):∀u:Hp (ER V B b g s1),Has u.w x (.cells cs t):=
 NN (T:=fun w'=>Has w' x (.cells cs t)) (fun _ k=>Has.ext h k) (fun _ k=>k.2.has h hn) (fun _ k=>k.2.has h hn)
def Xa (T:uH) (cu cg:Int) (keep:Bool) (x:ak) (m:ai) (R:uH×Int) (n e:Int) (s1:az):Prop:=
 (e≠0->R=({T with s:=s1},e))/\(e=0->s1.dead=false/\n≠0/\(m.kind=1->R=(⟨s1,T.made++[(x.no,n)],T.late++[m]⟩,0))/\(¬m.kind=1->R=(⟨(fl cu cg s1 (ml keep cu cg n m)).1,T.made++[(x.no,n)],T.late⟩,(fl cu cg s1 (ml keep cu cg n m)).2)))
theorem Bq {x:ak} {dir:Int} {nm:List UInt8} {n:Int} (h:dH T.s (cC T.s.t x.no)=0) (h2:aI T.made x.no=0) (h3:yH T.s cu cg (ac T.s.t.nodes x.no) x.no≠0) :
  Xa T cu cg keep x (ac T.s.t.nodes x.no) (jh keep cu cg T x dir nm) n (yH T.s cu cg (ac T.s.t.nodes x.no) x.no) T.s:=⟨fun _=>LV h h2 h3,fun k=>absurd k h3⟩
theorem uM {c:Nat} (hp:Pl c T.s) {x:ak} {dir:Int} {nm:List UInt8} (h:dH T.s (cC T.s.t x.no)=0) (h2:aI T.made x.no=0) (h3:yH T.s cu cg (ac T.s.t.nodes x.no) x.no=0) :
  Xa T cu cg keep x (ac T.s.t.nodes x.no) (jh keep cu cg T x dir nm) (ow T.s cu cg (d_ T cu cg x dir nm)) (kW T.s cu cg (d_ T cu cg x dir nm)) (jq T.s cu cg (d_ T cu cg x dir nm)):=
 ⟨fun k=>OW h h2 h3 k,fun k=>⟨(gF k).2,by
  have h1:ow T.s cu cg (d_ T cu cg x dir nm)=T.s.t.last+1:=(yJ k).1;have:=hp.ee.eD.last;omega,fun k5=>OX h h2 h3 k k5,fun k5=>LW h h2 h3 k k5⟩⟩
theorem kj.Xb {c:Nat} (h:kj w B b g N bt bM cu cg keep v T) (hp:Pl c T.s) (hc:c+4<=900) (hz:∀p∈T.made,p.2≠0) (hl:T.late.length<=1000) (x:ak) (dir:Int) (nm:List UInt8) :
    Calls Tryz.prog 31 #[.pointer (some ⟨bt,0,none⟩),.agg #[.int .i64 x.dir,bs x.name,x.no,.int .i64 x.depth],.int .i64 dir,bs nm] w (oY w B b g N bt bM cu cg keep v (jh keep cu cg T x dir nm).1 (jh keep cu cg T x dir nm).2):=by
  obtain ⟨W0,aY⟩:∃W,W=w.alloc (.cells #[.int .i64 x.dir,bs x.name,x.no,.int .i64 x.depth] 50):=⟨_,rfl⟩
  obtain ⟨b5,kF⟩:∃b,b=w.heap.size:=⟨_,rfl⟩
  have E0:Ext w W0:=by rw[aY];exact (Ext.refl _).alloc _
  have X0:Has W0 b5 (.cells #[.int .i64 x.dir,bs x.name,x.no,.int .i64 x.depth] 50):=by rw[aY,kF];exact Has.new _ _
  have hwN:N<=w.heap.size:=by have:=Has.lt h.2.1;have:=h.2.2.2.2.2.1;omega
  obtain⟨R,hR⟩:=aq (jh keep cu cg T x dir nm)
  obtain ⟨e0,JO⟩:∃e,e=dH T.s (cC T.s.t x.no):=⟨_,rfl⟩
  obtain⟨m,hm⟩:=aq (ue T.s (ac T.s.t.nodes x.no))
  have H0:=h.ext E0
  have KS:Hid (∀u,Ext W0 u->Calls Tryz.prog 12 #[.pointer (some ⟨b,0,none⟩),x.no] u (aH u (.tuple #[fG m,.int .i64 e0]))):=by
    show ∀_,_
    intro u hu
    rw [hm,JO]
    exact (H0.1.ext hu).stat hp.ig x.no
  have N0:Hid (e0≠0->R=(T,e0)):=fun k=>by rw[hR,JO];exact LS (by rw[<-JO];exact k)
  have D0:Hid (e0=0->T.s.dead=false/\m=ac T.s.t.nodes x.no):=fun k=>by
    rcases eS T.s x.no with⟨_,h2,_⟩|⟨h2,_⟩
    · exact⟨h2,by rw[hm];unfold ue;rw[if_neg (by rw[h2];decide)]⟩
    · exact absurd (JO.symm.trans k) h2
  rw [<-hR]
  have HR:=zH hR
  have HE:=zH JO
  have HH:=zH h
  have HH0:=zH H0
  have sA:=zH X0
  have ja:=zH E0
  have HP:=zH hp
  have OT:Hid (b5∉b::g.list):=fun hm=>by have:=h.1.lt _ hm;omega
  have YP:Hid (∀y,w.heap.size<=y->y∉b::g.list):=fun y hy hm=>by have:=h.1.lt _ hm;omega
  have u0:∀u:Gr W0,u.w.cell? ⟨bt,0,none⟩=some (.pointer (some ⟨b,0,none⟩)):=Gr.cell (Has.lt H0.2.1) (Has.cell H0.2.1 0)
  have u2:∀u:Gr W0,u.w.cell? ⟨b5,2,none⟩=some (.int .i64 x.no):=Gr.cell X0.lt (X0.cell 2)
  unfold fG at KS
  clear h hp E0 X0 H0 hR JO hm
  go_enter Tryz.func31,Tryz.ntmps31
  go_upto_region 1 with fail
  rw [<-aY,<-kF]
  clear aY kF
  refine uL W0 10 11 9 23 m _ _ (by kernel_rfl) (by kernel_rfl) rfl rfl rfl rfl (by simp) ((Ext.refl _).drew) ?_
  simp only[List.take_succ_cons,List.take_zero,List.drop_succ_cons,List.drop_zero,List.drop_nil]
  repeat (refine di (fun K hK=>?_)
          go_simp
          first
            | (refine hK _ ?_;clear hK K)
            | (apply Exists.intro
               refine ⟨fun u=>?_,hK _ ?_⟩
               first
                 | ((with_reducible refine (KS.out _ u.h).mono ?_);rintro e w'' ⟨rfl,hx⟩;exact⟨rfl,hx⟩)
               clear hK K))
  refine bG ?_
  refine bG ⟨rfl,?_⟩
  refine di (fun K hK=>?_)
  go_simp
  refine hK _ ?_
  clear hK K
  refine bG ?_
  intro W1 b9 E1 sy S1
  simp only[Act.put]
  have H1:=HH0.out.ext E1
  have X1:=sA.out.ext E1
  have qN:=zH H1
  have S6:=zH X1
  have Uf:=zH S1
  have S7:=zH (ja.out.trans E1)
  clear E1 u0 u2 KS S1
  by_cases k0:e0=0
  case neg =>
    have hk:(e0 != 0)=true:=by simpa using k0
    have HN:=zH (N0.out k0)
    clear k0 N0 D0 H1 X1
    go_wp2_with fail
    go_ret
    rw [HN.out]
    exact oY.ext HH.out S7.out
  have hk:(e0 != 0)=false:=by simpa using k0
  obtain ⟨hd,hmm⟩:=D0.out k0
  have HD:=zH hd
  have oo:=zH hmm
  have QA:Hid (dH T.s (cC T.s.t x.no)=0):=by show _=_;rw[<-HE.out];exact k0
  obtain ⟨_,sF,_,⟨es,cl,hM,LX⟩,_⟩:=id H1
  obtain ⟨k1,jI⟩:∃k,k=aI T.made x.no:=⟨_,rfl⟩
  have q1:∀u:Gr W1,(Instr.lookup 94 (.map (some bM)) (.int .i64 x.no) false).run Tryz.prog u.w=.ok (.int .i64 (aI T.made x.no)) u.w:=fun u=>uK (Has.ext hM u.h) LX x.no
  rw [<-jI]at q1
  have Ke:=zH jI
  have t4:∀u:Gr W1,u.w.cell? ⟨bt,4,none⟩=some (.map (some bM)):=Gr.cell (Has.lt sF) (Has.cell sF 4)
  have x2:∀u:Gr W1,u.w.cell? ⟨b5,2,none⟩=some (.int .i64 x.no):=Gr.cell X1.lt (X1.cell 2)
  clear k0 N0 D0 hd hmm hM LX sF jI H1 X1
  go_upto_region 4 with fail
  refine dJ W1 (by kernel_rfl) (by kernel_rfl) (Ext.refl _).drew ?_
  repeat (quiet_step (fail))
  refine wpQuiet_nil ?_
  rintro W2 ⟨⟨W2,E2⟩,h2⟩
  dsimp only at h2
  subst h2
  have qN:=zH (qN.out.ext E2)
  have S6:=zH (S6.out.ext E2)
  have Uf:=zH (Uf.out.ext E2)
  have S7:=zH (S7.out.trans E2)
  clear q1 t4 x2 E2
  go_upto_if 36 with fail
  by_cases kk:k1=0
  case neg =>
    have h36:(k1 != 0)=true:=by simpa using kk
    have K:Hid (∀u,Ext W2 u->Calls Tryz.prog 63 #[.pointer (some ⟨b,0,none⟩),.agg #[cu,cg],.int .i64 k1,.int .i64 dir,bs nm] u (JW u B b g T.s cu cg (.link k1 dir nm))):=by
      show ∀_,_
      intro u hu
      exact (qN.out.1.ext hu).link HP.out.ig (by omega) HD.out cu cg k1 dir nm
    have hR1:R=({T with s:=jq T.s cu cg (.link k1 dir nm)},kW T.s cu cg (.link k1 dir nm)):=by rw[HR.out,Ke.out];exact LU QA.out (by rw[<-Ke.out];exact kk)
    obtain ⟨e1,qf⟩:∃e,e=kW T.s cu cg (.link k1 dir nm):=⟨_,rfl⟩
    obtain ⟨s1,hs1⟩:∃e,e=jq T.s cu cg (.link k1 dir nm):=⟨_,rfl⟩
    unfold JW at K
    rw [<-qf,<-hs1]at K hR1
    have HR1:=zH hR1
    have t0:=Has.cell qN.out.2.1 0
    have t1:=Has.cell qN.out.2.1 1
    have t2:=Has.cell qN.out.2.1 2
    have tz:=Has.lt qN.out.2.1
    simp only[gA,gB,gC]at t0 t1 t2
    clear kk qf hs1 hR1
    go_upto_region 6 with fail
    go_still_tail 11,(by kernel_rfl)
    change wpList _ _ _ _ _ W2.drew
    go_wp2_with fail
    have ED:Ext W2 W2.drew:=(Ext.refl _).drew
    refine (K.out _ ED).mono ?_
    rintro e w2 ⟨rfl,P2,O2⟩
    have O2:=(Only.av (L:=b::g.list) ED).then O2
    clear t0 t1 t2 tz ED K
    go_wp2_with fail
    go_ret
    rw [HR1.out]
    exact oY.pre S7.out (oY.fs qN.out O2 P2)
  have h36:(k1 != 0)=false:=by simpa using kk
  have MR:Hid (aI T.made x.no=0):=by show _=_;rw[<-Ke.out];exact kk
  have s2:=Uf.out.cell 2
  have sz:=Uf.out.lt
  simp only[gY,gA,gB,gC]at s2
  clear kk
  go_upto_block 0 with fail
  clear s2 sz
  go_cut [12,10] (fun vn ve wc=>∃(n e:Int) (s1:az),vn=.int .i64 n/\ve=.int .i64 e/\PS wc B b g s1/\Pl (c+1) s1/\Xa T cu cg keep x m R n e s1/\Only (b::g.list) W2 wc)
  case first =>
    have BS:=zH qN.out.2.1
    unfold SY at BS
    have HSB:=zH (show Has W2 b9 (.cells #[m.no,m.dev,m.kind,m.mode,m.uid,m.gid,m.ah,.int .i64 m.data.length,m.mtime,m.ctime] 46) from Uf.out)
    have LR:=zH (qN.out.1.SZ qN.out.2.1)
    have HNS:Hid (b9∉b::g.list):=fun hm=>by have:=HH0.out.1.lt _ hm;have:=sy;omega
    by_cases kd:m.kind=1
    · have h78:(m.kind == 1)=true:=by simpa using kd
      have hS:d_ T cu cg x dir nm=.bB dir nm 448:=by unfold d_ yI;rw[if_pos (oo.out▸kd)]
      have mr:yH T.s cu cg (ac T.s.t.nodes x.no) x.no=0:=by unfold yH;rw[if_pos (oo.out▸kd)]
      have hQ:=uM (keep:=keep) (dir:=dir) (nm:=nm) HP.out QA.out MR.out mr
      rw [hS,<-oo.out,<-HR.out]at hQ
      have K:Hid (∀u,Ext W2 u->Calls Tryz.prog 64 #[.pointer (some ⟨b,0,none⟩),.agg #[cu,cg],.int .i64 dir,bs nm,.int .i64 448] u (Mz u B b g T.s cu cg (.bB dir nm 448))):=by
        show ∀_,_
        intro u hu
        exact (qN.out.1.ext hu).bB HP.out.ig (by omega) HD.out cu cg dir nm 448
      have QB:=HP.out.kp cu cg (.bB dir nm 448) (fun _ _ _ _ e=>by cases e)
      unfold Mz at K
      generalize ow T.s cu cg (.bB dir nm 448)=n1 at *
      generalize kW T.s cu cg (.bB dir nm 448)=e1 at *
      generalize jq T.s cu cg (.bB dir nm 448)=s1 at *
      have HQ:=zH hQ
      have sx:=zH QB
      clear kd hS mr hQ QB
      obtain⟨Ph,lh⟩:=aq (ER W2 B b g s1)
      have HV:Hid (Ph 0 W2.drew):=by show Ph 0 _;rw[lh];exact (Ext.refl W2).drew
      have hne:Nonempty (Hp Ph):=⟨⟨0,_,HV.out⟩⟩
      have uT:∀u:Hp Ph,Has u.w bt (.cells #[.pointer (some ⟨b,0,none⟩),cu,cg,.bool keep,.map (some bM),v] 97):=by rw[lh];exact nH BS.out LR.out
      have u0:∀u:Hp Ph,u.w.cell? ⟨bt,0,none⟩=some (.pointer (some ⟨b,0,none⟩)):=fun u=>Has.cell (uT u) 0
      have u1:∀u:Hp Ph,u.w.cell? ⟨bt,1,none⟩=some (.int .i64 cu):=fun u=>Has.cell (uT u) 1
      have u2:∀u:Hp Ph,u.w.cell? ⟨bt,2,none⟩=some (.int .i64 cg):=fun u=>Has.cell (uT u) 2
      have KQ:Hid (∀w',Ph 1 w'->PS w' B b g s1/\Only (b::g.list) W2 w'):=by show ∀w',_;intro w' hw;rw[lh]at hw;exact hw
      have BR:Hid (∀u:Wc (Ph 0),Calls Tryz.prog 64 #[.pointer (some ⟨b,0,none⟩),.agg #[cu,cg],.int .i64 dir,bs nm,.int .i64 448] u.w (fun e w'=>e=.returned (.tuple #[.int .i64 n1,.int .i64 e1])/\Ph 1 w')):=by
        show ∀u:Wc (Ph 0),_
        rintro ⟨u,hu⟩
        dsimp only
        rw [lh]at hu|-
        exact (K.out u hu).mono fun _ _ hh=>⟨hh.1,hh.2.1,(Only.av hu).then hh.2.2⟩
      clear lh uT K
      go_upto_region 14 with fail
      refine gX Ph [10] (by kernel_rfl) (by kernel_rfl) (by kernel_rfl) HV.out ?_
      repeat (first
        | (refine j9 (by kernel_rfl) (fun K hK=>?_)
           go_simp
           refine hK _ ?_
           clear hK K)
        | (refine dG 0 (by kernel_rfl) rfl (fun K hK=>?_)
           go_simp
           apply Exists.intro
           refine ⟨BR.out,hK _ ?_⟩
           clear hK K))
      refine lW ?_
      intro w5 zu
      obtain ⟨P5,O5⟩:=KQ.out _ zu
      have EN:=zH P5
      have ES:=zH O5
      clear u0 u1 u2 BR HV zu P5 O5 hne KQ
      go_wp2_with fail
      go_meet
      exact ⟨n1,e1,s1,rfl,rfl,EN.out,sx.out,HQ.out,ES.out⟩
    have h78:(m.kind == 1)=false:=by simpa using kd
    by_cases kf:m.kind=2
    · have h94:(m.kind == 2)=true:=by simpa using kf
      have hS:d_ T cu cg x dir nm=.bc dir nm m.mode (nP T.s (aT T.s.t cu cg x.no 2 4).data):=by unfold d_ yI YR;rw[if_neg (oo.out▸kd),if_pos (oo.out▸kf),if_neg (oo.out▸kd),if_pos (oo.out▸kf),oo.out]
      have mr:yH T.s cu cg (ac T.s.t.nodes x.no) x.no=dH T.s (bf T.s.t cu cg x.no 2 4):=by unfold yH;rw[if_neg (oo.out▸kd),if_pos (oo.out▸kf)]
      have KR:Hid (∀u,Ext W2 u->Calls Tryz.prog 65 #[.pointer (some ⟨b,0,none⟩),.agg #[cu,cg],x.no] u (aH u (.tuple #[.string (bs (nP T.s (aT T.s.t cu cg x.no 2 4).data)),.int .i64 (dH T.s (bf T.s.t cu cg x.no 2 4))]))):=by
        show ∀_,_
        intro u hu
        exact (qN.out.1.ext hu).reads HP.out.ig (by omega) cu cg x.no
      have Xc:dH T.s (bf T.s.t cu cg x.no 2 4)≠0->∀n,Xa T cu cg keep x m R n (dH T.s (bf T.s.t cu cg x.no 2 4)) T.s:=fun k n=>by
        have:=Bq (keep:=keep) (cu:=cu) (cg:=cg) (dir:=dir) (nm:=nm) (n:=n) QA.out MR.out (by rw[mr];exact k)
        rw [mr,<-oo.out,<-HR.out]at this
        exact this
      have S8:dH T.s (bf T.s.t cu cg x.no 2 4)=0->_:=fun k=>uM (keep:=keep) (dir:=dir) (nm:=nm) HP.out QA.out MR.out (mr.trans k)
      have kM:=Bp HP.out.ee.eD cu cg x.no 2 4
      rw [hS,<-oo.out,<-HR.out]at S8
      generalize nP T.s (aT T.s.t cu cg x.no 2 4).data=D at *
      generalize dH T.s (bf T.s.t cu cg x.no 2 4)=e2 at *
      have K:Hid (∀u,Ext W2 u->Calls Tryz.prog 66 #[.pointer (some ⟨b,0,none⟩),.agg #[cu,cg],.int .i64 dir,bs nm,m.mode,bs D] u (Mz u B b g T.s cu cg (.bc dir nm m.mode D))):=by
        show ∀_,_
        intro u hu
        exact (qN.out.1.ext hu).bc HP.out.ig (by omega) HD.out cu cg dir nm m.mode D kM
      have QB:=HP.out.kp cu cg (.bc dir nm m.mode D) (fun _ _ _ _ e=>by cases e)
      unfold Mz at K
      generalize ow T.s cu cg (.bc dir nm m.mode D)=n1 at *
      generalize kW T.s cu cg (.bc dir nm m.mode D)=e1 at *
      generalize jq T.s cu cg (.bc dir nm m.mode D)=s1 at *
      have Xd:=zH Xc
      have QC:=zH S8
      have sx:=zH QB
      clear kd kf hS mr Xc S8 QB kM
      have r0:∀u:Gr W2,u.w.cell? ⟨bt,0,none⟩=some (.pointer (some ⟨b,0,none⟩)):=Gr.cell (Has.lt BS.out) (Has.cell BS.out 0)
      have r1:∀u:Gr W2,u.w.cell? ⟨bt,1,none⟩=some (.int .i64 cu):=Gr.cell (Has.lt BS.out) (Has.cell BS.out 1)
      have r2:∀u:Gr W2,u.w.cell? ⟨bt,2,none⟩=some (.int .i64 cg):=Gr.cell (Has.lt BS.out) (Has.cell BS.out 2)
      have r3:∀u:Gr W2,u.w.cell? ⟨b5,2,none⟩=some (.int .i64 x.no):=Gr.cell (Has.lt S6.out) (Has.cell S6.out 2)
      go_upto_region 17 with fail
      refine dJ W2 (by kernel_rfl) (by kernel_rfl) (Ext.refl _).drew ?_
      repeat (quiet_step (((with_reducible refine (KR.out _ (Gr.h _)).mono ?_);rintro e w'' ⟨rfl,J8⟩;exact⟨rfl,⟨w'',Ext.trans (Gr.h _) J8⟩,rfl⟩)))
      refine wpQuiet_nil ?_
      rintro w2 ⟨⟨w2,b2⟩,h2⟩
      dsimp only at h2
      subst h2
      have y_:=zH b2
      clear r0 r1 r2 r3 b2 KR
      by_cases k2:e2=0
      case neg =>
        have aa1:(e2 == 0)=false:=by simpa using k2
        have HQ:=zH (Xd.out k2 0)
        clear k2
        go_wp2_with fail
        go_meet
        exact ⟨0,e2,T.s,rfl,rfl,qN.out.1.ext y_.out,HP.out.mono (by omega),HQ.out,Only.av y_.out⟩
      have aa1:(e2 == 0)=true:=by simpa using k2
      have HQ:=zH (QC.out k2)
      have S_:=zH (Has.ext BS.out y_.out)
      have Xe:=zH (HSB.out.ext y_.out)
      have K2:=zH (fun (u:World) (hu:Ext w2 u)=>K.out u (y_.out.trans hu))
      clear k2 Xd QC K
      obtain⟨Ph,lh⟩:=aq (ER w2 B b g s1)
      have HV:Hid (Ph 0 w2.drew):=by show Ph 0 _;rw[lh];exact (Ext.refl w2).drew
      have hne:Nonempty (Hp Ph):=⟨⟨0,_,HV.out⟩⟩
      have uT:∀u:Hp Ph,Has u.w bt (.cells #[.pointer (some ⟨b,0,none⟩),cu,cg,.bool keep,.map (some bM),v] 97):=by rw[lh];exact nH S_.out LR.out
      have u0:∀u:Hp Ph,u.w.cell? ⟨bt,0,none⟩=some (.pointer (some ⟨b,0,none⟩)):=fun u=>Has.cell (uT u) 0
      have u1:∀u:Hp Ph,u.w.cell? ⟨bt,1,none⟩=some (.int .i64 cu):=fun u=>Has.cell (uT u) 1
      have u2:∀u:Hp Ph,u.w.cell? ⟨bt,2,none⟩=some (.int .i64 cg):=fun u=>Has.cell (uT u) 2
      have uS:∀u:Hp Ph,Has u.w b9 (.cells #[m.no,m.dev,m.kind,m.mode,m.uid,m.gid,m.ah,.int .i64 m.data.length,m.mtime,m.ctime] 46):=by rw[lh];exact nH Xe.out HNS.out
      have u3:∀u:Hp Ph,u.w.cell? ⟨b9,3,none⟩=some (.int .i64 m.mode):=fun u=>Has.cell (uS u) 3
      have KQ:Hid (∀w',Ph 1 w'->PS w' B b g s1/\Only (b::g.list) w2 w'):=by show ∀w',_;intro w' hw;rw[lh]at hw;exact hw
      have BR:Hid (∀u:Wc (Ph 0),Calls Tryz.prog 66 #[.pointer (some ⟨b,0,none⟩),.agg #[cu,cg],.int .i64 dir,bs nm,m.mode,bs D] u.w (fun e w'=>e=.returned (.tuple #[.int .i64 n1,.int .i64 e1])/\Ph 1 w')):=by
        show ∀u:Wc (Ph 0),_
        rintro ⟨u,hu⟩
        dsimp only
        rw [lh]at hu|-
        exact (K2.out u hu).mono fun _ _ hh=>⟨hh.1,hh.2.1,(Only.av hu).then hh.2.2⟩
      clear lh uT uS K2
      go_upto_region 19 with fail
      refine gX Ph [13] (by kernel_rfl) (by kernel_rfl) (by kernel_rfl) HV.out ?_
      repeat (first
        | (refine j9 (by kernel_rfl) (fun K hK=>?_)
           go_simp
           refine hK _ ?_
           clear hK K)
        | (refine dG 0 (by kernel_rfl) rfl (fun K hK=>?_)
           go_simp
           apply Exists.intro
           refine ⟨BR.out,hK _ ?_⟩
           clear hK K))
      refine lW ?_
      intro w5 zu
      obtain ⟨P5,O5⟩:=KQ.out _ zu
      have EN:=zH P5
      have ES:=zH O5
      clear u0 u1 u2 u3 BR HV zu P5 O5 hne KQ
      go_wp2_with fail
      go_meet
      exact ⟨n1,e1,s1,rfl,rfl,EN.out,sx.out,HQ.out,Only.pre y_.out ES.out⟩
    · have h94:(m.kind == 2)=false:=by simpa using kf
      have hS:d_ T cu cg x dir nm=.symlink dir nm (nP T.s (aT T.s.t 0 0 x.no 3 0).data):=by unfold d_ yI YR;rw[if_neg (oo.out▸kd),if_neg (oo.out▸kf),if_neg (oo.out▸kd),if_neg (oo.out▸kf)]
      have mr:yH T.s cu cg (ac T.s.t.nodes x.no) x.no=dH T.s (bf T.s.t 0 0 x.no 3 0):=by unfold yH;rw[if_neg (oo.out▸kd),if_neg (oo.out▸kf)]
      have KR:Hid (∀u,Ext W2 u->Calls Tryz.prog 67 #[.pointer (some ⟨b,0,none⟩),x.no] u (aH u (.tuple #[.string (bs (nP T.s (aT T.s.t 0 0 x.no 3 0).data)),.int .i64 (dH T.s (bf T.s.t 0 0 x.no 3 0))]))):=by
        show ∀_,_
        intro u hu
        exact (qN.out.1.ext hu).target HP.out.ig (by omega) x.no
      have Xc:dH T.s (bf T.s.t 0 0 x.no 3 0)≠0->∀n,Xa T cu cg keep x m R n (dH T.s (bf T.s.t 0 0 x.no 3 0)) T.s:=fun k n=>by
        have:=Bq (keep:=keep) (cu:=cu) (cg:=cg) (dir:=dir) (nm:=nm) (n:=n) QA.out MR.out (by rw[mr];exact k)
        rw [mr,<-oo.out,<-HR.out]at this
        exact this
      have S8:dH T.s (bf T.s.t 0 0 x.no 3 0)=0->_:=fun k=>uM (keep:=keep) (dir:=dir) (nm:=nm) HP.out QA.out MR.out (mr.trans k)
      have kM:=Bp HP.out.ee.eD 0 0 x.no 3 0
      rw [hS,<-oo.out,<-HR.out]at S8
      generalize nP T.s (aT T.s.t 0 0 x.no 3 0).data=D at *
      generalize dH T.s (bf T.s.t 0 0 x.no 3 0)=e2 at *
      have K:Hid (∀u,Ext W2 u->Calls Tryz.prog 68 #[.pointer (some ⟨b,0,none⟩),.agg #[cu,cg],.int .i64 dir,bs nm,bs D] u (Mz u B b g T.s cu cg (.symlink dir nm D))):=by
        show ∀_,_
        intro u hu
        exact (qN.out.1.ext hu).symlink HP.out.ig (by omega) HD.out cu cg dir nm D kM
      have QB:=HP.out.kp cu cg (.symlink dir nm D) (fun _ _ _ _ e=>by cases e)
      unfold Mz at K
      generalize ow T.s cu cg (.symlink dir nm D)=n1 at *
      generalize kW T.s cu cg (.symlink dir nm D)=e1 at *
      generalize jq T.s cu cg (.symlink dir nm D)=s1 at *
      have Xd:=zH Xc
      have QC:=zH S8
      have sx:=zH QB
      clear kd kf hS mr Xc S8 QB kM
      have r0:∀u:Gr W2,u.w.cell? ⟨bt,0,none⟩=some (.pointer (some ⟨b,0,none⟩)):=Gr.cell (Has.lt BS.out) (Has.cell BS.out 0)
      have r1:∀u:Gr W2,u.w.cell? ⟨bt,1,none⟩=some (.int .i64 cu):=Gr.cell (Has.lt BS.out) (Has.cell BS.out 1)
      have r2:∀u:Gr W2,u.w.cell? ⟨bt,2,none⟩=some (.int .i64 cg):=Gr.cell (Has.lt BS.out) (Has.cell BS.out 2)
      have r3:∀u:Gr W2,u.w.cell? ⟨b5,2,none⟩=some (.int .i64 x.no):=Gr.cell (Has.lt S6.out) (Has.cell S6.out 2)
      go_upto_region 10 with fail
      refine dJ W2 (by kernel_rfl) (by kernel_rfl) (Ext.refl _).drew ?_
      repeat (quiet_step (((with_reducible refine (KR.out _ (Gr.h _)).mono ?_);rintro e w'' ⟨rfl,J8⟩;exact⟨rfl,⟨w'',Ext.trans (Gr.h _) J8⟩,rfl⟩)))
      refine wpQuiet_nil ?_
      rintro w2 ⟨⟨w2,b2⟩,h2⟩
      dsimp only at h2
      subst h2
      have y_:=zH b2
      clear r0 r1 r2 r3 b2 KR
      by_cases k2:e2=0
      case neg =>
        have h62:(e2 == 0)=false:=by simpa using k2
        have HQ:=zH (Xd.out k2 0)
        clear k2
        go_wp2_with fail
        go_meet
        exact ⟨0,e2,T.s,rfl,rfl,qN.out.1.ext y_.out,HP.out.mono (by omega),HQ.out,Only.av y_.out⟩
      have h62:(e2 == 0)=true:=by simpa using k2
      have HQ:=zH (QC.out k2)
      have S_:=zH (Has.ext BS.out y_.out)
      have Xe:=zH (HSB.out.ext y_.out)
      have K2:=zH (fun (u:World) (hu:Ext w2 u)=>K.out u (y_.out.trans hu))
      clear k2 Xd QC K
      obtain⟨Ph,lh⟩:=aq (ER w2 B b g s1)
      have HV:Hid (Ph 0 w2.drew):=by show Ph 0 _;rw[lh];exact (Ext.refl w2).drew
      have hne:Nonempty (Hp Ph):=⟨⟨0,_,HV.out⟩⟩
      have uT:∀u:Hp Ph,Has u.w bt (.cells #[.pointer (some ⟨b,0,none⟩),cu,cg,.bool keep,.map (some bM),v] 97):=by rw[lh];exact nH S_.out LR.out
      have u0:∀u:Hp Ph,u.w.cell? ⟨bt,0,none⟩=some (.pointer (some ⟨b,0,none⟩)):=fun u=>Has.cell (uT u) 0
      have u1:∀u:Hp Ph,u.w.cell? ⟨bt,1,none⟩=some (.int .i64 cu):=fun u=>Has.cell (uT u) 1
      have u2:∀u:Hp Ph,u.w.cell? ⟨bt,2,none⟩=some (.int .i64 cg):=fun u=>Has.cell (uT u) 2
      have KQ:Hid (∀w',Ph 1 w'->PS w' B b g s1/\Only (b::g.list) w2 w'):=by show ∀w',_;intro w' hw;rw[lh]at hw;exact hw
      have BR:Hid (∀u:Wc (Ph 0),Calls Tryz.prog 68 #[.pointer (some ⟨b,0,none⟩),.agg #[cu,cg],.int .i64 dir,bs nm,bs D] u.w (fun e w'=>e=.returned (.tuple #[.int .i64 n1,.int .i64 e1])/\Ph 1 w')):=by
        show ∀u:Wc (Ph 0),_
        rintro ⟨u,hu⟩
        dsimp only
        rw [lh]at hu|-
        exact (K2.out u hu).mono fun _ _ hh=>⟨hh.1,hh.2.1,(Only.av hu).then hh.2.2⟩
      clear lh uT K2
      go_upto_region 12 with fail
      refine gX Ph [11] (by kernel_rfl) (by kernel_rfl) (by kernel_rfl) HV.out ?_
      repeat (first
        | (refine j9 (by kernel_rfl) (fun K hK=>?_)
           go_simp
           refine hK _ ?_
           clear hK K)
        | (refine dG 0 (by kernel_rfl) rfl (fun K hK=>?_)
           go_simp
           apply Exists.intro
           refine ⟨BR.out,hK _ ?_⟩
           clear hK K))
      refine lW ?_
      intro w5 zu
      obtain ⟨P5,O5⟩:=KQ.out _ zu
      have EN:=zH P5
      have ES:=zH O5
      clear u0 u1 u2 BR HV zu P5 O5 hne KQ
      go_wp2_with fail
      go_meet
      exact ⟨n1,e1,s1,rfl,rfl,EN.out,sx.out,HQ.out,Only.pre y_.out ES.out⟩
  case rest =>
  obtain ⟨n,e,s1,rfl,rfl,P2,p2,Q2,O2⟩:=hcut
  obtain ⟨w3,WY⟩:∃w1,w1=wc:=⟨_,rfl⟩
  rw [<-WY]at P2 O2|-
  have H3:=qN.out.fs O2 P2
  have HH3:=zH H3
  have Qm:=zH (O2.has S6.out OT.out)
  have HS3:=zH (O2.has Uf.out (YP.out _ (by have:=sy;have:=ja.out.size;omega)))
  have vq:=zH O2
  have yA:=zH P2
  have HPl:=zH p2
  have QC:=zH Q2
  clear WY P2 p2 Q2 O2 H3
  by_cases ke:e=0
  case neg =>
    have aa2:(e != 0)=true:=by simpa using ke
    have hr:=QC.out.1 ke
    have tI:=zH hr
    clear ke hr
    go_wp2_with fail
    go_ret
    rw [tI.out]
    exact oY.pre S7.out (oY.fs qN.out vq.out yA.out)
  have aa2:(e != 0)=false:=by simpa using ke
  obtain ⟨d1,n1,Q3,Q4⟩:=QC.out.2 ke
  have HD1:=zH d1
  have HQ3:=zH Q3
  have HQ4:=zH Q4
  obtain ⟨_,sF,_,⟨es,cl,hM,LX⟩,_⟩:=id HH3.out
  obtain ⟨es',BH,Jc,LY⟩:=run_make (Has.ext hM (Ext.refl w3).drew) LX MR.out hz n
  have t4:=Has.cell sF 4
  have tz:=Has.lt sF
  have x2:=Qm.out.cell 2
  have xz:=Qm.out.lt
  simp only[gA,gB,gC]at t4 x2
  obtain ⟨W4,fO⟩:∃W,W=jj w3.drew bM (.map es' BH):=⟨_,rfl⟩
  rw [<-fO]at Jc
  have O4:Only [bM] w3 W4:=(Only.av (L:=[bM]) (Ext.refl _).drew).then (by rw[fO];exact Only.jj _ _ _)
  have M4:Has W4 bM (.map es' BH):=by rw[fO];exact Has.jj _ (by have:=Has.lt (Has.ext hM (Ext.refl w3).drew);exact this)
  have H4:=HH3.out.WZ O4 M4 LY
  have MY:=zH H4
  have HS4:=zH (O4.has HS3.out (fun hm=>by have:=fw HS3.out hM;rw[List.mem_singleton]at hm;exact this hm))
  have MZ:=zH O4
  clear ke d1 n1 Q3 Q4 sF hM LX LY fO O4 M4 H4
  go_upto_region 22 with fail
  go_still_tail 7,(by kernel_rfl)
  change wpList _ _ _ _ _ w3.drew
  go_upto_region 23 with fail
  have uN:=zH (show Has W4 b9 (.cells #[m.no,m.dev,m.kind,m.mode,m.uid,m.gid,m.ah,.int .i64 m.data.length,m.mtime,m.ctime] 46) from HS4.out)
  have s0:=uN.out.cell 0
  have s1':=uN.out.cell 1
  have s2:=uN.out.cell 2
  have s3:=uN.out.cell 3
  have s4:=uN.out.cell 4
  have s5:=uN.out.cell 5
  have s6:=uN.out.cell 6
  have s7:=uN.out.cell 7
  have s8:=uN.out.cell 8
  have s9:=uN.out.cell 9
  have sz:=uN.out.lt
  simp only[gA,gB,gC]at s0 s1' s2 s3 s4 s5 s6 s7 s8 s9
  clear t4 tz x2 xz Jc HS4
  by_cases kd:m.kind=1
  case neg =>
    have aa3:(m.kind == 1)=false:=by simpa using kd
    have hr:=HQ4.out kd
    have K:=zH (MY.out.1.EP HPl.out (by omega) HD1.out MY.out.2.1 n m)
    have tI:=zH hr
    unfold fG at K
    clear kd hr
    go_wp2_with fail
    refine K.out.mono ?_
    rintro e w5 ⟨rfl,P5,O5⟩
    have EN:=zH P5
    have ES:=zH O5
    clear P5 O5 K s0 s1' s2 s3 s4 s5 s6 s7 s8 s9 sz
    go_wp2_with fail
    go_ret
    rw [tI.out]
    refine oY.pre S7.out ⟨rfl,v,MY.out.fs ES.out EN.out,?_,fun x hx=>.inl hx⟩
    refine ((sE vq.out).then (MZ.out.mono (fun y hy=>?_))).then (sE ES.out)
    rw [List.mem_singleton]at hy
    subst hy
    unfold yM
    simp
  have aa3:(m.kind == 1)=true:=by simpa using kd
  have tI:=zH (HQ3.out kd)
  obtain ⟨A,cap,hv,hcap,hcm,_,_⟩:=bZ.at_ MY.out.2.2.1
  subst hv
  have Ug:W4.ownsRow N 46 10 (.slice A T.late.length cap) T.late.length (yL.cells T.late):=MY.out.2.2.1
  obtain ⟨i0,hi,hz0,hz1,hz2⟩:=info_parts yL.info
  have sF:Has W4 bt (.cells #[.pointer (some ⟨b,0,none⟩),cu,cg,.bool keep,.map (some bM),.slice A T.late.length cap] 97):=MY.out.2.1
  have Xf:=zH sF
  have HOG:=zH Ug
  have t5:=sF.cell 5
  have f5:W4.frozen? ⟨bt,5,none⟩=false:=sF.free 5
  have tz:=sF.lt
  simp only[gA,gB,gC]at t5
  have Ec:(Value.slice A T.late.length cap).ownBlock≠some bt:=ez Ug sF (by decide)
  have HAG:=zH Ec
  have hNW:N<=W4.heap.size:=by have:=MY.out.2.2.2.2.2.1;omega
  clear kd sF Ec
  go_upto_region 24 with fail
  go_region_law (first|(refine step_append_lies _ (by rfl) _ _ _ (by rfl) N 46 i0 _ 10 80 Tryz.underlying95 hi hz0 hz1 hz2 rfl (by omega) _ T.late.length (yL.cells T.late) (by rfl) ((Ug.alloc _).drew) ⟨W4.heap.size,0,none⟩ 1 1 (gY m) (by rfl) (by rfl) (World.news_of_block (cs:=(gY m).toArray) (t:=46) (fr:=(0,0)) (heap_alloc_new W4 _)) (fun u hu=>yL.one m u hu) (by omega) (by unfold maxLen;omega) (by omega) (by simp;omega) (W4.heap.size+1) (by simp) ?_;intro gg Bl w5 wo hgrow hat hlt;have v5:w5.cell? ⟨bt,5,none⟩=some (.slice A T.late.length cap):=((hgrow.cell_far ⟨bt,5,none⟩ (by simp;omega) (Ne.symm HAG.out)).trans ((Xf.out.alloc _).cell 5));have f5':w5.frozen? ⟨bt,5,none⟩=false:=((hgrow.frozen_far ⟨bt,5,none⟩ (by simp;omega) (Ne.symm HAG.out)).trans ((Xf.out.alloc _).free 5))))
  all_goals
    have o5:Only (Value.slice A T.late.length cap).ownBlock.toList W4 w5:=(Only.av ((Ext.refl _).alloc _ |>.drew)).then (Only.grown hgrow)
    obtain ⟨T6,o6⟩:=kj.W_ (T:=⟨s1,T.made++[(x.no,n)],T.late⟩) (m:=m) MY.out o5 wo
    have HT6:=zH T6
    have GL:=zH o6
    have My:=zH hat
    clear T6 o6 hat wo hgrow v5 f5' o5 t5 f5 tz s0 s1' s2 s3 s4 s5 s6 s7 s8 s9 sz
    go_wp2_with fail
    go_ret
    rw [tI.out]
    refine oY.pre S7.out ⟨rfl,_,HT6.out,?_,fun x hx=>?_⟩
    · refine ((sE vq.out).then (MZ.out.mono (fun y hy=>?_))).then (GL.out.mono (fun y hy=>?_))
      · rw [List.mem_singleton]at hy
        subst hy
        unfold yM
        simp
      · unfold yM
        rcases List.mem_cons.1 hy with rfl|hy
        · simp
        · exact List.mem_cons_of_mem _ (List.mem_append_right _ (List.mem_cons_of_mem _ (List.mem_cons_of_mem _ hy)))
    · have hx:gg=x:=Option.some.inj hx
      subst hx
      rcases My.out with h|h
      · exact .inl h
      · have:=vq.out.size
        have:=MZ.out.size
        exact .inr (by omega)
end
end
open Go.ChangeShapes Go.WideShapes Go.ChangeAt Go.RowKit
def uO (S:aa) (cu cg:Int) (eE:Bool):Nat->Int->List (List UInt8)->Nat->Bool->Option (gI×Int)
 | 0,_,_,_,_=>none
 | _+1,at_,[],_,_=>some (⟨0,[],at_,true⟩,0)
 | n + 1,at_,p::l,h,m =>
  if en S cu cg at_ p≠0 then some (bq,en S cu cg at_ p)
  else if p=[46,46] then uO S cu cg eE n (a_ S at_) l h m
  else if aK S.nodes (bn S at_ p)=false then (if l=[] then some (⟨at_,p,0,m⟩,0) else some (bq,5))
  else if (ac S.nodes (bn S at_ p)).kind=3/\(l≠[]\/m=true\/eE=true) then
   (if 8<h+1 then some (bq,12) else if (ac S.nodes (bn S at_ p)).data=[] then some (bq,5)
    else uO S cu cg eE n (if (ac S.nodes (bn S at_ p)).data.head?=some 47 then 1 else at_) (aX (ac S.nodes (bn S at_ p)).data++l) (h+1) (m || (l.isEmpty&&eJ (ac S.nodes (bn S at_ p)).data)))
  else if (ac S.nodes (bn S at_ p)).kind≠1/\(l≠[]\/m=true) then some (bq,9)
  else if l=[] then some (⟨at_,p,bn S at_ p,m⟩,0)
  else uO S cu cg eE n (bn S at_ p) l h m
theorem p_ {S:aa} {cu cg:Int} {eE:Bool} {r:gI×Int}:∀(n:Nat) (at_:Int) (l:List (List UInt8)) (h:Nat) (m:Bool),uO S cu cg eE n at_ l h m=some r->cL S cu cg eE at_ l h m=r
 | 0,_,_,_,_,k=>by cases k
 | n+1,at_,[],h,m,k=>by rw[pO];unfold uO at k;injection k
 | n + 1, at_, p::l,h,m,k=>by
  unfold uO at k;rw [cL];split at k
  ·rename_i c1;rw[if_pos c1];injection k
  ·rename_i c1
   rw [if_neg c1];split at k
   ·rename_i c2;rw[if_pos c2];exact p_ n _ _ _ _ k
   ·rename_i c2
    rw [if_neg c2];split at k
    ·rename_i c3
     rw [if_pos c3];split at k
     ·rename_i c4;rw[if_pos c4];injection k
     ·rename_i c4;rw[if_neg c4];injection k
    ·rename_i c3
     rw [if_neg c3];split at k
     ·rename_i c4
      rw [if_pos c4];split at k
      ·rename_i c5;rw[dif_pos c5];injection k
      ·rename_i c5
       rw [dif_neg c5];split at k
       ·rename_i c6;rw[if_pos c6];injection k
       ·rename_i c6;rw[if_neg c6];exact p_ n _ _ _ _ k
     ·rename_i c4
      rw [if_neg c4];split at k
      ·rename_i c5;rw[if_pos c5];injection k
      ·rename_i c5
       rw [if_neg c5];split at k
       ·rename_i c6;rw[if_pos c6];injection k
       ·rename_i c6;rw[if_neg c6];exact p_ n _ _ _ _ k
def Xg:rB:=⟨0,[100],1,448,0,0,[],0⟩
def Xh:rB:=⟨0,[108],3,0,0,0,[100,47],0⟩
def Xi:rB:=⟨1,[120],2,0,0,0,[],0⟩
def mP:aa:=NA (firstT 99 99) [Xg,Xh,Xi]
def Br (S:aa) (cu cg:Int) (p:List UInt8) (eE:Bool):Option (gI×Int):=if jR p=0 then uO S cu cg eE 40 1 (aX p) 0 (eJ p) else some (bq,jR p)
theorem uP {S:aa} {cu cg:Int} {p:List UInt8} {eE:Bool} {r:gI×Int} (h:Br S cu cg p eE=some r):dF S cu cg p eE=r:=by
 unfold Br at h;unfold dF;split
 ·rename_i h1;rw[if_pos h1]at h;exact p_ _ _ _ _ _ h
 ·rename_i h1;rw[if_neg h1]at h;injection h
def Ta (S:aa) (m:eF):Option aa:=
 match Br S 0 0 m.path false with
 | none=>none
 | some r=>some (if r.2≠0 then S
  else if r.1.no=0 then (if fA S 0 0 0 (.bB r.1.dir r.1.name 493)=0 then cx (cq S 0 0 0 (.bB r.1.dir r.1.name 493)) (j_ S 0 0 0 (.bB r.1.dir r.1.name 493)) m.b m.n else cq S 0 0 0 (.bB r.1.dir r.1.name 493))
  else cx S r.1.no m.b m.n)
theorem OZ {S T:aa} {m:eF} (h:Ta S m=some T):gK S m=T:=by
 unfold Ta at h;split at h
 ·cases h
 ·rename_i r hr
  injection h with h;have hp:mw S m=r:=uP hr;unfold gK qV;rw [hp];exact h
def Bt (S:aa):List eF->Option aa
 | []=>some S
 | m::l=>if my m=true then Bt S l else match Ta S m with|none=>none|some T=>Bt T l
theorem LZ {S T:aa} {l:List eF} (h:Bt S l=some T):dZ S l=T:=by
 induction l generalizing S with
 | nil=>injection h
 | cons m l ih =>
  unfold Bt at h;unfold dZ;rw [List.foldl_cons];split at h
  ·rename_i h1;rw[if_pos h1];exact ih h
  ·rename_i h1
   rw [if_neg h1];split at h
   ·cases h
   ·rename_i T1 h2;rw[OZ h2];exact ih h
def Tb (S:aa) (it:dN):Option (aa×Int):=
 match Br S 0 0 it.path false,(if it.kind=4 then Br S 0 0 it.data false else some (bq,1)) with
 | some r,some y =>
  let c:Option ia:=if r.2≠0 then none else if r.1.no≠0 then none
   else if it.kind=1 then some (.bB r.1.dir r.1.name 493)
   else if it.kind=2 then some (.bc r.1.dir r.1.name 420 it.data)
   else if it.kind=3 then some (.symlink r.1.dir r.1.name it.data)
   else if it.kind=4 then (if y.2=0 then some (.link y.1.no r.1.dir r.1.name) else none)
   else none
  let T:=match c with|some x=>cq S 0 0 0 x|none=>S
  let n:=match c with|some x=>j_ S 0 0 0 x|none=>if r.2=0/\r.1.no≠0/\it.kind=1/\(ac S.nodes r.1.no).kind=1 then r.1.no else 0
  some (fB T n it,n)
 | _,_=>none
theorem O_ {S:aa} {it:dN} {r:aa×Int} (h:Tb S it=some r):fB (jd S it) (ie S it) it=r.1/\ie S it=r.2:=by
 unfold Tb at h;split at h
 case h_2=>cases h
 rename_i r1 y h1 h2;have hp:ew S it=r1:=uP h1;have hc:gR S it=(if r1.2≠0 then none else if r1.1.no≠0 then none
   else if it.kind=1 then some (.bB r1.1.dir r1.1.name 493)
   else if it.kind=2 then some (.bc r1.1.dir r1.1.name 420 it.data)
   else if it.kind=3 then some (.symlink r1.1.dir r1.1.name it.data)
   else if it.kind=4 then (if y.2=0 then some (.link y.1.no r1.1.dir r1.1.name) else none)
   else none):=by
  unfold gR;rw [hp]
  by_cases h4:it.kind=4
  ·rw [if_pos h4]at h2
   have hl:uo S it=y:=uP h2;rw [hl]
  ·rw[if_neg h4,if_neg h4]
 injection h with h;unfold jd ie;rw [hc,hp,<-h];exact ⟨rfl,rfl⟩
def yN (S:aa) (ns:List Int):List dN->Option (aa×List Int)
 | []=>some (S,ns)
 | it::l=>match Tb S it with|none=>none|some r=>yN r.1 (ns++[r.2]) l
theorem Ha {S:aa} {ns:List Int} {l:List dN} {r:aa×List Int} (h:yN S ns l=some r):dD (S,ns) l=r:=by
 induction l generalizing S ns with
 | nil=>injection h
 | cons it l ih =>
  unfold yN at h;unfold dD;rw [List.foldl_cons];split at h
  ·cases h
  ·rename_i r1 h1
   obtain ⟨k1,k2⟩:=O_ h1;have:rJ (S,ns) it=(r1.1,ns++[r1.2]):=by unfold rJ;rw[k1,k2]
   rw [this];exact ih h
def DE (ms:List eF) (is:List dN):Option aa:=
 match Bt (fM ms) ms with
 | none=>none
 | some T=>match yN T [] is with|none=>none|some r=>some (dS r.1 (r.2.zip is))
theorem Hb {ms:List eF} {is:List dN} {T:aa} (h:DE ms is=some T):fC ms is=T:=by
 unfold DE at h;split at h
 ·cases h
 ·rename_i T1 h1
  split at h
  ·cases h
  ·rename_i r h2
   injection h with h;unfold fC xc;rw [LZ h1,Ha h2,h]
def L0 (S:aa) (cu cg:Int):Nat->List ak->Option (List ak×ak×Int)
 | 0,_=>none
 | _+1,[]=>some ([],jA,0)
 | n+1,x::t=>if gj S cu cg x≠0 then some ([],x,gj S cu cg x) else
  match L0 S cu cg n (gp S cu cg x++t) with|none=>none|some r=>some (x::r.1,r.2)
theorem uQ {S:aa} {cu cg:Int}:∀{n:Nat} {t:List ak} {r:List ak×ak×Int},L0 S cu cg n t=some r->jB S cu cg t r.1 r.2.1 r.2.2
 | 0,_,_,h=>by cases h
 | n+1,[],r,h=>by injection h with h;subst h;exact .nil
 | n + 1,x::t,r,h=>by
  unfold L0 at h;split at h
  ·rename_i h1;injection h with h;subst h;exact .bad h1
  ·rename_i h1
   split at h
   ·cases h
   ·rename_i r1 h2;injection h with h;subst h;exact .step (Decidable.not_not.1 h1) (uQ h2)
theorem eB.Tc {α:Type} {R:RowK α} {w:World} {b:Nat} {l:List α} (h:Has w b (.cells (R.cells l).toArray R.t)):eB R w (some ⟨b,0,none⟩) l:=.inr ⟨b,0,rfl,h.lt,fun i hi j hj=>by rw[Nat.zero_add,h.cell,gA];exact R.nB l i hi j hj⟩
theorem rN {c:Nat} {S:aa} (h:dC c S) (hn:bg S) (hl:oU S) {r:Int->Nat} (hr:tf S r) {t:List dB} {aC:List Int} {l:List yG} (hd:dU S t aC l):(∀x∈t,kL S r x)->∀y∈l,y.path.length<=300*(S.nodes.length+2):=by
 induction hd with
 | nil=>intro _ y hy;cases hy
 | none _ _ ih=>intro hp y hy;exact ih (fun x hx=>hp x (List.mem_cons_of_mem _ hx)) y hy
 | @step x t aC l _ _ ih =>
  intro hp y hy;rcases List.mem_cons.1 hy with rfl|hy
  ·exact (hp x (List.mem_cons_self ..)).1
  ·refine ih (fun z hz=>?_) y hy
   rcases List.mem_append.1 hz with hz|hz
   ·exact kY h hn hl hr (hp x (List.mem_cons_self ..)) z hz
   ·exact hp z (List.mem_cons_of_mem _ hz)
def QD (S:aa) (w:World) (e:Ending) (w':World):Prop:=∃(dir:Int) (nm:List UInt8) (is:Bool),e=.returned (.tuple #[.int .i64 dir,bs nm,.bool is])/\nm.length<=255/\(is=true->nm≠[]/\∃p,(dF S 0 0 p false).2=0/\(dF S 0 0 p false).1.dir=dir/\(dF S 0 0 p false).1.name=nm)/\Ext w w'
theorem L1 {w:World} {B:Nat} {f:cE} {s:az} (h:RS w B f s) (k:iL 140 s.t) (a:Int) :
  Calls Tryz.prog 8 #[.pointer (some ⟨f.bF,0,none⟩),.int .i64 a] w (QD s.t w):=by
 obtain ⟨rows,r,hB,hl,hr,hp⟩:=uF k;have KR:=zH (xj h k rows hB hl hr hp);have hpl:=rN k.ee.eD k.ee.BN k.ee.kids.up hr hB (fun x hx=>by rw[List.mem_singleton]at hx;subst hx;exact hp);have mB:s.t.nodes.length<=200:=by have:=k.ee.eD.count;have:=k.ee.last;omega
 obtain ⟨Xt,F⟩:=h.TM;have KP:Hid (∀(u:World) (p:List UInt8),Ext w u->p.length<=1000000->Calls Tryz.prog 30 #[.pointer (some ⟨f.bF,0,none⟩),.agg #[.int .i64 0,.int .i64 0],bs p,.bool false] u (gQ u (dF s.t 0 0 p false))):=fun u p hu hp=>mU B f s.t Xt 0 0 p false u (F.ext hu) k.ee.eD (by omega) (by have:=k.ee.last;omega) hp
 have sx:=zH hpl;have HL:=zH hl;clear h F hB hl hr hp hpl;go_enter Tryz.func8,Tryz.ntmps8;go_wp2_with fail;refine KR.out.mono ?_;rintro e w1 ⟨v,rfl,hO,hE⟩;obtain ⟨A,cap,rfl,_,_,hat,_⟩:=hO.at_;obtain⟨n,hn⟩:=aq rows.length;rw [<-hn];have HN:=zH hn;have My:=zH hat;have HE:=zH hE;clear KR hO hE hn hat
 by_cases h2:(n:Int)<2
 case pos =>
  have t2:decide ((n:Int)<2)=true:=decide_eq_true h2;clear h2;go_wp2_with fail;refine bodyPost_ret (v:=.tuple #[.int .i64 1,.string ⟨#[110,111,110,101]⟩,.bool false]) (by simp[results,Tryz.results8,go_sem]) rfl ?_;exact ⟨1,[110,111,110,101],false,rfl,by decide,(fun h=>by cases h),HE.out⟩
 case neg =>
  have t2:decide ((n:Int)<2)=false:=decide_eq_false h2;obtain ⟨d,hd⟩:∃d,n=d+1:=⟨n-1,by omega⟩;have Uu:1<=d:=by omega
  have kM:d<=200:=by have:=HL.out;have:=HN.out;omega
  subst hd;obtain ⟨q,hq⟩:∃q:Nat,((q:Nat):Int)=a % 18446744073709551616 % (d:Int):=⟨(a % 18446744073709551616 % (d:Int)).toNat,Int.toNat_of_nonneg (Int.emod_nonneg _ (by omega))⟩;have hqd:q<d:=by have:=Int.emod_lt_of_pos (a % 18446744073709551616) (show (0:Int)<d by omega);omega
  have y1:(IntKind.u64.wrap a).tmod (d:Int)=(q:Int):=by
   rw [iT,Int.tmod_eq_emod_of_nonneg (Int.emod_nonneg _ (by decide)),hq]
  have y2:IntKind.u64.wrap (d:Int)=(d:Int):=by rw[iT];omega
  have y3:IntKind.i64.wrap (((d+1:Nat):Int)-1)=(d:Int):=by rw[IntWalk.i64_in _ (by omega)];omega
  have y3':IntKind.i64.wrap ((d:Int)+1-1)=(d:Int):=by rw[IntWalk.i64_in _ (by omega)];omega
  have y4:IntKind.i64.wrap (q:Int)=(q:Int):=IntWalk.i64_in _ (by omega);obtain⟨j,hj⟩:=aq (1+q);have y5:IntKind.i64.wrap (1+(q:Int))=(j:Int):=by rw[IntWalk.i64_in _ (by omega)];omega
  have y6:(0:Int)<=(j:Int):=Int.natCast_nonneg _;have y7:(j:Int)<(d:Int)+1:=by omega
  have y8:((d:Int) == 0)=false:=by simp;omega
  have y9:(d:Int)≠0:=by omega
  have hjl:j<rows.length:=by have:=HN.out;omega
  obtain ⟨g,o,rfl,hg,hc⟩:∃b o,A=some ⟨b,o,none⟩/\b<w1.heap.size/\w1.cell? ⟨b,o+j*10,none⟩=some (.string (bs rows[j].path)):=by
   rcases My.out with h|⟨b,o,hA,hb,hc⟩
   ·rw[h]at hjl;cases hjl
   ·exact⟨b,o,hA,hb,hc j hjl 0 (by decide)⟩
  have Xj:=sx.out rows[j] (List.getElem_mem hjl);obtain⟨p,hp⟩:=aq (rows[j].path);rw [<-hp]at hc Xj;obtain⟨R,hR⟩:=aq (dF s.t 0 0 p false);have KF:=KP.out w1 p HE.out (by omega);rw [<-hR]at KF;have A_:Hid (Calls Tryz.prog 30 #[.pointer (some ⟨f.bF,0,none⟩),.agg #[.int .i64 0,.int .i64 0],bs p,.bool false] w1 (aH w1 (.tuple #[.agg #[.int .i64 R.1.dir,bs R.1.name,R.1.no,.bool R.1.eH],.int .i64 R.2]))):=KF;have tI:=zH hR;have gP:Hid (R.1.name.length<=255):=by show _<=_;rw[hR];exact kv _ _ _ _ _
  clear h2 hq hqd hj hjl hp Xj KF hR Uu;go_wp2_with fail;refine A_.out.mono ?_;rintro e w2 ⟨rfl,b2⟩;go_upto_region 5 with fail;obtain ⟨W3,dg⟩:∃W,W=w2.alloc (.cells #[.int .i64 R.1.dir,bs R.1.name,R.1.no,.bool R.1.eH] 89):=⟨_,rfl⟩;obtain ⟨b8,fP⟩:∃b,b=w2.heap.size:=⟨_,rfl⟩;have E3:Ext w1 W3:=by rw[dg];exact b2.alloc _
  have X3:Has W3 b8 (.cells #[.int .i64 R.1.dir,bs R.1.name,R.1.no,.bool R.1.eH] 89):=by rw[dg,fP];exact Has.new _ _
  rw [<-dg,<-fP];clear dg fP b2 hc y1 y2 y3 y3' y4 y5 y6 y7 y8 y9 hg t2 A_;have x0:=X3.cell 0;have x1:=X3.cell 1;have xz:=X3.lt;simp only[gA,gB,gC]at x0 x1;obtain ⟨t0,_,_,t3⟩:=gD (p:=R.1.name);obtain⟨P,hP⟩:=aq (bs R.1.name);rw [<-hP]at x1 t0 t3;have HPP:=zH hP;clear hP X3;have fin:Hid (∀(is:Bool) (u:World),Ext W3 u->(is=true->R.2=0/\R.1.name≠[])->QD s.t w (.returned (.tuple #[.int .i64 R.1.dir,.string P,.bool is])) u):=by
   show ∀_ _,_;intro is u hu hi;refine ⟨R.1.dir,R.1.name,is,by rw[HPP.out],gP.out,fun MD=>?_,HE.out.trans (E3.trans hu)⟩;obtain ⟨h5,h6⟩:=hi MD;exact ⟨h6,p,by rw[<-tI.out];exact h5,by rw[<-tI.out],by rw[<-tI.out]⟩
  by_cases h5:R.2=0
  case neg =>
   have t5:(R.2 == 0)=false:=by simpa using h5
   clear h5;go_quiet (fail);go_wp2_with fail;go_ret3;exact fin.out false _ ((Ext.refl _).drewN nq) (fun h=>by cases h)
  case pos =>
   have t5:(R.2 == 0)=true:=by simpa using h5
   have H5:=zH h5
   by_cases h6:R.1.name=[]
   ·have t6:(R.1.name == [])=true:=by rw[h6];rfl
    rw [t6]at t0 t3;clear h5 h6 t6;go_quiet (fail);go_wp2_with fail;go_ret3;exact fin.out false _ ((Ext.refl _).drewN nq) (fun h=>by cases h)
   ·have t6:(R.1.name == [])=false:=by simpa using h6
    have H6:=zH h6;rw [t6]at t0 t3;clear h5 h6 t6;go_quiet (fail);go_wp2_with fail;go_ret3;exact fin.out true _ ((Ext.refl _).drewN nq) (fun _=>⟨H5.out,H6.out⟩)
theorem m_.ext {w w':World} {x:mZ} {cs:Array Value} (h:m_ w x cs) (E:Ext w w'):m_ w' x cs:=by
 obtain ⟨Am,cm,Ai,ci,Ap,cp,h0,h1,h2,h3,h4⟩:=h;exact ⟨Am,cm,Ai,ci,Ap,cp,h0,h1.ext E,h2.ext E,h3.ext E,h4⟩
theorem yO {x:mZ} (h:G4 x):iL 140 (fC x.ms x.is)/\fJ 140 ⟨fC x.ms x.is,0,0,x.plan,false⟩:=by
 have k:=xe h.1.1.1 h.1.1.2;refine ⟨k,k.ee.eD,k.ee.BN,k.ee.last,Int.le_refl _,by show (0:Int)<=_;omega,?_⟩;have:=h.2.2;show x.plan.length<=1000;omega
theorem dI.lies {w:World} {base:Nat} {v:Value} {l:List ak} (h:dI w base v l):∃A cap,v=.slice A l.length cap/\pU w A l/\l.length<=cap:=by
 obtain ⟨A,cap,h1,h2,_,h3,_⟩:=h.at_;exact ⟨A,cap,h1,h3,h2⟩
def Uh (keep:Bool) (cu cg to_:Int) (b2:List UInt8) (s:az) (l:List ak) (k:Nat) (T:uH):Prop:=
 if k=0 then T=⟨s,[],[]⟩ else uI keep cu cg to_ b2 s l=vQ keep cu cg T (l.drop k)/\T.s.dead=false
theorem L2 {keep:Bool} {cu cg to_:Int} {b2:List UInt8} {s:az} {l:List ak} {k:Nat} {T:uH} (h:Uh keep cu cg to_ b2 s l k T) (hk:k<l.length) {c:Nat} (hp:Pl c T.s) (hz:∀p∈T.made,p.2≠0) {dir:Int} {nm:List UInt8}
  (hd:dir=if k=0 then to_ else aI T.made l[k].dir) (hn:nm=if k=0 then b2 else l[k].name) :
  ((jh keep cu cg T l[k] dir nm).2≠0->uI keep cu cg to_ b2 s l=jh keep cu cg T l[k] dir nm)/\((jh keep cu cg T l[k] dir nm).2=0->Uh keep cu cg to_ b2 s l (k+1) (jh keep cu cg T l[k] dir nm).1):=by
 have pp:l.drop k=l[k]::l.drop (k+1):=List.drop_eq_getElem_cons hk;have hal:=(Bo (keep:=keep) (cu:=cu) (cg:=cg) hp hz (x:=l[k]) (dir:=dir) (nm:=nm)).2.2;unfold Uh at h|-
 by_cases h0:k=0
 ·subst h0
  rw [if_pos rfl]at h hd hn;subst h hd hn;rw [List.drop_zero]at pp
  generalize hx:l[0]=x at *
  generalize hr:l.drop (0+1)=r at *
  rw [pp]
  constructor
  ·intro h1
   show (if _ then _ else _)=_;rw [if_pos h1]
  ·intro h1
   rw [if_neg (by omega)];exact ⟨by show (if _ then _ else _)=_;rw[if_neg (fun q=>q h1)],hal h1⟩
 ·rw [if_neg h0]at h hd hn
  subst hd hn;rw [pp]at h
  constructor
  ·intro h1
   rw [h.1];show (if _ then _ else _)=_;rw [if_pos h1]
  ·intro h1
   rw [if_neg (by omega)];refine ⟨?_,hal h1⟩;rw [h.1];show (if _ then _ else _)=_;rw [if_neg (fun q=>q h1)]
theorem DF (keep:Bool) (cu cg:Int) (M:List (Int×Int)) (s:az) (m:ai) (l:List ai):ji keep cu cg M s (m::l)=if (fl cu cg s (ml keep cu cg (aI M m.no) m)).2≠0 then fl cu cg s (ml keep cu cg (aI M m.no) m) else ji keep cu cg M (fl cu cg s (ml keep cu cg (aI M m.no) m)).1 l:=rfl
theorem Pb {keep:Bool} {cu cg to_:Int} {b2:List UInt8} {s:az} {l:List ak} {k:Nat} {T:uH} (h:Uh keep cu cg to_ b2 s l k T) (hk:k=l.length):uI keep cu cg to_ b2 s l=(T,0)/\(1<=k->T.s.dead=false):=by
 unfold Uh at h
 by_cases h0:k=0
 ·rw [if_pos h0]at h
  have:l=[]:=List.eq_nil_of_length_eq_zero (by omega);subst this h;exact ⟨rfl,fun q=>by omega⟩
 ·rw [if_neg h0]at h
  rw [hk,List.drop_length]at h;exact ⟨h.1,fun _=>h.2⟩
def uR (V:World) (lo hi:Nat) (A:Option Addr) (l:List ak):Prop:=
 l = []\/∃gl cur,A=some ⟨gl,0,none⟩/\lo<=gl/\gl<hi/\Has V gl (.cells cur 50)/\∀k,(h:k<l.length)->∀j,j<4->cur[k*4+j]?=(cM l[k])[j]?
theorem uR.only {V V':World} {lo hi:Nat} {A:Option Addr} {l:List ak} {L:List Nat} (h:uR V lo hi A l) (o:Only L V V') (hL:∀x∈L,x<lo\/hi<=x):uR V' lo hi A l:=by
 rcases h with h|⟨gl,cur,h1,h2,h3,h4,h5⟩
 ·exact .inl h
 ·exact .inr ⟨gl,cur,h1,h2,h3,o.has h4 (fun hm=>by have:=hL _ hm;omega),h5⟩
theorem uR.ext {V V':World} {lo hi:Nat} {A:Option Addr} {l:List ak} (h:uR V lo hi A l) (o:Ext V V'):uR V' lo hi A l:=h.only (Only.av (L:=[]) o) (fun x hx=>by cases hx)
theorem dI.aa4 {w:World} {base:Nat} {v:Value} {l:List ak} (h:dI w base v l):∃A cap,v=.slice A l.length cap/\uR w base w.heap.size A l/\l.length<=cap:=by
 rcases h.cases with⟨rfl,rfl⟩|⟨gl,cap,cur,rfl,hb,hg,hn,_,hc⟩
 ·exact⟨none,0,rfl,.inl rfl,Nat.le_refl _⟩
 ·exact⟨_,cap,rfl,.inr ⟨gl,cur,rfl,hb,hg.lt,hg,fun k hk j hj=>by rw[<-hc k hk j hj,hg.cell]⟩,hn⟩
theorem uR.at_ {V:World} {lo hi:Nat} {A:Option Addr} {l:List ak} (h:uR V lo hi A l) {k:Nat} (hk:k<l.length):∃gl,A=some ⟨gl,0,none⟩/\gl<V.heap.size/\V.cell? ⟨gl,k*4,none⟩=some (.int .i64 l[k].dir)/\V.cell? ⟨gl,k*4+1,none⟩=some (.string (bs l[k].name))/\V.cell? ⟨gl,k*4+2,none⟩=some (.int .i64 l[k].no)/\V.cell? ⟨gl,k*4+3,none⟩=some (.int .i64 l[k].depth):=by
 rcases h with h|⟨gl,cur,h1,h2,h3,h4,h5⟩
 ·rw[h]at hk;cases hk
 ·refine ⟨gl,h1,h4.lt,?_,?_,?_,?_⟩
  ·have:=h5 k hk 0 (by decide);rw[h4.cell];exact this
  ·have:=h5 k hk 1 (by decide);rw[h4.cell];exact this
  ·have:=h5 k hk 2 (by decide);rw[h4.cell];exact this
  ·have:=h5 k hk 3 (by decide);rw[h4.cell];exact this
theorem L3 {keep:Bool} {cu cg to_:Int} {b2:List UInt8} {s:az} {l:List ak} {e:Int} (h:e≠0):gM keep cu cg to_ b2 s l e=(s,e):=by unfold gM;rw[if_pos h]
theorem L4 {keep:Bool} {cu cg to_:Int} {b2:List UInt8} {s:az} {l:List ak} (h:(uI keep cu cg to_ b2 s l).2≠0):gM keep cu cg to_ b2 s l 0=((uI keep cu cg to_ b2 s l).1.s,(uI keep cu cg to_ b2 s l).2):=by
 unfold gM;rw[if_neg (fun k=>k rfl),if_pos h]
theorem Pc {keep:Bool} {cu cg to_:Int} {b2:List UInt8} {s:az} {l:List ak} (h:(uI keep cu cg to_ b2 s l).2=0):gM keep cu cg to_ b2 s l 0=ji keep cu cg (uI keep cu cg to_ b2 s l).1.made (uI keep cu cg to_ b2 s l).1.s (uI keep cu cg to_ b2 s l).1.late.reverse:=by
 unfold gM;rw[if_neg (fun k=>k rfl),if_neg (fun k=>k h)]
theorem PS.ET {c:Nat} {w:World} {B b:Nat} {g:bJ} {s:az} (h:PS w B b g s) (hp:Pl c s) (keep:Bool) (cu cg fr to_:Int) (a b2:List UInt8) (l:List ak) (b0:ak) (e0:Int) (hT:mV s cu cg fr a l b0 e0) (hlen:l.length<=1000) (hc:c+4*l.length<=900) :
  Calls Tryz.prog 10 #[.pointer (some ⟨b,0,none⟩),.agg #[cu,cg],.int .i64 fr,bs a,.int .i64 to_,bs b2,.bool keep] w (OS w B b g (gM keep cu cg to_ b2 s l e0).1 (gM keep cu cg to_ b2 s l e0).2):=by
 obtain ⟨W0,aY⟩:∃W,W=w.alloc (.cells #[cu,cg] 27):=⟨_,rfl⟩;obtain ⟨b8,fP⟩:∃b,b=w.heap.size:=⟨_,rfl⟩;have E0:Ext w W0:=by rw[aY];exact (Ext.refl _).alloc _
 have X0:Has W0 b8 (.cells #[cu,cg] 27):=by rw[aY,fP];exact Has.new _ _
 have K:=zH ((h.ext E0).all hp.ig (by omega) cu cg fr a l b0 e0 hT hlen);obtain⟨R,hR⟩:=aq (gM keep cu cg to_ b2 s l e0);rw [<-hR];have HR:=zH hR;have HH:=zH h;have HP:=zH hp;have sA:=zH X0;have ja:=zH E0;have q0:=X0.cell 0;have q1:=X0.cell 1;have qz:=X0.lt;simp only[gA,gB,gC]at q0 q1;clear h hp hT hR X0 E0;go_enter Tryz.func10,Tryz.ntmps10;go_upto_region 1 with fail;rw [<-aY,<-fP];clear aY fP;go_wp2_with fail;refine K.out.mono ?_;rintro e w1 ⟨v,rfl,O1,E1⟩;clear K q0 q1 qz
 by_cases k0:e0=0
 case neg =>
  have hk:(e0 != 0)=true:=by simpa using k0
  have hr:R=(s,e0):=by rw[HR.out];exact L3 k0
  have tI:=zH hr;have HE:=zH (ja.out.trans E1);clear k0 O1 E1 hr;go_wp2_with fail;go_ret;rw [tI.out];exact ⟨rfl,HH.out.ext HE.out,Only.av HE.out⟩
 have hk:(e0 != 0)=false:=by simpa using k0
 rw [if_pos k0]at O1;have HK:=zH k0;obtain ⟨A,cap,rfl,hA,hcap⟩:=O1.aa4;obtain⟨n,hn⟩:=aq l.length;rw [<-hn]at hcap|-;have HN:=zH hn;have HA:=zH hA;have AR:=zH E1;have X1:=sA.out.ext E1;have q0:=X1.cell 0;have q1:=X1.cell 1;have qz:=X1.lt;simp only[gA,gB,gC]at q0 q1;have hmm:=@run_makeMap Tryz.prog;clear k0 O1 hn hA E1 X1;go_upto_region 5 with fail;obtain ⟨W4,fO⟩:∃W,W=(w1.alloc (.map #[] 0)).alloc (.cells #[.pointer (some ⟨b,0,none⟩),cu,cg,.bool keep,.map (some w1.heap.size),.slice none 0 0] 97):=⟨_,rfl⟩;have Kj:Ext w1 W4:=by rw[fO];exact ((Ext.refl _).alloc _).alloc _
 have hsz:w.heap.size<=w1.heap.size:=by have:=ja.out.size;have:=AR.out.size;omega
 have acm:w.heap.size<=W0.heap.size:=ja.out.size;have hlt:=HH.out.lt;have hBw:B<=w.heap.size:=by have h1:=(HH.out.cR b (List.mem_cons_self ..)).1;have h2:=hlt b (List.mem_cons_self ..);omega
 have T4:kj W4 B b g w1.heap.size (w1.heap.size+1) w1.heap.size cu cg keep (.slice none 0 0) ⟨s,[],[]⟩:=by
  refine ⟨(HH.out.ext (ja.out.trans AR.out)).ext Kj,?_,bZ.nil _ _ _,⟨#[],0,?_,rfl,fun k h=>by cases h⟩,by omega,by omega,Nat.le_refl _,fun x hx=>by have:=hlt x hx;omega⟩
  ·rw [fO]
   have:=Has.new (w1.alloc (.map #[] 0)) (.cells #[.pointer (some ⟨b,0,none⟩),cu,cg,.bool keep,.map (some w1.heap.size),.slice none 0 0] 97);rw [World.size_alloc]at this;exact this
  ·rw [fO]
   exact (Has.new w1 _).alloc _
 have A4:uR W4 W0.heap.size w1.heap.size A l:=HA.out.ext Kj;have O4:Only (b::g.list) w W4:=Only.av (ja.out.trans (AR.out.trans Kj));obtain ⟨bM,Nl⟩:∃x,x=w1.heap.size:=⟨_,rfl⟩;obtain ⟨bt,hbt⟩:∃x,x=w1.heap.size+1:=⟨_,rfl⟩;rw [<-fO,<-hbt,<-Nl];rw [<-hbt,<-Nl]at T4;rw [<-Nl]at A4;have acn:w.heap.size<=bM:=by omega
 have aco:bM<=bt:=by omega
 have HT4:=zH T4;have HA4:=zH A4;have MZ:=zH O4;have HLT:=zH hlt;obtain⟨RA,hRA⟩:=aq (uI keep cu cg to_ b2 s l);have HRA:=zH hRA;clear fO Nl hbt Kj T4 A4 O4 hlt HA q0 q1 qz hmm hRA;have hcl:(n:Int)<=1000:=by have:=HN.out;omega
 go_wp2_with fail;go_loopw [44] (fun vi wr=>∃(k:Nat) (v:Value) (T:uH) (c':Nat),vi=.int .i64 k/\k<=n/\kj wr B b g bM bt bM cu cg keep v T/\Uh keep cu cg to_ b2 s l k T/\Pl c' T.s/\c'+3*T.late.length<=c+4*k/\T.late.length<=k/\(∀p∈T.made,p.2≠0)/\uR wr W0.heap.size bM A l/\Only (b::g.list) w wr) (fun vi _=>n-(intOf vi).toNat)
 case atStart=>exact⟨0,_,_,c,rfl,Nat.zero_le _,HT4.out,rfl,HP.out,by show c+3*0<=c+4*0;omega,Nat.le_refl _,fun p hp=>(by cases hp),HA4.out,MZ.out⟩
 case round =>
  clear HT4 HA4 MZ;obtain ⟨k,v,T,c',rfl,hk,hT,hS,hP,hc1,i_,hz1,hA,hO⟩:=hrel;have k0:(0:Int)<=(k:Int):=Int.natCast_nonneg _;have HT:=zH hT;have HS:=zH hS;have YU:=zH hP;have HZ:=zH hz1;have HA:=zH hA;have HO:=zH hO;have hTs:=Has.lt hT.2.1
  by_cases hlt:(k:Int)<n
  case pos =>
   have dh:k<l.length:=by have:=HN.out;omega
   obtain ⟨gl,rfl,Gm,y0,y1,y2,y3⟩:=hA.at_ dh;obtain⟨x,hx⟩:=aq (l[k]);rw [<-hx]at y0 y1 y2 y3;have BM:IntKind.i64.wrap ((k:Int)+1)=(k:Int)+1:=IntWalk.i64_in _ (by omega);obtain ⟨dir,Td⟩:∃d,d=if k=0 then to_ else aI T.made x.dir:=⟨_,rfl⟩
   obtain ⟨nm,gP⟩:∃d,d=if k=0 then b2 else x.name:=⟨_,rfl⟩
   have ru:=L2 hS dh hP hz1 (dir:=dir) (nm:=nm) (by rw[Td,hx]) (by rw[gP,hx]);rw [<-hx,<-HRA.out]at ru;obtain ⟨W7,G9⟩:∃W,W=wr.alloc (.cells #[.int .i64 x.dir,bs x.name,x.no,.int .i64 x.depth] 50):=⟨_,rfl⟩;obtain ⟨b19,Te⟩:∃b,b=wr.heap.size:=⟨_,rfl⟩;have E7:Ext wr W7:=by rw[G9];exact (Ext.refl _).alloc _
   have B7:Has W7 b19 (.cells #[.int .i64 x.dir,bs x.name,x.no,.int .i64 x.depth] 50):=by rw[G9,Te];exact Has.new _ _
   have HE7:=zH E7;have EJ:=zH B7;have Xk:=zH ru;have Xl:=zH Td;have BQ:=zH gP;clear hx Td gP ru hT hS hP hz1 hA hO E7 B7;go_upto_region 8 with fail;rw [<-G9,<-Te];clear G9 Te;have HT7:=zH (HT.out.ext HE7.out);have HA7:=zH (HA.out.ext HE7.out);have GM:=zH (HO.out.ext HE7.out);clear y0 y1 y2 y3 Gm;go_upto_if 52 with fail;go_cut [20,21] (fun vd vn wc=>vd=.int .i64 dir/\vn=.string (bs nm)/\Ext W7 wc)
   case first =>
    by_cases Ep:k=0
    ·subst Ep
     have hd:to_=dir:=by rw[Xl.out,if_pos rfl]
     have hn:b2=nm:=by rw[BQ.out,if_pos rfl]
     have HD:=zH hd;have Mp:=zH hn;have tk:decide (((0:Nat):Int) > 0)=false:=rfl;clear hd hn;go_wp2_with fail;go_meet;exact ⟨by rw[HD.out],by rw[Mp.out],Ext.refl _⟩
    ·have acp:0<k:=by omega
     have tk:decide ((k:Int) > 0)=true:=decide_eq_true (by omega);have tk':decide ((0:Int)<(k:Int))=true:=decide_eq_true (by omega);have hd:aI T.made x.dir=dir:=by rw[Xl.out,if_neg Ep]
     have hn:x.name=nm:=by rw[BQ.out,if_neg Ep]
     obtain ⟨_,sF,_,⟨es,cl,hM,LX⟩,_⟩:=id HT7.out;have q1:∀u:Gr W7,(Instr.lookup 94 (.map (some bM)) (.int .i64 x.dir) false).run Tryz.prog u.w=.ok (.int .i64 (aI T.made x.dir)) u.w:=fun u=>uK (Has.ext hM u.h) LX x.dir
     rw [hd]at q1;have t4:∀u:Gr W7,u.w.cell? ⟨bt,4,none⟩=some (.map (some bM)):=Gr.cell (Has.lt sF) (Has.cell sF 4);have x0:∀u:Gr W7,u.w.cell? ⟨b19,0,none⟩=some (.int .i64 x.dir):=Gr.cell EJ.out.lt (EJ.out.cell 0);have x1:∀u:Gr W7,u.w.cell? ⟨b19,1,none⟩=some (.string (bs x.name)):=Gr.cell EJ.out.lt (EJ.out.cell 1);have Mp:=zH hn;clear Ep hd hn sF hM LX;go_upto_region 10 with fail;refine dJ W7 (by kernel_rfl) (by kernel_rfl) (Ext.refl _).drew ?_
     repeat (quiet_step (fail))
     refine wpQuiet_nil ?_;rintro w8 ⟨⟨w8,E8⟩,h8⟩;dsimp only at h8;subst h8;have yC:=zH E8;clear q1 t4 x0 x1 E8;go_wp2_with fail;go_meet;exact ⟨rfl,by rw[Mp.out],yC.out⟩
   case rest =>
   obtain ⟨rfl,rfl,E8⟩:=hcut;obtain ⟨w8,hw8⟩:∃w1,w1=wc:=⟨_,rfl⟩;rw [<-hw8]at E8|-;have HT8:=zH (HT7.out.ext E8);have HA8:=zH (HA7.out.ext E8);have yZ:=zH (GM.out.ext E8);have B8:=EJ.out.ext E8;have x0:=B8.cell 0;have x1:=B8.cell 1;have x2:=B8.cell 2;have x3:=B8.cell 3;have xz:=B8.lt;simp only[gA,gB,gC]at x0 x1 x2 x3;have K:=zH (HT8.out.Xb YU.out (by have:=HN.out;omega) HZ.out (by have:=HN.out;omega) x dir nm);obtain⟨Q,hQ⟩:=aq (jh keep cu cg T x dir nm);have zQ:=Bo (keep:=keep) (cu:=cu) (cg:=cg) YU.out HZ.out (x:=x) (dir:=dir) (nm:=nm);have hpl:=DC (keep:=keep) (cu:=cu) (cg:=cg) YU.out hc1 x dir nm;rw [<-hQ]at K zQ hpl;have hst:=Xk.out;rw [<-hQ]at hst;have oD:=zH hst;have QE:=zH zQ;have sx:=zH hpl;have HIV:=zH (HT8.out.own);clear hw8 E8 B8 hQ zQ hpl hst;go_wp2_with fail;refine K.out.mono ?_;rintro e w9 ⟨rfl,v9,T9,O9,_⟩;have hLs:∀y∈yM b g bt bM v,y<w.heap.size\/bM<=y:=fun y hy=>by
    unfold yM at hy;rcases List.mem_cons.1 hy with rfl|hy
    ·exact .inl (HLT.out _ (List.mem_cons_self ..))
    rcases List.mem_append.1 hy with hy|hy
    ·exact .inl (HLT.out _ (List.mem_cons_of_mem _ hy))
    rcases List.mem_cons.1 hy with rfl|hy
    ·exact .inr (by omega)
    rcases List.mem_cons.1 hy with rfl|hy
    ·exact .inr (Nat.le_refl _)
    ·exact .inr (HIV.out y (Option.mem_toList.1 hy)).1
   have HA9:=zH (HA8.out.only O9 (fun y hy=>(hLs y hy).imp (fun h=>by omega) id));have YN:=zH (yZ.out.trans O9 (fun y hy=>by
    unfold yM at hy;rcases List.mem_cons.1 hy with rfl|hy
    ·exact .inl (List.mem_cons_self ..)
    rcases List.mem_append.1 hy with hy|hy
    ·exact .inl (List.mem_cons_of_mem _ hy)
    refine .inr ?_;rcases List.mem_cons.1 hy with rfl|hy
    ·omega
    rcases List.mem_cons.1 hy with rfl|hy
    ·omega
    ·have:=(HIV.out y (Option.mem_toList.1 hy)).1;omega))
   have YO:=zH T9;clear K x0 x1 x2 x3 xz T9 O9 hLs
   by_cases kq:Q.2=0
   case neg =>
    have h68:(Q.2 != 0)=true:=by simpa using kq
    have Tf:=oD.out.1 kq;have Ui:R=(Q.1.s,Q.2):=by rw[HR.out,HK.out,L4 (by rw[<-HRA.out,Tf];exact kq),<-HRA.out,Tf]
    have tI:=zH Ui;clear kq Tf Ui;go_wp2_with fail;go_ret;rw [tI.out];exact ⟨rfl,YO.out.1,YN.out⟩
   have h68:(Q.2 != 0)=false:=by simpa using kq
   obtain ⟨c2,g1,g2⟩:=sx.out;have hs2:=oD.out.2 kq;have HS2:=zH hs2;have HG1:=zH g1;clear kq hs2 g1;go_wp2_with fail;go_roundw
   case rel=>exact⟨k+1,v9,Q.1,c2,by go_num,by omega,YO.out,HS2.out,HG1.out,by omega,by have:=QE.out.2.1;omega,QE.out.1,HA9.out,YN.out⟩
   case measure=>simp[intOf];omega
  case neg =>
   have IX:k=n:=by omega
   have dh:k=l.length:=by rw[IX];exact HN.out
   clear hA;obtain ⟨Tf,Nv⟩:=Pb hS dh;have Ui:R=ji keep cu cg T.made T.s T.late.reverse:=by
    have e0':(uI keep cu cg to_ b2 s l).2=0:=by rw[Tf]
    rw [HR.out,HK.out,Pc e0',Tf]
   obtain⟨M,hM0⟩:=aq T.made;rw [<-hM0]at Ui;obtain ⟨lt,Tg⟩:∃n,n=T.late.length:=⟨_,rfl⟩;have HM0:=zH hM0;have tI:=zH Ui;have RY:=zH Nv;have HL0:=zH Tg;have qd:lt<=n:=by omega
   have DU:c'+3*lt<=900:=by have:=HN.out;omega
   have hlk:lt<=k:=by omega
   have hv:∃A2 c5,v=.slice A2 lt c5:=by
    obtain ⟨A2,c5,e,_⟩:=hT.2.2.1.at_;exact ⟨A2,c5,by rw[Tg];exact e⟩
   obtain ⟨A2,c5,rfl⟩:=hv;have t5:=Has.cell hT.2.1 5;have tz:=Has.lt hT.2.1;simp only[gA,gB,gC]at t5;have wl:IntKind.i64.wrap ((lt:Int)-1)=(lt:Int)-1:=IntWalk.i64_in _ (by omega);clear IX dh Tf Nv Ui hM0 Tg hS hP hz1 hO hT;go_wp2_with fail;go_loopw [23] (fun vi wq=>∃(j:Nat) (s2:az) (c2:Nat),vi=.int .i64 ((j:Int)-1)/\j<=lt/\PS wq B b g s2/\Pl c2 s2/\c2+3*j<=900/\(1<=j->s2.dead=false)/\R=ji keep cu cg M s2 (T.late.take j).reverse/\Only (b::g.list) wr wq) (fun vi _=>((intOf vi)+1).toNat)
   case atStart=>exact⟨lt,T.s,c',rfl,Nat.le_refl _,HT.out.1,YU.out,DU,fun h=>RY.out (by omega),by rw[tI.out,HL0.out,List.take_length],Only.av (Ext.refl _)⟩
   case round =>
    clear t5 tz wl;obtain ⟨j,s2,c2,rfl,hj,yY,TK,Yj,vc,yT,TY⟩:=hrel;have yA:=zH yY;have Hp2:=zH TK;have HD2:=zH vc;have pS:=zH yT;have vq:=zH TY;have Qz:=zH (HT.out.fs TY yY);clear yY TK vc yT TY
    cases j with
    | zero =>
     go_wp2_with fail;go_ret;rw [pS.out];exact ⟨rfl,yA.out,HO.out.then vq.out⟩
    | succ j =>
     have hjl:j<T.late.length:=by have:=HL0.out;omega
     obtain⟨m,hm⟩:=aq (T.late[j]);have lM:(T.late.take (j+1)).reverse=m::(T.late.take j).reverse:=by rw[List.take_succ_eq_append_getElem hjl,List.reverse_append,hm];rfl
     have CO:R=if (fl cu cg s2 (ml keep cu cg (aI M m.no) m)).2≠0 then fl cu cg s2 (ml keep cu cg (aI M m.no) m) else ji keep cu cg M (fl cu cg s2 (ml keep cu cg (aI M m.no) m)).1 (T.late.take j).reverse:=by rw[pS.out,lM,DF]
     have e1:((j+1:Nat):Int)-1=(j:Int):=by omega
     rw [e1];have wj:IntKind.i64.wrap ((j:Int)-1)=(j:Int)-1:=IntWalk.i64_in _ (by omega);have j0:(0:Int)<=(j:Int):=Int.natCast_nonneg _;have acq:(j:Int)<(lt:Int):=by omega
     obtain ⟨_,sF,Ug,⟨es,cl,hMp,LX⟩,_⟩:=id Qz.out;obtain ⟨gb,y0,y1,y2,y3,y4,y5,y6,y7,y8,y9,yz,rfl⟩:∃gb,wr.cell? ⟨gb,j*10,none⟩=some (.int .i64 m.no)/\wr.cell? ⟨gb,j*10+1,none⟩=some (.int .i64 m.dev)/\wr.cell? ⟨gb,j*10+2,none⟩=some (.int .i64 m.kind)/\wr.cell? ⟨gb,j*10+3,none⟩=some (.int .i64 m.mode)/\wr.cell? ⟨gb,j*10+4,none⟩=some (.int .i64 m.uid)/\wr.cell? ⟨gb,j*10+5,none⟩=some (.int .i64 m.gid)/\wr.cell? ⟨gb,j*10+6,none⟩=some (.int .i64 m.ah)/\wr.cell? ⟨gb,j*10+7,none⟩=some (.int .i64 m.data.length)/\wr.cell? ⟨gb,j*10+8,none⟩=some (.int .i64 m.mtime)/\wr.cell? ⟨gb,j*10+9,none⟩=some (.int .i64 m.ctime)/\gb<wr.heap.size/\A2=some ⟨gb,0,none⟩:=by
      rcases bZ.cases Ug with⟨_,e⟩|⟨gb,cap',cur,e,_,hg,_,_,hc⟩
      ·have e:T.late=[]:=e
       rw [e]at hjl;cases hjl
      ·injection e with e
       have h':=fun i (hi:i<10)=>hc j hjl i hi
       rw [<-hm]at h';exact ⟨gb,h' 0 (by decide),h' 1 (by decide),h' 2 (by decide),h' 3 (by decide),h' 4 (by decide),h' 5 (by decide),h' 6 (by decide),h' 7 (by decide),h' 8 (by decide),h' 9 (by decide),hg.lt,e⟩
     have LY:jN es.toList M:=by rw[HM0.out];exact LX
     have q1:=uK (Has.ext hMp (Ext.refl wr).drew) LY m.no;have t4:=Has.cell sF 4;have t5:=Has.cell sF 5;have tz:=Has.lt sF;simp only[gA,gB,gC]at t4 t5;have ED:Ext wr wr.drew:=(Ext.refl _).drew;have K:=zH ((yA.out.ext ED).EP Hp2.out (by omega) (HD2.out (by omega)) (Has.ext sF ED) (aI M m.no) m);unfold fG at K
     generalize aI M m.no=mn at *
     obtain⟨Q,hQ⟩:=aq (fl cu cg s2 (ml keep cu cg mn m));have hpl:=Hp2.out.fl cu cg (ml keep cu cg mn m) uG;have hal:=fun h=>l9 (cu:=cu) (cg:=cg) (l:=ml keep cu cg mn m) (s:=s2) yK h
     have Hl:=p9 keep cu cg mn m;rw [<-hQ]at K CO hpl hal;have sx:=zH (hpl.mono (by omega:_<=c2+3));have HAL:=zH hal;have HR3:=zH CO;have HED:=zH ED;clear hm lM CO e1 sF Ug hMp LX LY ED hQ hpl hal Hl hjl hj;go_upto_region 18 with fail;go_still_tail 21,(by kernel_rfl);change wpList _ _ _ _ _ wr.drew;go_wp2_with fail;refine K.out.mono ?_;rintro e w5 ⟨rfl,P5,O5⟩;have EN:=zH P5;have ES:=zH (vq.out.then ((Only.av (L:=b::g.list) HED.out).then O5));clear K y0 y1 y2 y3 y4 y5 y6 y7 y8 y9 yz q1 t4 t5 tz P5 O5
     by_cases kq:Q.2=0
     case neg =>
      have aa5:(Q.2 != 0)=true:=by simpa using kq
      have PR:R=Q:=by rw[HR3.out,if_pos kq]
      have HRQ:=zH PR;clear kq PR;go_wp2_with fail;go_ret;rw [HRQ.out];exact ⟨rfl,EN.out,HO.out.then ES.out⟩
     have aa5:(Q.2 != 0)=false:=by simpa using kq
     have PR:=HR3.out;rw [if_neg (fun h=>h kq)]at PR;have HRQ:=zH PR;have HAQ:=zH (HAL.out kq);clear kq PR;go_wp2_with fail;go_roundw
     case rel=>exact⟨j,Q.1,c2+3,by first|rfl|go_num,by omega,EN.out,sx.out,by omega,fun _=>HAQ.out,HRQ.out,ES.out⟩
     case measure=>simp[intOf]
end Go.Proofs.YtblbohcaphcobaaGreatDoor
