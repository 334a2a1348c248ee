import Derived.Test.YtpibnfdolojpcaaGreatBunG
import Derived.Test.YtpibnfdolojpcaaGreatBunE
import Derived.Test.YtpibnfdolojpcaaGreatBunD
import Derived.Test.YtpibnfdolojpcaaGreatBunC
set_option maxHeartbeats 8000000
set_option maxRecDepth 100000
namespace Go.Proofs.YtpibnfdolojpcaaGreat
def placeE (S:TreeD) (cu cg dir:Int) (nm:List UInt8):Int:=
 if isN S.nodes dir=false then 5 else if ¬(getN S.nodes dir).kind=1 then 9 else if ¬checkN nm=0 then checkN nm
 else if mayB cu cg (getN S.nodes dir).uid (getN S.nodes dir).gid (getN S.nodes dir).mode 3=false then 6 else 0
def placeN (S:TreeD) (cu cg dir:Int) (nm:List UInt8):NodeD:=if placeE S cu cg dir nm=0 then getN S.nodes dir else nodeZ
def touchN (S:TreeD) (dir now:Int) (l:List EntD):NodeD:={getN S.nodes dir with ents:=l,mtime:=now,ctime:=now}
def touchT (S:TreeD) (dir now:Int) (l:List EntD):TreeD:=setT S (touchN S dir now l)
def newN (S:TreeD) (cu cg now dir:Int) (n:NodeD):NodeD:={n with dev:=(getN S.nodes dir).dev,uid:=cu,gid:=cg,mtime:=now,ctime:=now,links:=1}
def comeE (S:TreeD) (cu cg now dir:Int) (nm:List UInt8) (n:NodeD):Int:=
 if ¬placeE S cu cg dir nm=0 then placeE S cu cg dir nm else if ¬findF (getN S.nodes dir).ents nm=0 then 7 else makeE S (newN S cu cg now dir n)
def comeN (S:TreeD) (cu cg now dir:Int) (nm:List UInt8) (n:NodeD):Int:=if comeE S cu cg now dir nm n=0 then S.last+1 else 0
def comeT (S:TreeD) (cu cg now dir:Int) (nm:List UInt8) (n:NodeD):TreeD:=
 if comeE S cu cg now dir nm n=0 then touchT (makeT S (newN S cu cg now dir n)) dir now (putF (getN S.nodes dir).ents (nm,S.last+1)) else S
def dirZ (mode dir:Int):NodeD:={nodeZ with kind:=1,mode:=mode,up:=dir}
def fileZ (mode:Int) (data:List UInt8):NodeD:={nodeZ with kind:=2,mode:=mode,data:=data}
def symZ (text:List UInt8):NodeD:={nodeZ with kind:=3,mode:=511,data:=text}
def dirP (mode:Int):Int:=if mode<0∨1023<mode then 1 else 0
def fileP (mode dl:Int):Int:=if mode<0∨1023<mode then 1 else if 1048576<dl then 3 else 0
def symP (text:List UInt8):Int:=if text=[]∨hasB text 0=true then 1 else if 4096<text.length then 13 else 0
def preE (p e:Int):Int:=if ¬p=0 then p else e
def preN (p n:Int):Int:=if ¬p=0 then 0 else n
def preT (p:Int) (S T:TreeD):TreeD:=if ¬p=0 then S else T
def hardE (S:TreeD) (cu cg no dir:Int) (nm:List UInt8):Int:=
 if ¬placeE S cu cg dir nm=0 then placeE S cu cg dir nm else if isN S.nodes no=false then 5 else if (getN S.nodes no).kind=1 then 4
 else if ¬findF (getN S.nodes dir).ents nm=0 then 7 else if ¬(getN S.nodes no).dev=(getN S.nodes dir).dev then 11 else if 1000≤(getN S.nodes no).links then 18 else 0
def hardN (S:TreeD) (now no:Int):NodeD:={getN S.nodes no with links:=(getN S.nodes no).links+1,ctime:=now}
def hardT (S:TreeD) (cu cg now no dir:Int) (nm:List UInt8):TreeD:=
 if hardE S cu cg no dir nm=0 then touchT (setT S (hardN S now no)) dir now (putF (getN S.nodes dir).ents (nm,no)) else S
theorem placeE_zero {S:TreeD} {cu cg dir:Int} {nm:List UInt8} (h:placeE S cu cg dir nm=0):isN S.nodes dir=true∧(getN S.nodes dir).kind=1∧checkN nm=0:=by
 unfold placeE at h;split at h
 ·cases h
 ·rename_i h1
  split at h
  ·cases h
  ·rename_i h2
   split at h
   ·rename_i h3;exact absurd h h3
   ·rename_i h3
    exact ⟨by simpa using h1,Decidable.not_not.1 h2,Decidable.not_not.1 h3⟩
theorem placeN_zero {S:TreeD} {cu cg dir:Int} {nm:List UInt8} (h:placeE S cu cg dir nm=0):placeN S cu cg dir nm=getN S.nodes dir:=by unfold placeN;rw[if_pos h]
theorem comeE_zero {S:TreeD} {cu cg now dir:Int} {nm:List UInt8} {n:NodeD} (h:comeE S cu cg now dir nm n=0):placeE S cu cg dir nm=0∧findF (getN S.nodes dir).ents nm=0∧makeE S (newN S cu cg now dir n)=0:=by
 unfold comeE at h;split at h
 ·rename_i h1;exact absurd h h1
 ·rename_i h1
  split at h
  ·cases h
  ·rename_i h2;exact⟨Decidable.not_not.1 h1,Decidable.not_not.1 h2,h⟩
theorem getN_make {S:TreeD} (_hu:NosUp S.nodes S.last) (n:NodeD) {no:Int} (hi:isN S.nodes no=true):getN (makeT S n).nodes no=getN S.nodes no∧isN (makeT S n).nodes no=true:=by
 obtain ⟨_,e,hm⟩:=isN_true hi;unfold makeT;split
 ·have hmem:getN S.nodes no∈S.nodes++[{n with no:=S.last+1}]:=List.mem_append_left _ hm
  obtain ⟨k,hk,ek⟩:=List.getElem_of_mem hm;have hfind:getO (S.nodes++[{n with no:=S.last+1}]) no=some (getN S.nodes no):=by
   unfold getO;rw [List.find?_append];have:=(isN_true hi).1;unfold getO at this;rw [this];rfl
  exact ⟨by show Option.getD (getO _ no) nodeZ=_;rw[hfind];rfl,by show Option.isSome (getO _ no)=true;rw[hfind];rfl⟩
 ·exact⟨rfl,hi⟩
theorem tre_comeT {c:Nat} {S:TreeD} (h:Tre c S) {cu cg now dir:Int} {nm:List UInt8} {n:NodeD} (he:n.ents=[]) (hd:n.data.length≤1048576) (hk:n.kind=1→n.up=dir) (hm:0≤n.mode∧n.mode≤1023):Tre (c+1) (comeT S cu cg now dir nm n):=by
 unfold comeT;split
 ·rename_i h0
  obtain ⟨hp,hf,hmk⟩:=comeE_zero h0;obtain ⟨hi,hkd,hc⟩:=placeE_zero hp;obtain ⟨e1,e2⟩:=getN_make h.nos (newN S cu cg now dir n) hi;obtain ⟨_,hno,hmem⟩:=isN_true hi;unfold touchT touchN;rw [e1];refine tre_come h (d:={getN S.nodes dir with ents:=putF (getN S.nodes dir).ents (nm,S.last+1),mtime:=now,ctime:=now}) (nm:=nm) ?_ ?_ hkd ?_ ?_ (h.dlinks (getN S.nodes dir) hmem hkd) (h.on (getN S.nodes dir) hmem).2 ?_ ?_ (checkN_short hc) he hd rfl ?_ ?_ ⟨hm.1,hm.2,rfl⟩ hmk
  ·show isN S.nodes (getN S.nodes dir).no=true;rw[hno];exact hi
  ·show (getN S.nodes (getN S.nodes dir).no).kind=1;rw[hno];exact hkd
  ·show _=(getN S.nodes (getN S.nodes dir).no).dev;rw[hno]
  ·show _=(getN S.nodes (getN S.nodes dir).no).up;rw[hno]
  ·show _=putF (getN S.nodes (getN S.nodes dir).no).ents _;rw[hno]
  ·show findF (getN S.nodes (getN S.nodes dir).no).ents nm=0;rw[hno];exact hf
  ·intro hk1
   exact ⟨rfl,(hk hk1).trans hno.symm⟩
  ·show _=(getN S.nodes (getN S.nodes dir).no).mode;rw[hno]
 ·exact tre_mono h (by omega)
theorem tre_touch {c c':Nat} {k k':Int} {S:TreeD} (h:TreB c k S) (hkk:k=0∨k=k') {dir now:Int} {l:List EntD} (hi:isN S.nodes dir=true) (hkd:(getN S.nodes dir).kind=1) (hcc:c≤c') (hr:Rise l) (hn:∀x∈l,x.1≠[]∧x.1.length≤255) (hp:∀x∈l,1≤x.2∧x.2≤S.last) (hs:l.length≤c')
  (hx:∀x∈l,Kin S (getN S.nodes dir).no (getN S.nodes dir).dev x.2) (keep:∀q∈S.nodes,q.kind=1→q.no≠k'→q.up=dir→q.no≠dir→∃x∈l,x.2=q.no):TreB c' k' (touchT S dir now l):=by
 obtain ⟨_,hno,hmem⟩:=isN_true hi;have hb:=h.bits _ hmem;refine tre_set h hkk (n:=touchN S dir now l) ?_ hcc ?_ ?_ ?_ (fun _=>h.dlinks (getN S.nodes dir) hmem hkd) hr hn hp hs (h.on (getN S.nodes dir) hmem).2 hb hx ?_
 ·show isN S.nodes (getN S.nodes dir).no=true;rw[hno];exact hi
 ·show _=(getN S.nodes (getN S.nodes dir).no).kind;rw[hno];rfl
 ·show _=(getN S.nodes (getN S.nodes dir).no).dev;rw[hno];rfl
 ·show _=(getN S.nodes (getN S.nodes dir).no).up;rw[hno];rfl
 ·intro q hq hqk hqk' hqu hqn
  have e:(touchN S dir now l).no=dir:=hno;rw [e]at hqu hqn;exact keep q hq hqk hqk' hqu hqn
theorem hardE_zero {S:TreeD} {cu cg no dir:Int} {nm:List UInt8} (h:hardE S cu cg no dir nm=0):placeE S cu cg dir nm=0∧isN S.nodes no=true∧¬(getN S.nodes no).kind=1∧findF (getN S.nodes dir).ents nm=0∧(getN S.nodes no).dev=(getN S.nodes dir).dev∧(getN S.nodes no).links<1000:=by
 unfold hardE at h;split at h
 ·rename_i h1;exact absurd h h1
 ·rename_i h1
  split at h
  ·cases h
  ·rename_i h2
   split at h
   ·cases h
   ·rename_i h3
    split at h
    ·cases h
    ·rename_i h4
     split at h
     ·cases h
     ·rename_i h5
      split at h
      ·cases h
      ·rename_i h6
       exact ⟨Decidable.not_not.1 h1,by simpa using h2,h3,Decidable.not_not.1 h4,Decidable.not_not.1 h5,by omega⟩
theorem setN_get {S:TreeD} {n:NodeD} {no:Int} (hne:no≠n.no):getN (setT S n).nodes no=getN S.nodes no∧isN (setT S n).nodes no=isN S.nodes no:=by
 have : getO (setN S.nodes n) no=getO S.nodes no:=by
  unfold getO setN
  induction S.nodes with
  | nil=>rfl
  | cons m ms ih =>
   rw [List.map_cons,List.find?_cons,List.find?_cons]
   by_cases e:m.no=n.no
   ·have e1:(m.no == n.no)=true:=by simpa using e
    have e2:(n.no == no)=false:=by simpa using Ne.symm hne
    have e3:(m.no == no)=false:=by rw[e];exact e2
    rw [if_pos e1,e2,e3];exact ih
   ·have e1:¬(m.no == n.no)=true:=by simpa using e
    rw [if_neg e1]
    cases (m.no == no)
    ·exact ih
    ·rfl
 exact ⟨by show Option.getD (getO (setN S.nodes n) no) nodeZ=_;rw[this];rfl,by show Option.isSome (getO (setN S.nodes n) no)=_;rw[this];rfl⟩
theorem putF_find {l:List EntD} {nm:List UInt8} (hp:∀x∈l,1≤x.2) (hf:findF l nm=0):∀x∈l,x.1≠nm:=by
 intro x hx e;unfold findF at hf
 cases hg:l.find? (fun x=>x.1 == nm) with
 | none=>have:=List.find?_eq_none.1 hg x hx;simp at this;exact this e
 | some y =>
  rw [hg]at hf;have:=hp y (List.mem_of_find?_eq_some hg);simp only at hf;omega
theorem putF_keep {l:List EntD} {x:EntD} (h:∀y∈l,y.1≠x.1):∀y∈l,y∈putF l x:=by
 intro y hy;unfold putF lessF moreF;simp only[List.mem_append,List.mem_filter,List.mem_singleton];rcases bl_tri y.1 x.1 with g|g|g
 ·exact .inl (.inl ⟨hy,g⟩)
 ·exact absurd g (h y hy)
 ·exact .inr ⟨hy,g⟩
theorem tre_hard {c:Nat} {S:TreeD} (h:Tre c S) (cu cg now no dir:Int) (nm:List UInt8):Tre (c+1) (hardT S cu cg now no dir nm):=by
 unfold hardT;split
 ·rename_i h0
  obtain ⟨hp,hi,hk,hf,hv,hl⟩:=hardE_zero h0;obtain ⟨hid,hkd,hc⟩:=placeE_zero hp;obtain ⟨_,hno,hmem⟩:=isN_true hi;obtain ⟨_,hnod,hmemd⟩:=isN_true hid;have hb:=h.bits _ hmem;have hne:dir≠no:=fun e=>by subst e;exact hk hkd
  have e0:(hardN S now no).no=no:=hno;have h1:Tre c (setT S (hardN S now no)):=by
   have e1:∀{P:NodeD→Prop},P (getN S.nodes no)→P (getN S.nodes (hardN S now no).no):=fun hp=>by rw[e0];exact hp
   refine tre_set h (.inl rfl) (by rw[e0];exact hi) (Nat.le_refl _) (e1 (P:=fun m=>(hardN S now no).kind=m.kind) rfl) (e1 (P:=fun m=>(hardN S now no).dev=m.dev) rfl) (e1 (P:=fun m=>(hardN S now no).up=m.up) rfl) (fun hk1=>absurd hk1 hk) (h.rise (getN S.nodes no) hmem) (h.names (getN S.nodes no) hmem) (h.pos (getN S.nodes no) hmem) (h.small (getN S.nodes no) hmem) (h.on (getN S.nodes no) hmem).2
    ⟨hb.1,hb.2.1,by show 1≤(getN S.nodes no).links+1;omega,by show (getN S.nodes no).links+1≤1000;omega⟩ (fun x hx=>h.kin (getN S.nodes no) hmem x hx) (fun q hq hqk _ hqu hqn=>?_)
   rcases h.ups0 q hq hqk with⟨_,u2⟩|⟨_,_,m,hm,u3,u4,_⟩
   ·exact absurd (u2.symm.trans hqu) hqn
   ·have:=node_eq h.nos hm hmem (by rw[u3,hqu,e0,hno])
    subst this;exact absurd u4 hk
  obtain ⟨g1,g2⟩:=setN_get (S:=S) (n:=hardN S now no) (no:=dir) (by rw[e0];exact hne);have hx0:=putF_find (fun x hx=>(h.pos _ hmemd x hx).1) hf;have hnol:=h.nos.2 _ hmem;rw [hno]at hnol;refine tre_touch h1 (.inl rfl) (by rw[g2];exact hid) (by rw[g1];exact hkd) (Nat.le_succ _) (rise_putF _ (h.rise _ hmemd)) (fun x hx=>?_) (fun x hx=>?_) ?_ (fun x hx=>?_) (fun q hq hqk _ hqu hqn=>?_)
  ·rcases mem_putF hx with hx|rfl
   ·exact h.names _ hmemd x hx
   ·exact checkN_short hc
  ·rcases mem_putF hx with hx|rfl
   ·exact h.pos _ hmemd x hx
   ·exact hnol
  ·have:=putF_len (getN S.nodes dir).ents (nm,no)
   have:=h.small _ hmemd;omega
  ·rw [g1]
   rcases mem_putF hx with hx|rfl
   ·have:=h1.kin (getN S.nodes dir) (mem_set' hmemd (by rw[e0,hnod];exact hne)) x hx
    exact this
   ·refine ⟨by rw[hnod];exact fun e=>hne e.symm,fun d hd e=>?_,fun q hq e=>?_⟩
    ·obtain ⟨j,hj,rfl⟩:=List.getElem_of_mem hd
     obtain ⟨m,hm,o1,o2,_⟩:=h.rootsIn j hj;have:=node_eq h.nos hm hmem (by rw[o1,hno];exact e.symm);subst this;exact hk o2
    ·rcases mem_setT hq with⟨hq,hqn⟩|rfl
     ·exact absurd e (by rw[e0]at hqn;exact hqn)
     ·exact hv
  ·rcases mem_setT hq with⟨hq,_⟩|rfl
   ·rcases h.ups0 q hq hqk with⟨_,u2⟩|⟨_,_,m,hm,u3,_,_,x,hx,u6⟩
    ·exact absurd (u2.symm.trans hqu) hqn
    ·have:=node_eq h.nos hm hmemd (by rw[u3,hqu,hnod])
     subst this;exact ⟨x,putF_keep hx0 x hx,u6⟩
   ·exact absurd hqk hk
 ·exact tre_mono h (by omega)
open Go.ChangeShapes Go.WideShapes Go.ChangeAt Go.RowKit
def PlaceQ (w:World) (B:Nat) (S:TreeD) (cu cg dir:Int) (nm:List UInt8) (e:Ending) (w':World):Prop:=
 ∃ A c,e=.returned (.tuple #[.agg #[.int .i64 (placeN S cu cg dir nm).no,.int .i64 (placeN S cu cg dir nm).dev,.int .i64 (placeN S cu cg dir nm).kind,.int .i64 (placeN S cu cg dir nm).mode,.int .i64 (placeN S cu cg dir nm).uid,.int .i64 (placeN S cu cg dir nm).gid,.int .i64 (placeN S cu cg dir nm).mtime,.int .i64 (placeN S cu cg dir nm).ctime,.int .i64 (placeN S cu cg dir nm).links,.int .i64 (placeN S cu cg dir nm).up,.string (bs (placeN S cu cg dir nm).data),.slice A (placeN S cu cg dir nm).ents.length c],.int .i64 (placeE S cu cg dir nm)])∧NodeOk w' B (placeN S cu cg dir nm) A c∧Ext w w'
theorem pplace_any (B:Nat) (g:GhW) (S:TreeD) (cu cg dir:Int) (nm:List UInt8) (w:World) (h:WAt w B g S) (hd:0<S.devs.length) :
  Calls Tryz.prog 193 #[.pointer (some ⟨g.bW,0,none⟩),.agg #[.int .i64 cu,.int .i64 cg],.int .i64 dir,.string (bs nm)] w (PlaceQ w B S cu cg dir nm):=by
 have h0:=h;obtain ⟨h1,h2,cd,h3,h4⟩:=h;have hl0:((S.devs.length:Int) == 0)=false:=by simpa using (show ¬(S.devs.length:Int)=0 by omega)
 have E0:Ext w ((w.alloc (.cells #[.int .i64 cu,.int .i64 cg] 27)).alloc (.cells #[.int .i64 0,.int .i64 0,.int .i64 0,.int .i64 0,.int .i64 0,.int .i64 0,.int .i64 0,.int .i64 0,.int .i64 0,.int .i64 0,.string ⟨#[]⟩,.slice none 0 0] 66)):=((Ext.refl _).alloc _).alloc _;go_enter Tryz.func193,Tryz.ntmps193;go_wp2_with fail;refine (pdevs_any B g S _ (h0.ext E0) hd).mono ?_;rintro e w1 ⟨rfl,b1⟩;have E1:=E0.trans b1;have R0:=Has.new (w.alloc (.cells #[.int .i64 cu,.int .i64 cg] 27)) (.cells #[.int .i64 nodeZ.no,.int .i64 nodeZ.dev,.int .i64 nodeZ.kind,.int .i64 nodeZ.mode,.int .i64 nodeZ.uid,.int .i64 nodeZ.gid,.int .i64 nodeZ.mtime,.int .i64 nodeZ.ctime,.int .i64 nodeZ.links,.int .i64 nodeZ.up,.string (bs nodeZ.data),.slice none nodeZ.ents.length 0] 66);rw [World.size_alloc]at R0;have R1:=R0.ext b1;have C1:=((Has.new w (.cells #[.int .i64 cu,.int .i64 cg] 27)).alloc (.cells #[.int .i64 0,.int .i64 0,.int .i64 0,.int .i64 0,.int .i64 0,.int .i64 0,.int .i64 0,.int .i64 0,.int .i64 0,.int .i64 0,.string ⟨#[]⟩,.slice none 0 0] 66)).ext b1;have v0:w1.cell? ⟨g.bW,0,none⟩=some (.pointer (some ⟨g.bT,0,none⟩)):=(h3.ext E1).cell 0;have z1:=(h3.ext E1).lt;go_wp2_with fail;refine (tget_any B g.bT g.bM S.nodes S.last dir _ (h2.ext E1)).mono ?_;rintro e w2 ⟨A2,k2,rfl,ok2,b2⟩;have R2:=R1.ext b2;have C2:=C1.ext b2;have hm:Hid (placeE S cu cg dir nm=if isN S.nodes dir=false then 5 else if ¬(getN S.nodes dir).kind=1 then 9 else if ¬checkN nm=0 then checkN nm
  else if mayB cu cg (getN S.nodes dir).uid (getN S.nodes dir).gid (getN S.nodes dir).mode 3=false then 6 else 0):=by show _=_;rfl
 have hm2:Hid (placeN S cu cg dir nm=if placeE S cu cg dir nm=0 then getN S.nodes dir else nodeZ):=by show _=_;rfl
 obtain ⟨m,hmm⟩:∃m,m=getN S.nodes dir:=⟨_,rfl⟩;rw [←hmm]at ok2 hm hm2⊢;obtain ⟨W3,hW3⟩:∃W3,W3=w2.alloc (.cells #[.int .i64 m.no,.int .i64 m.dev,.int .i64 m.kind,.int .i64 m.mode,.int .i64 m.uid,.int .i64 m.gid,.int .i64 m.mtime,.int .i64 m.ctime,.int .i64 m.links,.int .i64 m.up,.string (bs m.data),.slice A2 m.ents.length k2] 66):=⟨_,rfl⟩;have E23:Ext w2 W3:=by rw[hW3];exact (Ext.refl _).alloc _
 have N3:Has W3 w2.heap.size (.cells #[.int .i64 m.no,.int .i64 m.dev,.int .i64 m.kind,.int .i64 m.mode,.int .i64 m.uid,.int .i64 m.gid,.int .i64 m.mtime,.int .i64 m.ctime,.int .i64 m.links,.int .i64 m.up,.string (bs m.data),.slice A2 m.ents.length k2] 66):=by rw[hW3];exact Has.new _ _
 have R3:=R2.ext E23;have C3:=C2.ext E23;have E3:Ext w W3:=(E1.trans b2).trans E23;obtain ⟨b8,hb8⟩:∃b8,b8=w2.heap.size:=⟨_,rfl⟩;obtain ⟨i,hi⟩:∃i,i=isN S.nodes dir:=⟨_,rfl⟩;rw [←hi]at hm⊢;obtain ⟨ck,hck⟩:∃ck,ck=checkN nm:=⟨_,rfl⟩;rw [←hck]at hm;have HCK:=zH hck;clear v0 hmm hi hck R1 C1 R2 C2;go_upto_region 4 with fail;rw [←hW3];rw [←hb8]at N3⊢;clear hW3 hb8;go_wp2_with fail;refine (pcheck_any (bs nm) _).mono ?_;rw [show (bs nm).data.toList=nm from bs_list nm,←HCK.out];rintro e w4 ⟨rfl,b4⟩;have R4:=R3.ext b4;have C4:=C3.ext b4;have N4:=N3.ext b4;have E4:=E3.trans b4;have ok4:=(ok2.ext E23).ext b4;clear R3 C3 N3 E3 b4;have HS:Hid (∀(w5 w6:World) (x:Int),Ext w w5→Only [w.heap.size+1] w5 w6→placeE S cu cg dir nm=x→x≠0→PlaceQ w B S cu cg dir nm (.returned (.tuple #[.agg #[.int .i64 nodeZ.no,.int .i64 nodeZ.dev,.int .i64 nodeZ.kind,.int .i64 nodeZ.mode,.int .i64 nodeZ.uid,.int .i64 nodeZ.gid,.int .i64 nodeZ.mtime,.int .i64 nodeZ.ctime,.int .i64 nodeZ.links,.int .i64 nodeZ.up,.string (bs nodeZ.data),.slice none nodeZ.ents.length 0],.int .i64 x])) w6):=by
  show ∀(w5 w6:World) (x:Int),_;intro w5 w6 x hE hO hx hx0;have hN:placeN S cu cg dir nm=nodeZ:=by rw[hm2.out,if_neg (by rw[hx];exact hx0)]
  exact ⟨none,0,by rw[hx,hN],by rw[hN];exact NodeOk.zero _ _,hO.after hE (by simp)⟩
 cases i
 ·have hE:Hid (placeE S cu cg dir nm=5):=by show _=_;rw[hm.out];rfl
  clear hm;go_wp2_with (refine wpList_store_node rfl _ _ rfl (w.heap.size+1) nodeZ none 0 rfl rfl R4 ?_;intro w5 R5 O5);refine bodyPost_ret (v:=.tuple #[.agg #[.int .i64 nodeZ.no,.int .i64 nodeZ.dev,.int .i64 nodeZ.kind,.int .i64 nodeZ.mode,.int .i64 nodeZ.uid,.int .i64 nodeZ.gid,.int .i64 nodeZ.mtime,.int .i64 nodeZ.ctime,.int .i64 nodeZ.links,.int .i64 nodeZ.up,.string (bs nodeZ.data),.slice none nodeZ.ents.length 0],.int .i64 5]) (res_node Tryz.results193 _ _ (w.heap.size+1) nodeZ none 0 _ rfl rfl R5) rfl ?_;exact HS.out _ _ _ E4 O5 hE.out (by decide)
 ·have k2' : w4.cell? ⟨b8,2,none⟩=some (.int .i64 m.kind):=N4.cell 2
  have kz:=N4.lt
  by_cases c1:m.kind=1
  ·have t1 : (m.kind == 1)=true:=by simpa using c1
   have t1b:(m.kind != 1)=false:=by simpa using c1
   by_cases c2:ck=0
   ·have t2:(ck == 0)=true:=by simpa using c2
    have t2b:(ck != 0)=false:=by simpa using c2
    obtain ⟨u,hu⟩:∃u,u=mayB cu cg m.uid m.gid m.mode 3:=⟨_,rfl⟩;have hm3:Hid (placeE S cu cg dir nm=if u=false then 6 else 0):=by show _=_;rw[hm.out,if_neg (by decide),if_neg (by simpa using c1),if_neg (by simpa using c2),hu]
    have HU:=zH hu;have x0:w4.cell? ⟨w.heap.size,0,none⟩=some (.int .i64 cu):=C4.cell 0;have x1:w4.cell? ⟨w.heap.size,1,none⟩=some (.int .i64 cg):=C4.cell 1;have xz:=C4.lt;clear hm hu c1 c2;go_wp2_with (refine wpList_load_node rfl _ rfl b8 m A2 k2 rfl N4 ?_);refine (pnode_any cu cg _ _ _ m.mode m.uid m.gid _ _ _ _ _ _ 3 _).mono ?_;rw [←HU.out];rintro e w5 ⟨rfl,b5⟩;have R5:=R4.ext b5;have N5:=N4.ext b5;have E5:=E4.trans b5;clear x0 x1 xz k2' kz R4 N4
    cases u
    ·have hE:Hid (placeE S cu cg dir nm=6):=by show _=_;rw[hm3.out];rfl
     clear hm3;go_wp2_with (refine wpList_store_node rfl _ _ rfl (w.heap.size+1) nodeZ none 0 rfl rfl R5 ?_;intro w6 R6 O5);refine bodyPost_ret (v:=.tuple #[.agg #[.int .i64 nodeZ.no,.int .i64 nodeZ.dev,.int .i64 nodeZ.kind,.int .i64 nodeZ.mode,.int .i64 nodeZ.uid,.int .i64 nodeZ.gid,.int .i64 nodeZ.mtime,.int .i64 nodeZ.ctime,.int .i64 nodeZ.links,.int .i64 nodeZ.up,.string (bs nodeZ.data),.slice none nodeZ.ents.length 0],.int .i64 6]) (res_node Tryz.results193 _ _ (w.heap.size+1) nodeZ none 0 _ rfl rfl R6) rfl ?_;exact HS.out _ _ _ E5 O5 hE.out (by decide)
    ·have hE:Hid (placeE S cu cg dir nm=0):=by show _=_;rw[hm3.out];rfl
     have hN:Hid (placeN S cu cg dir nm=m):=by show _=_;rw[hm2.out,hE.out];rfl
     clear hm3;go_wp2_with (first|(refine wpList_load_node rfl _ rfl b8 m A2 k2 rfl N5 ?_)|(refine wpList_store_node rfl _ _ rfl (w.heap.size+1) m A2 k2 rfl rfl R5 ?_;intro w6 R6 O6));refine bodyPost_ret (v:=.tuple #[.agg #[.int .i64 m.no,.int .i64 m.dev,.int .i64 m.kind,.int .i64 m.mode,.int .i64 m.uid,.int .i64 m.gid,.int .i64 m.mtime,.int .i64 m.ctime,.int .i64 m.links,.int .i64 m.up,.string (bs m.data),.slice A2 m.ents.length k2],.int .i64 0]) (res_node Tryz.results193 _ _ (w.heap.size+1) m A2 k2 _ rfl rfl R6) rfl ?_;have ok6:NodeOk w6 B m A2 k2:=((ok4.ext b5).only O6 (by
      intro b hb;rw [List.mem_singleton]at hb;subst hb;exact ⟨by have:=h1;have:=h0.lt.1;omega,R5.noTag (by decide)⟩))
     exact ⟨A2,k2,by rw[hE.out,hN.out],by rw[hN.out];exact ok6,O6.after E5 (by simp)⟩
   ·have t2:(ck == 0)=false:=by simpa using c2
    have t2b:(ck != 0)=true:=by simpa using c2
    have hE:Hid (placeE S cu cg dir nm=ck):=by show _=_;rw[hm.out,if_neg (by decide),if_neg (by simpa using c1),if_pos c2]
    have HC2:=zH c2;clear hm c1 c2;go_wp2_with (refine wpList_store_node rfl _ _ rfl (w.heap.size+1) nodeZ none 0 rfl rfl R4 ?_;intro w5 R5 O5);refine bodyPost_ret (v:=.tuple #[.agg #[.int .i64 nodeZ.no,.int .i64 nodeZ.dev,.int .i64 nodeZ.kind,.int .i64 nodeZ.mode,.int .i64 nodeZ.uid,.int .i64 nodeZ.gid,.int .i64 nodeZ.mtime,.int .i64 nodeZ.ctime,.int .i64 nodeZ.links,.int .i64 nodeZ.up,.string (bs nodeZ.data),.slice none nodeZ.ents.length 0],.int .i64 ck]) (res_node Tryz.results193 _ _ (w.heap.size+1) nodeZ none 0 _ rfl rfl R5) rfl ?_;exact HS.out _ _ _ E4 O5 hE.out HC2.out
  ·have t1:(m.kind == 1)=false:=by simpa using c1
   have t1b:(m.kind != 1)=true:=by simpa using c1
   have hE:Hid (placeE S cu cg dir nm=9):=by show _=_;rw[hm.out,if_neg (by decide),if_pos c1]
   clear hm c1;go_wp2_with (refine wpList_store_node rfl _ _ rfl (w.heap.size+1) nodeZ none 0 rfl rfl R4 ?_;intro w5 R5 O5);refine bodyPost_ret (v:=.tuple #[.agg #[.int .i64 nodeZ.no,.int .i64 nodeZ.dev,.int .i64 nodeZ.kind,.int .i64 nodeZ.mode,.int .i64 nodeZ.uid,.int .i64 nodeZ.gid,.int .i64 nodeZ.mtime,.int .i64 nodeZ.ctime,.int .i64 nodeZ.links,.int .i64 nodeZ.up,.string (bs nodeZ.data),.slice none nodeZ.ents.length 0],.int .i64 9]) (res_node Tryz.results193 _ _ (w.heap.size+1) nodeZ none 0 _ rfl rfl R5) rfl ?_;exact HS.out _ _ _ E4 O5 hE.out (by decide)
def TouchR (w:World) (B:Nat) (g:GhW) (T:TreeD) (e:Ending) (w':World):Prop:=e=.returned (.tuple #[])∧WAt w' B g T∧Only g.list w w'
def TouchF (w:World) (B:Nat) (g:GhF) (T:TreeD) (X:Xtra) (e:Ending) (w':World):Prop:=e=.returned (.tuple #[])∧FAt w' B g T X∧Only g.list w w'
theorem ptouch_any (B:Nat) (g:GhW) (S:TreeD) (dir now:Int) (A:Option Addr) (l:List EntD) (cap:Nat) (w:World) (h:WAt w B g S) (hu:NosUp S.nodes S.last) (hl:EntsT w B A l) (hc1:l.length≤cap) (hc2:cap≤maxLen) (hc3:A=none→cap=0) :
  Calls Tryz.prog 194 #[.pointer (some ⟨g.bW,0,none⟩),.int .i64 dir,.int .i64 now,.slice A l.length cap] w (TouchR w B g (touchT S dir now l)):=by
 have h0:=h;obtain ⟨_,_,cd,h3,_⟩:=id h;have v0:w.cell? ⟨g.bW,0,none⟩=some (.pointer (some ⟨g.bT,0,none⟩)):=h3.cell 0;have z1:=h3.lt;have HL:=zH hl;obtain ⟨L,hL⟩:∃L,L=l.length:=⟨_,rfl⟩;rw [←hL];have HLL:=zH hL;have HU:=zH hu;clear h3 hl hL hu;go_enter Tryz.func194,Tryz.ntmps194;go_wp2_with fail;refine (tget_any B g.bT g.bM S.nodes S.last dir _ h0.2.1).mono ?_;rintro e w2 ⟨A2,k2,rfl,ok2,b2⟩;obtain ⟨m,hmm⟩:∃m,m=getN S.nodes dir:=⟨_,rfl⟩;rw [←hmm]at ok2⊢;have HM:=zH hmm;obtain ⟨W3,hW3⟩:∃W3,W3=w2.alloc (.cells #[.int .i64 m.no,.int .i64 m.dev,.int .i64 m.kind,.int .i64 m.mode,.int .i64 m.uid,.int .i64 m.gid,.int .i64 m.mtime,.int .i64 m.ctime,.int .i64 m.links,.int .i64 m.up,.string (bs m.data),.slice A2 m.ents.length k2] 66):=⟨_,rfl⟩;have E23:Ext w2 W3:=by rw[hW3];exact (Ext.refl _).alloc _
 obtain ⟨b8,hb8⟩:∃b8,b8=w2.heap.size:=⟨_,rfl⟩;have N3:Has W3 b8 (.cells #[.int .i64 m.no,.int .i64 m.dev,.int .i64 m.kind,.int .i64 m.mode,.int .i64 m.uid,.int .i64 m.gid,.int .i64 m.mtime,.int .i64 m.ctime,.int .i64 m.links,.int .i64 m.up,.string (bs m.data),.slice A2 m.ents.length k2] 66):=by rw[hW3,hb8];exact Has.new _ _
 have E3:Ext w W3:=b2.trans E23;have hbw:w.heap.size≤b8:=by rw[hb8];exact b2.size
 clear v0 hmm;go_upto_region 1 with fail;rw [←hW3];rw [←hb8];clear hW3 hb8;have y11:W3.cell? ⟨b8,11,none⟩=some (.slice A2 m.ents.length k2):=N3.cell 11;have y6:W3.cell? ⟨b8,6,none⟩=some (.int .i64 m.mtime):=N3.cell 6;have y7:W3.cell? ⟨b8,7,none⟩=some (.int .i64 m.ctime):=N3.cell 7;have yf:∀i,W3.frozen? ⟨b8,i,none⟩=false:=fun i=>(N3.free i).trans (by simp)
 have yz:=N3.lt;obtain ⟨n,hn⟩:∃n:NodeD,n={m with ents:=l,mtime:=now,ctime:=now}:=⟨_,rfl⟩;have HN:=zH hn;clear hn;go_upto_region 2 with fail;obtain ⟨V,hV⟩:∃V,V=((W3.setCell ⟨b8,11,none⟩ (.slice A L cap)).setCell ⟨b8,6,none⟩ (.int .i64 now)).setCell ⟨b8,7,none⟩ (.int .i64 now):=⟨_,rfl⟩;rw [←hV];have NV:Has V b8 (.cells #[.int .i64 n.no,.int .i64 n.dev,.int .i64 n.kind,.int .i64 n.mode,.int .i64 n.uid,.int .i64 n.gid,.int .i64 n.mtime,.int .i64 n.ctime,.int .i64 n.links,.int .i64 n.up,.string (bs n.data),.slice A n.ents.length cap] 66):=by rw[hV,HN.out,HLL.out];exact ((N3.setCell 11 _).setCell 6 _).setCell 7 _
 have OV:Only [b8] W3 V:=by rw[hV];exact ((Only.setCell _ _ _ _).then (Only.setCell _ _ _ _)).then (Only.setCell _ _ _ _)
 have EV:Ext w V:=OV.after E3 (by intro x hx;rw[List.mem_singleton]at hx;omega);have KV:=h0.ext EV;have okV:NodeOk V B n A cap:=by
  refine ⟨?_,by rw[HN.out];exact hc1,hc2,hc3⟩;rw [HN.out];exact HL.out.ext EV
 clear hV y11 y6 y7 yf yz;obtain ⟨_,_,cdV,hWV,_⟩:=id KV;have v0:V.cell? ⟨g.bW,0,none⟩=some (.pointer (some ⟨g.bT,0,none⟩)):=hWV.cell 0;have vz:=hWV.lt;obtain ⟨x0,x1,x2,x3,x4,x5,x6,x7,x8,x9,x10,x11⟩:=NV.node12;have zN:=NV.lt;clear hWV;go_still_tail 5,(by kernel_rfl);change wpList _ _ _ _ _ V.drew;go_wp2_with fail;have ED:Ext V V.drew:=(Ext.refl _).drew;refine (wset_any B g S n A cap _ (KV.ext ED) HU.out (okV.ext ED)).mono ?_;rintro e w8 ⟨rfl,K8,O8⟩;go_wp2_with fail;go_end0;have e2:touchT S dir now l=setT S n:=by unfold touchT touchN;rw[HN.out,HM.out]
 exact ⟨rfl,by rw[e2];exact K8,Only.pre (EV.trans ED) O8⟩
theorem rtouch_any (B:Nat) (g:GhF) (S:TreeD) (X:Xtra) (dir:Int) (A:Option Addr) (l:List EntD) (cap:Nat) (w:World) (h:FAt w B g S X) (hnl:S.nodes.length≤1000000) (hu:NosUp S.nodes S.last) (hl:EntsT w B A l) (hc1:l.length≤cap) (hc2:cap≤maxLen) (hc3:A=none→cap=0) :
  Calls Tryz.prog 166 #[.pointer (some ⟨g.bF,0,none⟩),.int .i64 dir,.slice A l.length cap] w (TouchF w B g (touchT S dir X.now l) X):=by
 have HL:=zH hl;obtain ⟨L,hL⟩:∃L,L=l.length:=⟨_,rfl⟩;rw [←hL];have HLL:=zH hL;have HU:=zH hu;clear hl hL hu;go_enter Tryz.func166,Tryz.ntmps166;go_wp2_with fail;refine (rget_any B g S X dir _ h hnl HU.out).mono ?_;rintro e w2 ⟨A2,k2,rfl,ok2,b2⟩;obtain ⟨m,hmm⟩:∃m,m=getN S.nodes dir:=⟨_,rfl⟩;rw [←hmm]at ok2⊢;have HM:=zH hmm;obtain ⟨W3,hW3⟩:∃W3,W3=w2.alloc (.cells #[.int .i64 m.no,.int .i64 m.dev,.int .i64 m.kind,.int .i64 m.mode,.int .i64 m.uid,.int .i64 m.gid,.int .i64 m.mtime,.int .i64 m.ctime,.int .i64 m.links,.int .i64 m.up,.string (bs m.data),.slice A2 m.ents.length k2] 66):=⟨_,rfl⟩;have E23:Ext w2 W3:=by rw[hW3];exact (Ext.refl _).alloc _
 obtain ⟨b8,hb8⟩:∃b8,b8=w2.heap.size:=⟨_,rfl⟩;have N3:Has W3 b8 (.cells #[.int .i64 m.no,.int .i64 m.dev,.int .i64 m.kind,.int .i64 m.mode,.int .i64 m.uid,.int .i64 m.gid,.int .i64 m.mtime,.int .i64 m.ctime,.int .i64 m.links,.int .i64 m.up,.string (bs m.data),.slice A2 m.ents.length k2] 66):=by rw[hW3,hb8];exact Has.new _ _
 have E3:Ext w W3:=b2.trans E23;have hbw:w.heap.size≤b8:=by rw[hb8];exact b2.size
 clear hmm;go_upto_region 1 with fail;rw [←hW3];rw [←hb8];clear hW3 hb8;have y11:W3.cell? ⟨b8,11,none⟩=some (.slice A2 m.ents.length k2):=N3.cell 11;have y6:W3.cell? ⟨b8,6,none⟩=some (.int .i64 m.mtime):=N3.cell 6;have y7:W3.cell? ⟨b8,7,none⟩=some (.int .i64 m.ctime):=N3.cell 7;have yf:∀i,W3.frozen? ⟨b8,i,none⟩=false:=fun i=>(N3.free i).trans (by simp)
 have yz:=N3.lt;have nw:W3.cell? ⟨g.bF,3,none⟩=some (.int .i64 X.now):=by obtain⟨_,_,_,k,_⟩:=h.ext E3;exact k.cell 3
 have nz:=(h.ext E3).lt.1;have hlt:=h.lt.1;have nbf:(b8=g.bF)=False:=eq_false (by omega);have nbf2:(g.bF=b8)=False:=eq_false (by omega);obtain ⟨n,hn⟩:∃n:NodeD,n={m with ents:=l,mtime:=X.now,ctime:=X.now}:=⟨_,rfl⟩;have HN:=zH hn;clear hn;go_upto_region 4 with fail;obtain ⟨V,hV⟩:∃V,V=((W3.setCell ⟨b8,11,none⟩ (.slice A L cap)).setCell ⟨b8,6,none⟩ (.int .i64 X.now)).setCell ⟨b8,7,none⟩ (.int .i64 X.now):=⟨_,rfl⟩;rw [←hV];have NV:Has V b8 (.cells #[.int .i64 n.no,.int .i64 n.dev,.int .i64 n.kind,.int .i64 n.mode,.int .i64 n.uid,.int .i64 n.gid,.int .i64 n.mtime,.int .i64 n.ctime,.int .i64 n.links,.int .i64 n.up,.string (bs n.data),.slice A n.ents.length cap] 66):=by rw[hV,HN.out,HLL.out];exact ((N3.setCell 11 _).setCell 6 _).setCell 7 _
 have OV:Only [b8] W3 V:=by rw[hV];exact ((Only.setCell _ _ _ _).then (Only.setCell _ _ _ _)).then (Only.setCell _ _ _ _)
 have EV:Ext w V:=OV.after E3 (by intro x hx;rw[List.mem_singleton]at hx;omega);have okV:NodeOk V B n A cap:=by
  refine ⟨?_,by rw[HN.out];exact hc1,hc2,hc3⟩;rw [HN.out];exact HL.out.ext EV
 clear hV y11 y6 y7 yf yz nw nz nbf nbf2;go_wp2_with (refine wpList_load_node rfl _ rfl b8 n A cap rfl NV ?_);refine (rset_any B g S X n A cap _ (h.ext EV) hnl HU.out okV).mono ?_;rintro e w5 ⟨rfl,K5,O5⟩;go_wp2_with fail;go_end0;have e2:touchT S dir X.now l=setT S n:=by unfold touchT touchN;rw[HN.out,HM.out]
 exact ⟨rfl,by rw[e2];exact K5,Only.pre EV O5⟩
attribute [local irreducible] wpLexE
attribute [local go_sem] changeUpon
theorem nos_make {S:TreeD} (h:Live S) (n:NodeD):NosUp (makeT S n).nodes (makeT S n).last:=by
 unfold makeT;split
 ·exact h.nos.add {n with no:=S.last+1} rfl (by have:=h.last;omega)
 ·exact h.nos
structure Ok (S:TreeD):Prop where
 live:Live S
 ents:∀n∈S.nodes,Rise n.ents∧n.ents.length≤100000
 links:∀n∈S.nodes,1≤n.links∧n.links≤1000
theorem Tre.ok {c:Nat} {S:TreeD} (h:Tre c S) (hc:c≤100000):Ok S:=⟨h.live,fun n hn=>⟨h.rise n hn,by have:=h.small n hn;omega⟩,fun n hn=>(h.bits n hn).2.2⟩
theorem Ok.entsN {S:TreeD} (h:Ok S) (no:Int):Rise (getN S.nodes no).ents∧(getN S.nodes no).ents.length≤100000:=by
 cases hi:isN S.nodes no
 ·rw[(isN_false hi).1];exact⟨List.Pairwise.nil,Nat.zero_le _⟩
 ·exact h.ents _ (isN_true hi).2.2
theorem numOf_findF {l:List EntD} {nm:List UInt8} (hr:Rise l):numOf l nm=findF l nm:=by
 unfold findF numOf
 cases hh:has l nm
 ·have:l.find? (·.1 == nm)=none:=by
   rw [List.find?_eq_none];intro x hx;unfold has at hh;rw [List.any_eq_false]at hh;exact hh x hx
  rw [this];rfl
 ·obtain ⟨hp,he⟩:=has_lt hr hh
  have:l.find? (·.1 == nm)=some l[pos l nm]:=by
   rw [List.find?_eq_some_iff_getElem];refine ⟨by simp[he],pos l nm,hp,rfl,fun j hj=>?_⟩;have h1:=pos_less l nm j hj (by omega);unfold lt at h1;have:=bl_ne h1;simp [this]
  rw [this];simp [List.getD_eq_getElem?_getD,List.getElem?_eq_getElem hp]
def putJ (n:NodeD) (dev cu cg now:Int):Nat→NodeD
 | 0=>n
 | 1=>{n with dev:=dev}
 | 2=>{n with dev:=dev,uid:=cu}
 | 3=>{n with dev:=dev,uid:=cu,gid:=cg}
 | 4=>{n with dev:=dev,uid:=cu,gid:=cg,mtime:=now}
 | 5=>{n with dev:=dev,uid:=cu,gid:=cg,mtime:=now,ctime:=now}
 | _=>{n with dev:=dev,uid:=cu,gid:=cg,mtime:=now,ctime:=now,links:=1}
def PutR (w:World) (B:Nat) (g:GhW) (S:TreeD) (cu cg now dir:Int) (nm:List UInt8) (n:NodeD) (e:Ending) (w':World):Prop:=
 e = .returned (.tuple #[.int .i64 (comeN S cu cg now dir nm n),.int .i64 (comeE S cu cg now dir nm n)])∧WAt w' B g (comeT S cu cg now dir nm n)∧Only g.list w w'
theorem putR_same {w w':World} {B:Nat} {g:GhW} {S:TreeD} {cu cg now dir x:Int} {nm:List UInt8} {n:NodeD} (h:WAt w B g S) (hE:Ext w w') (hx:comeE S cu cg now dir nm n=x) (h0:x≠0):PutR w B g S cu cg now dir nm n (.returned (.tuple #[.int .i64 0,.int .i64 x])) w':=by
 refine ⟨?_,?_,Only.of_ext hE⟩
 ·unfold comeN;rw[hx,if_neg h0]
 ·unfold comeT;rw[hx,if_neg h0];exact h.ext hE
theorem pput_any (B:Nat) (g:GhW) (S:TreeD) (cu cg now dir:Int) (nm:List UInt8) (n:NodeD) (A:Option Addr) (c:Nat) (w:World) (h:WAt w B g S) (O:Ok S) (hl1:S.last≤100000) (hn:NodeOk w B n A c) (hdl:n.data.length≤1000000000) :
    Calls Tryz.prog 191 #[.pointer (some ⟨g.bW,0,none⟩),.agg #[.int .i64 cu,.int .i64 cg],.int .i64 now,.int .i64 dir,.string (bs nm),.agg #[.int .i64 n.no,.int .i64 n.dev,.int .i64 n.kind,.int .i64 n.mode,.int .i64 n.uid,.int .i64 n.gid,.int .i64 n.mtime,.int .i64 n.ctime,.int .i64 n.links,.int .i64 n.up,.string (bs n.data),.slice A n.ents.length c]] w (PutR w B g S cu cg now dir nm n):=by
  obtain ⟨W0,hW0⟩:∃W0,W0=(w.alloc (.cells #[.int .i64 cu,.int .i64 cg] 27)).alloc (.cells #[.int .i64 n.no,.int .i64 n.dev,.int .i64 n.kind,.int .i64 n.mode,.int .i64 n.uid,.int .i64 n.gid,.int .i64 n.mtime,.int .i64 n.ctime,.int .i64 n.links,.int .i64 n.up,.string (bs n.data),.slice A n.ents.length c] 66):=⟨_,rfl⟩
  have E0:Ext w W0:=by rw[hW0];exact ((Ext.refl _).alloc _).alloc _
  obtain ⟨b7,hb7⟩:∃b,b=w.heap.size:=⟨_,rfl⟩
  have C0:Has W0 b7 (.cells #[.int .i64 cu,.int .i64 cg] 27):=by rw[hW0,hb7];exact (Has.new w _).alloc _
  have N0:Has W0 (b7+1) (.cells #[.int .i64 n.no,.int .i64 n.dev,.int .i64 n.kind,.int .i64 n.mode,.int .i64 n.uid,.int .i64 n.gid,.int .i64 n.mtime,.int .i64 n.ctime,.int .i64 n.links,.int .i64 n.up,.string (bs n.data),.slice A n.ents.length c] 66):=by
    rw [hW0,hb7]
    have:=Has.new (w.alloc (.cells #[.int .i64 cu,.int .i64 cg] 27)) (.cells #[.int .i64 n.no,.int .i64 n.dev,.int .i64 n.kind,.int .i64 n.mode,.int .i64 n.uid,.int .i64 n.gid,.int .i64 n.mtime,.int .i64 n.ctime,.int .i64 n.links,.int .i64 n.up,.string (bs n.data),.slice A n.ents.length c] 66)
    rwa [World.size_alloc]at this
  have HSZ0:w.heap.size+2≤W0.heap.size:=by rw[hW0];simp
  have HO:=zH O
  have hm:Hid (comeE S cu cg now dir nm n=if ¬placeE S cu cg dir nm=0 then placeE S cu cg dir nm else if ¬findF (getN S.nodes dir).ents nm=0 then 7 else makeE S (newN S cu cg now dir n)):=by show _=_;rfl
  have hp:Hid (placeE S cu cg dir nm=0→placeN S cu cg dir nm=getN S.nodes dir∧isN S.nodes dir=true):=fun h0=>⟨placeN_zero h0,(placeE_zero h0).1⟩
  have HS:Hid (∀(w':World) (x:Int),Ext w w'→comeE S cu cg now dir nm n=x→x≠0→PutR w B g S cu cg now dir nm n (.returned (.tuple #[.int .i64 0,.int .i64 x])) w'):=by
    show ∀(w':World) (x:Int),_
    exact fun w' x hE hx h0=>putR_same h hE hx h0
  have HE0:=zH E0
  clear O
  go_enter Tryz.func191,Tryz.ntmps191
  go_upto_region 1 with fail
  rw [←hW0]
  rw [←hb7]
  have hb7a:b7≤w.heap.size:=by omega
  have hb7b:w.heap.size≤b7:=by omega
  clear hW0 hb7
  have x0:W0.cell? ⟨b7,0,none⟩=some (.int .i64 cu):=C0.cell 0
  have x1:W0.cell? ⟨b7,1,none⟩=some (.int .i64 cg):=C0.cell 1
  have xz:=C0.lt
  go_wp2_with fail
  refine (pplace_any B g S cu cg dir nm _ (h.ext E0) HO.out.live.devs).mono ?_
  rintro e w2 ⟨A2,k2,rfl,ok2,b2⟩
  obtain ⟨m,hmm⟩:∃m,m=placeN S cu cg dir nm:=⟨_,rfl⟩
  obtain ⟨x,hx⟩:∃x,x=placeE S cu cg dir nm:=⟨_,rfl⟩
  rw [←hmm]at ok2 hp
  rw [←hx]at hm hp
  rw [←hmm,←hx]
  obtain ⟨W3,hW3⟩:∃W3,W3=w2.alloc (.cells #[.int .i64 m.no,.int .i64 m.dev,.int .i64 m.kind,.int .i64 m.mode,.int .i64 m.uid,.int .i64 m.gid,.int .i64 m.mtime,.int .i64 m.ctime,.int .i64 m.links,.int .i64 m.up,.string (bs m.data),.slice A2 m.ents.length k2] 66):=⟨_,rfl⟩
  obtain ⟨b14,hb14⟩:∃b,b=w2.heap.size:=⟨_,rfl⟩
  have E23:Ext w2 W3:=by rw[hW3];exact (Ext.refl _).alloc _
  have M3:Has W3 b14 (.cells #[.int .i64 m.no,.int .i64 m.dev,.int .i64 m.kind,.int .i64 m.mode,.int .i64 m.uid,.int .i64 m.gid,.int .i64 m.mtime,.int .i64 m.ctime,.int .i64 m.links,.int .i64 m.up,.string (bs m.data),.slice A2 m.ents.length k2] 66):=by rw[hW3,hb14];exact Has.new _ _
  have E03:Ext W0 W3:=b2.trans E23
  have C3:=C0.ext E03
  have N3:=N0.ext E03
  have ok3:=ok2.ext E23
  have hb14w:W0.heap.size≤b14:=by rw[hb14];exact b2.size
  clear x0 x1 xz hmm hx C0 N0
  go_upto_region 2 with fail
  rw [←hW3]
  rw [←hb14]
  clear hW3 hb14
  by_cases hx0:x=0
  · have t0 : (x == 0)=true:=by simpa using hx0
    have t0b:(x != 0)=false:=by simpa using hx0
    obtain ⟨hmg,hid⟩:=hp.out hx0
    have hm2:Hid (comeE S cu cg now dir nm n=if ¬findF m.ents nm=0 then 7 else makeE S (newN S cu cg now dir n)):=by show _=_;rw[hm.out,if_neg (by simpa using hx0),←hmg]
    have HMG:=zH hmg
    have HID:=zH hid
    have hen:=HO.out.entsN dir
    rw [←hmg]at hen
    have HEN:=zH hen
    have k11:W3.cell? ⟨b14,11,none⟩=some (.slice A2 m.ents.length k2):=M3.cell 11
    have kz:=M3.lt
    clear hm hp hx0 hmg hid hen
    go_wp2_with fail
    refine (find_any A2 m.ents k2 nm _ ok3.ents.ents HEN.out.1 (by have:=HEN.out.2;omega)).mono ?_
    rw [numOf_findF HEN.out.1]
    rintro e w4 ⟨rfl,b4⟩
    obtain ⟨v,hv⟩:∃v,v=findF m.ents nm:=⟨_,rfl⟩
    rw [←hv]at hm2
    rw [←hv]
    have C4:=C3.ext b4
    have N4:=N3.ext b4
    have M4:=M3.ext b4
    have ok4:=ok3.ext b4
    have E4:=E03.trans b4
    clear hv k11 kz C3 N3 M3 ok3 E03 b4
    by_cases hv0:v=0
    · have t1:(v == 0)=true:=by simpa using hv0
      have t1b:(v != 0)=false:=by simpa using hv0
      have hm3:Hid (comeE S cu cg now dir nm n=makeE S (newN S cu cg now dir n)):=by show _=_;rw[hm2.out,if_neg (by simpa using hv0)]
      clear hm2 hv0
      go_upto_region 6 with fail
      obtain ⟨b11,hb11⟩:∃b,b=b7+1:=⟨_,rfl⟩
      rw [←hb11]at N4⊢
      have hb11a:b11≤b7+1:=by omega
      have hb11b:b7+1≤b11:=by omega
      clear hb11
      have hlw:=h.lt
      have s0:=E0.size
      have hne1:b14≠b11:=by have:=b2.size;omega
      have hne2:b7≠b11:=by omega
      obtain ⟨Ph,hPh⟩:∃Ph:Nat→World→Prop,Ph=fun j w'=>Has w' b11 (.cells #[.int .i64 (putJ n m.dev cu cg now j).no,.int .i64 (putJ n m.dev cu cg now j).dev,.int .i64 (putJ n m.dev cu cg now j).kind,.int .i64 (putJ n m.dev cu cg now j).mode,.int .i64 (putJ n m.dev cu cg now j).uid,.int .i64 (putJ n m.dev cu cg now j).gid,.int .i64 (putJ n m.dev cu cg now j).mtime,.int .i64 (putJ n m.dev cu cg now j).ctime,.int .i64 (putJ n m.dev cu cg now j).links,.int .i64 (putJ n m.dev cu cg now j).up,.string (bs (putJ n m.dev cu cg now j).data),.slice A (putJ n m.dev cu cg now j).ents.length c] 66)∧Only [b11] w4 w':=⟨_,rfl⟩
      have HV:Hid (Ph 0 w4.drew):=by show Ph 0 _;rw[hPh];exact⟨N4.ext (Ext.refl _).drew,Only.of_ext (Ext.refl _).drew⟩
      have hne:Nonempty (Hp Ph):=⟨⟨0,_,HV.out⟩⟩
      have KQ:Hid (∀w',Ph 6 w'→Has w' b11 (.cells #[.int .i64 (newN S cu cg now dir n).no,.int .i64 (newN S cu cg now dir n).dev,.int .i64 (newN S cu cg now dir n).kind,.int .i64 (newN S cu cg now dir n).mode,.int .i64 (newN S cu cg now dir n).uid,.int .i64 (newN S cu cg now dir n).gid,.int .i64 (newN S cu cg now dir n).mtime,.int .i64 (newN S cu cg now dir n).ctime,.int .i64 (newN S cu cg now dir n).links,.int .i64 (newN S cu cg now dir n).up,.string (bs (newN S cu cg now dir n).data),.slice A (newN S cu cg now dir n).ents.length c] 66)∧Only [b11] w4 w'):=by
        show ∀w',_
        intro w' hw
        rw [hPh]at hw
        refine ⟨?_,hw.2⟩
        have:=hw.1
        rw [HMG.out]at this
        exact this
      have u1:∀u:Hp Ph,u.w.cell? ⟨b14,1,none⟩=some (.int .i64 m.dev):=by
        rintro ⟨j,u,hu⟩
        rw [hPh]at hu
        exact (hu.2.has M4 (by simpa using hne1)).cell 1
      have u2:∀u:Hp Ph,u.w.cell? ⟨b7,0,none⟩=some (.int .i64 cu):=by
        rintro ⟨j,u,hu⟩
        rw [hPh]at hu
        exact (hu.2.has C4 (by simpa using hne2)).cell 0
      have u3:∀u:Hp Ph,u.w.cell? ⟨b7,1,none⟩=some (.int .i64 cg):=by
        rintro ⟨j,u,hu⟩
        rw [hPh]at hu
        exact (hu.2.has C4 (by simpa using hne2)).cell 1
      have f0:∀u:Wc (Ph 0),u.w.cell? ⟨b11,1,none⟩=some (.int .i64 n.dev):=by
        rintro ⟨u,hu⟩
        rw [hPh]at hu
        exact hu.1.cell 1
      have g0:∀u:Wc (Ph 0),u.w.frozen? ⟨b11,1,none⟩=false:=by
        rintro ⟨u,hu⟩
        rw [hPh]at hu
        exact (hu.1.free 1).trans (by simp)
      have KS0:Hid (∀u:Wc (Ph 0),Ph 1 (u.w.setCell ⟨b11,1,none⟩ (.int .i64 m.dev))):=by
        show ∀u:Wc (Ph 0),_
        rintro ⟨u,hu⟩
        dsimp only
        rw [hPh]at hu⊢
        exact ⟨hu.1.setCell 1 _,hu.2.then (Only.setCell _ _ _ _)⟩
      have f1:∀u:Wc (Ph 1),u.w.cell? ⟨b11,4,none⟩=some (.int .i64 n.uid):=by
        rintro ⟨u,hu⟩
        rw [hPh]at hu
        exact hu.1.cell 4
      have g1:∀u:Wc (Ph 1),u.w.frozen? ⟨b11,4,none⟩=false:=by
        rintro ⟨u,hu⟩
        rw [hPh]at hu
        exact (hu.1.free 4).trans (by simp)
      have KS1:Hid (∀u:Wc (Ph 1),Ph 2 (u.w.setCell ⟨b11,4,none⟩ (.int .i64 cu))):=by
        show ∀u:Wc (Ph 1),_
        rintro ⟨u,hu⟩
        dsimp only
        rw [hPh]at hu⊢
        exact ⟨hu.1.setCell 4 _,hu.2.then (Only.setCell _ _ _ _)⟩
      have f2:∀u:Wc (Ph 2),u.w.cell? ⟨b11,5,none⟩=some (.int .i64 n.gid):=by
        rintro ⟨u,hu⟩
        rw [hPh]at hu
        exact hu.1.cell 5
      have g2:∀u:Wc (Ph 2),u.w.frozen? ⟨b11,5,none⟩=false:=by
        rintro ⟨u,hu⟩
        rw [hPh]at hu
        exact (hu.1.free 5).trans (by simp)
      have KS2:Hid (∀u:Wc (Ph 2),Ph 3 (u.w.setCell ⟨b11,5,none⟩ (.int .i64 cg))):=by
        show ∀u:Wc (Ph 2),_
        rintro ⟨u,hu⟩
        dsimp only
        rw [hPh]at hu⊢
        exact ⟨hu.1.setCell 5 _,hu.2.then (Only.setCell _ _ _ _)⟩
      have f3:∀u:Wc (Ph 3),u.w.cell? ⟨b11,6,none⟩=some (.int .i64 n.mtime):=by
        rintro ⟨u,hu⟩
        rw [hPh]at hu
        exact hu.1.cell 6
      have g3:∀u:Wc (Ph 3),u.w.frozen? ⟨b11,6,none⟩=false:=by
        rintro ⟨u,hu⟩
        rw [hPh]at hu
        exact (hu.1.free 6).trans (by simp)
      have KS3:Hid (∀u:Wc (Ph 3),Ph 4 (u.w.setCell ⟨b11,6,none⟩ (.int .i64 now))):=by
        show ∀u:Wc (Ph 3),_
        rintro ⟨u,hu⟩
        dsimp only
        rw [hPh]at hu⊢
        exact ⟨hu.1.setCell 6 _,hu.2.then (Only.setCell _ _ _ _)⟩
      have f4:∀u:Wc (Ph 4),u.w.cell? ⟨b11,7,none⟩=some (.int .i64 n.ctime):=by
        rintro ⟨u,hu⟩
        rw [hPh]at hu
        exact hu.1.cell 7
      have g4:∀u:Wc (Ph 4),u.w.frozen? ⟨b11,7,none⟩=false:=by
        rintro ⟨u,hu⟩
        rw [hPh]at hu
        exact (hu.1.free 7).trans (by simp)
      have KS4:Hid (∀u:Wc (Ph 4),Ph 5 (u.w.setCell ⟨b11,7,none⟩ (.int .i64 now))):=by
        show ∀u:Wc (Ph 4),_
        rintro ⟨u,hu⟩
        dsimp only
        rw [hPh]at hu⊢
        exact ⟨hu.1.setCell 7 _,hu.2.then (Only.setCell _ _ _ _)⟩
      have f5:∀u:Wc (Ph 5),u.w.cell? ⟨b11,8,none⟩=some (.int .i64 n.links):=by
        rintro ⟨u,hu⟩
        rw [hPh]at hu
        exact hu.1.cell 8
      have g5:∀u:Wc (Ph 5),u.w.frozen? ⟨b11,8,none⟩=false:=by
        rintro ⟨u,hu⟩
        rw [hPh]at hu
        exact (hu.1.free 8).trans (by simp)
      have KS5:Hid (∀u:Wc (Ph 5),Ph 6 (u.w.setCell ⟨b11,8,none⟩ (.int .i64 1))):=by
        show ∀u:Wc (Ph 5),_
        rintro ⟨u,hu⟩
        dsimp only
        rw [hPh]at hu⊢
        exact ⟨hu.1.setCell 8 _,hu.2.then (Only.setCell _ _ _ _)⟩
      clear hPh
      refine wp_region_phase Ph [9,11,13,15,17,19] (by kernel_rfl) (by kernel_rfl) (by kernel_rfl) HV.out ?_
      repeat (first
        | (refine wpLexE_plain (by kernel_rfl) (fun K hK=>?_)
           go_simp
           refine hK _ ?_
           clear hK K)
        | (refine wpLexE_change 0 (by kernel_rfl) rfl (fun K hK=>?_)
           go_simp
           refine ⟨⟨undef,fun u=>⟨rfl,KS0.out u⟩⟩,hK _ ?_⟩
           clear hK K)
        | (refine wpLexE_change 1 (by kernel_rfl) rfl (fun K hK=>?_)
           go_simp
           refine ⟨⟨undef,fun u=>⟨rfl,KS1.out u⟩⟩,hK _ ?_⟩
           clear hK K)
        | (refine wpLexE_change 2 (by kernel_rfl) rfl (fun K hK=>?_)
           go_simp
           refine ⟨⟨undef,fun u=>⟨rfl,KS2.out u⟩⟩,hK _ ?_⟩
           clear hK K)
        | (refine wpLexE_change 3 (by kernel_rfl) rfl (fun K hK=>?_)
           go_simp
           refine ⟨⟨undef,fun u=>⟨rfl,KS3.out u⟩⟩,hK _ ?_⟩
           clear hK K)
        | (refine wpLexE_change 4 (by kernel_rfl) rfl (fun K hK=>?_)
           go_simp
           refine ⟨⟨undef,fun u=>⟨rfl,KS4.out u⟩⟩,hK _ ?_⟩
           clear hK K)
        | (refine wpLexE_change 5 (by kernel_rfl) rfl (fun K hK=>?_)
           go_simp
           refine ⟨⟨undef,fun u=>⟨rfl,KS5.out u⟩⟩,hK _ ?_⟩
           clear hK K))
      refine wpLexE_nil ?_
      intro w5 hw5
      obtain ⟨N5,O5⟩:=KQ.out _ hw5
      clear u1 u2 u3 f0 f1 f2 f3 f4 f5 g0 g1 g2 g3 g4 g5 KS0 KS1 KS2 KS3 KS4 KS5 KQ HV hw5 hne
      obtain ⟨n',hn'⟩:∃n',n'=newN S cu cg now dir n:=⟨_,rfl⟩
      rw [←hn']at N5 hm3
      have hdn:n'.data=n.data:=by rw[hn'];rfl
      have hden:n'.ents=n.ents:=by rw[hn'];rfl
      have HN':=zH hn'
      have HDN:=zH hdn
      have ha4:Apart w4 B [b11]:=by
        intro b hb
        rw [List.mem_singleton]at hb
        subst hb
        exact ⟨by have:=h.1;omega,N4.noTag (by decide)⟩
      have hnb:∀b∈g.list,b∉[b11]:=by
        intro b hb
        simp only[GhW.list,List.mem_cons,List.not_mem_nil,or_false]at hb
        rw [List.mem_singleton]
        rcases hb with rfl|rfl|rfl|rfl<;>omega
      have Ew4:Ext w w4:=E0.trans E4
      have K5:WAt w5 B g S:=(h.ext Ew4).only O5 ha4 hnb
      have okn5:NodeOk w5 B n' A c:=((hn.ext Ew4).only O5 ha4).same hden
      have ok5:=ok4.only O5 ha4
      have M5:=O5.has M4 (by simpa using hne1)
      have Ow5:Only g.list w w5:=(Only.of_ext Ew4).trans O5 (by intro b hb;rw[List.mem_singleton]at hb;right;omega)
      have E5:Ext w w5:=O5.after Ew4 (by intro b hb;rw[List.mem_singleton]at hb;omega)
      clear hn' hdn hden
      go_wp2_with (refine wpList_load_node rfl _ rfl b11 n' A c rfl N5 ?_)
      refine (pmake_any B g S n' A c _ K5 okn5 HO.out.live.roots HO.out.live.devs HO.out.live.eight HO.out.live.nos (by have:=HO.out.live.last;omega) (by omega) (by rw[HDN.out];exact hdl)).mono ?_
      rintro e w6 ⟨rfl,K6,O6⟩
      obtain ⟨e6,he6⟩:∃e6,e6=makeE S n':=⟨_,rfl⟩
      have hno:makeE S n'=0→makeN S n'=S.last+1:=fun h0=>by unfold makeN;rw[if_pos h0]
      obtain ⟨no,hno2⟩:∃no,no=makeN S n':=⟨_,rfl⟩
      rw [←he6,←hno2]at hno
      rw [←he6]at hm3
      rw [←he6,←hno2]
      have HNO:=zH hno
      have HE6:=zH he6
      have M6:=O6.has M5 (by simp only[GhW.list,List.mem_cons,List.not_mem_nil,or_false];omega)
      have ok6:=ok5.only O6 K5.apart
      have Ow6:=Ow5.then O6
      clear hno hno2 he6
      by_cases hz:e6=0
      · have t2:(e6 == 0)=true:=by simpa using hz
        have t2b:(e6 != 0)=false:=by simpa using hz
        have HZ:=zH hz
        have k11:w6.cell? ⟨b14,11,none⟩=some (.slice A2 m.ents.length k2):=M6.cell 11
        have kz:=M6.lt
        clear hz
        go_wp2_with fail
        refine (put_any A2 m.ents k2 nm no _ ok6.ents.ents ok6.nil HEN.out.1 ok6.cap ok6.max (by have:=HEN.out.2;omega)).mono ?_
        rintro e w7 ⟨v7,rfl,hown,b7'⟩
        rw [putP_putF _ _ _ HEN.out.1]at hown
        obtain ⟨A7,c7,rfl,q1,q2,q3,q4⟩:=hown.entsT (B:=B)
        obtain ⟨T,hT⟩:∃T,T=makeT S n':=⟨_,rfl⟩
        rw [←hT]at K6
        have hTu:NosUp T.nodes T.last:=by rw[hT];exact nos_make HO.out.live _
        obtain ⟨L7,hL7⟩:∃L,L=putF m.ents (nm,no):=⟨_,rfl⟩
        rw [←hL7]at q1 q3⊢
        have KTT:Hid (Calls Tryz.prog 194 #[.pointer (some ⟨g.bW,0,none⟩),.int .i64 dir,.int .i64 now,.slice A7 L7.length c7] w7 (TouchR w7 B g (touchT T dir now L7))):=ptouch_any B g T dir now A7 L7 c7 w7 (K6.ext b7') hTu q3 q1 q2 q4
        have HT:=zH hT
        have HL7:=zH hL7
        clear k11 kz hown q1 q2 q3 q4 hT hL7
        go_wp2_with fail
        refine KTT.out.mono ?_
        rintro e w8 ⟨rfl,K8,O8⟩
        go_wp2_with fail
        go_ret2
        have e1:comeE S cu cg now dir nm n=0:=by rw[hm3.out];exact HZ.out
        have e2:comeN S cu cg now dir nm n=no:=by unfold comeN;rw[if_pos e1];exact (HNO.out HZ.out).symm
        have e3:comeT S cu cg now dir nm n=touchT T dir now L7:=by
          unfold comeT
          rw [if_pos e1,HT.out,HL7.out,←HN'.out,HMG.out,HNO.out HZ.out]
        refine ⟨by rw[e1,e2];rfl,by rw[e3];exact K8,(Ow6.ext b7').then O8⟩
      · have t2:(e6 == 0)=false:=by simpa using hz
        have t2b:(e6 != 0)=true:=by simpa using hz
        have HZ:=zH hz
        clear hz
        go_wp2_with fail
        go_ret2
        have e1:comeE S cu cg now dir nm n=e6:=hm3.out
        have e2:comeN S cu cg now dir nm n=0:=by unfold comeN;rw[if_neg (by rw[e1];exact HZ.out)]
        have e3:comeT S cu cg now dir nm n=S:=by unfold comeT;rw[if_neg (by rw[e1];exact HZ.out)]
        have e4:makeT S n'=S:=by unfold makeT;rw[if_neg (by rw[←HE6.out];exact HZ.out)]
        rw [e4]at K6
        exact ⟨by rw[e1,e2];rfl,by rw[e3];exact K6,Ow6⟩
    · have t1:(v == 0)=false:=by simpa using hv0
      have t1b:(v != 0)=true:=by simpa using hv0
      have hE:Hid (comeE S cu cg now dir nm n=7):=by show _=_;rw[hm2.out,if_pos hv0]
      clear hm2 hv0
      go_wp2_with fail
      go_ret2
      exact HS.out _ _ (HE0.out.trans E4) hE.out (by decide)
  · have t0:(x == 0)=false:=by simpa using hx0
    have t0b:(x != 0)=true:=by simpa using hx0
    have hE:Hid (comeE S cu cg now dir nm n=x):=by show _=_;rw[hm.out,if_pos hx0]
    have HX:=zH hx0
    clear hm hx0
    go_wp2_with fail
    go_ret2
    exact HS.out _ _ (HE0.out.trans E03) hE.out HX.out
end Go.Proofs.YtpibnfdolojpcaaGreat
namespace Go.Proofs.YtpibnfdolojpcaaGreat
open Go.ChangeShapes Go.WideShapes Go.ChangeAt Go.RowKit
theorem phard_any (B:Nat) (g:GhW) (S:TreeD) (cu cg now no dir:Int) (nm:List UInt8) (w:World) (h:WAt w B g S) (O:Ok S) :
  Calls Tryz.prog 159 #[.pointer (some ⟨g.bW,0,none⟩),.agg #[.int .i64 cu,.int .i64 cg],.int .i64 now,.int .i64 no,.int .i64 dir,.string (bs nm)] w (ErrR w B g (hardT S cu cg now no dir nm) (hardE S cu cg no dir nm)):=by
 obtain ⟨W0,hW0⟩:∃W0,W0=w.alloc (.cells #[.int .i64 cu,.int .i64 cg] 27):=⟨_,rfl⟩;have E0:Ext w W0:=by rw[hW0];exact (Ext.refl _).alloc _
 have C0:Has W0 w.heap.size (.cells #[.int .i64 cu,.int .i64 cg] 27):=by rw[hW0];exact Has.new w _
 have HO:=zH O;have hm:Hid (hardE S cu cg no dir nm=if ¬placeE S cu cg dir nm=0 then placeE S cu cg dir nm else if isN S.nodes no=false then 5 else if (getN S.nodes no).kind=1 then 4
  else if ¬findF (getN S.nodes dir).ents nm=0 then 7 else if ¬(getN S.nodes no).dev=(getN S.nodes dir).dev then 11 else if 1000≤(getN S.nodes no).links then 18 else 0):=by show _=_;rfl
 have hp:Hid (placeE S cu cg dir nm=0→placeN S cu cg dir nm=getN S.nodes dir∧isN S.nodes dir=true):=fun h0=>⟨placeN_zero h0,(placeE_zero h0).1⟩
 have HS:Hid (∀(w':World) (x:Int),Ext w w'→hardE S cu cg no dir nm=x→x≠0→ErrR w B g (hardT S cu cg now no dir nm) (hardE S cu cg no dir nm) (.returned (.int .i64 x)) w'):=by
  show ∀(w':World) (x:Int),_;intro w' x hE hx h0;rw [hx];exact errR_same h hE (by unfold hardT;rw[if_neg (by rw[hx];exact h0)])
 clear O;go_enter Tryz.func159,Tryz.ntmps159;go_upto_region 1 with fail;rw [←hW0];clear hW0;have x0:W0.cell? ⟨w.heap.size,0,none⟩=some (.int .i64 cu):=C0.cell 0;have x1:W0.cell? ⟨w.heap.size,1,none⟩=some (.int .i64 cg):=C0.cell 1;have xz:=C0.lt;go_wp2_with fail;refine (pplace_any B g S cu cg dir nm _ (h.ext E0) HO.out.live.devs).mono ?_;rintro e w2 ⟨A2,k2,rfl,ok2,b2⟩;obtain ⟨m,hmm⟩:∃m,m=placeN S cu cg dir nm:=⟨_,rfl⟩;obtain ⟨x,hx⟩:∃x,x=placeE S cu cg dir nm:=⟨_,rfl⟩;rw [←hmm]at ok2 hp;rw [←hx]at hm hp;rw [←hmm,←hx];obtain ⟨W3,hW3⟩:∃W3,W3=w2.alloc (.cells #[.int .i64 m.no,.int .i64 m.dev,.int .i64 m.kind,.int .i64 m.mode,.int .i64 m.uid,.int .i64 m.gid,.int .i64 m.mtime,.int .i64 m.ctime,.int .i64 m.links,.int .i64 m.up,.string (bs m.data),.slice A2 m.ents.length k2] 66):=⟨_,rfl⟩;obtain ⟨b13,hb13⟩:∃b,b=w2.heap.size:=⟨_,rfl⟩;have E23:Ext w2 W3:=by rw[hW3];exact (Ext.refl _).alloc _
 have M3:Has W3 b13 (.cells #[.int .i64 m.no,.int .i64 m.dev,.int .i64 m.kind,.int .i64 m.mode,.int .i64 m.uid,.int .i64 m.gid,.int .i64 m.mtime,.int .i64 m.ctime,.int .i64 m.links,.int .i64 m.up,.string (bs m.data),.slice A2 m.ents.length k2] 66):=by rw[hW3,hb13];exact Has.new _ _
 have E3:Ext w W3:=E0.trans (b2.trans E23);have ok3:=ok2.ext E23;have hb13w:w.heap.size≤b13:=by rw[hb13];exact (E0.trans b2).size
 clear x0 x1 xz hmm hx C0;go_upto_region 2 with fail;rw [←hW3];rw [←hb13];clear hW3 hb13
 by_cases hx0:x=0
 ·have t0:(x == 0)=true:=by simpa using hx0
  have t0b:(x != 0)=false:=by simpa using hx0
  obtain ⟨hmg,hid⟩:=hp.out hx0;have hm2:Hid (hardE S cu cg no dir nm=if isN S.nodes no=false then 5 else if (getN S.nodes no).kind=1 then 4 else if ¬findF m.ents nm=0 then 7 else if ¬(getN S.nodes no).dev=m.dev then 11 else if 1000≤(getN S.nodes no).links then 18 else 0):=by
   show _=_;rw[hm.out,if_neg (by simpa using hx0),←hmg]
  have HMG:=zH hmg;have hen:=HO.out.entsN dir;rw [←hmg]at hen;have HEN:=zH hen;obtain ⟨_,_,cd,h3,_⟩:=id (h.ext E3);have v0:W3.cell? ⟨g.bW,0,none⟩=some (.pointer (some ⟨g.bT,0,none⟩)):=h3.cell 0;have z1:=h3.lt;clear hm hp hx0 hmg hid hen h3;go_wp2_with fail;refine (tget_any B g.bT g.bM S.nodes S.last no _ (h.ext E3).2.1).mono ?_;rintro e w4 ⟨A4,k4,rfl,ok4,b4⟩;obtain ⟨n,hn⟩:∃n,n=getN S.nodes no:=⟨_,rfl⟩;obtain ⟨i,hi⟩:∃i,i=isN S.nodes no:=⟨_,rfl⟩;have hlk:isN S.nodes no=true→1≤(getN S.nodes no).links∧(getN S.nodes no).links≤1000:=fun hi=>HO.out.links _ (isN_true hi).2.2
  rw [←hn,←hi]at hlk;rw [←hn]at ok4 hm2;rw [←hi]at hm2;rw [←hn,←hi];have HLK:=zH hlk;obtain ⟨W5,hW5⟩:∃W5,W5=w4.alloc (.cells #[.int .i64 n.no,.int .i64 n.dev,.int .i64 n.kind,.int .i64 n.mode,.int .i64 n.uid,.int .i64 n.gid,.int .i64 n.mtime,.int .i64 n.ctime,.int .i64 n.links,.int .i64 n.up,.string (bs n.data),.slice A4 n.ents.length k4] 66):=⟨_,rfl⟩;obtain ⟨b15,hb15⟩:∃b,b=w4.heap.size:=⟨_,rfl⟩;have E45:Ext w4 W5:=by rw[hW5];exact (Ext.refl _).alloc _
  have N5:Has W5 b15 (.cells #[.int .i64 n.no,.int .i64 n.dev,.int .i64 n.kind,.int .i64 n.mode,.int .i64 n.uid,.int .i64 n.gid,.int .i64 n.mtime,.int .i64 n.ctime,.int .i64 n.links,.int .i64 n.up,.string (bs n.data),.slice A4 n.ents.length k4] 66):=by rw[hW5,hb15];exact Has.new _ _
  have E35:Ext W3 W5:=b4.trans E45;have M5:=M3.ext E35;have ok5:=ok3.ext E35;have okn5:=ok4.ext E45;have E5:=E3.trans E35;have hb15w:W3.heap.size≤b15:=by rw[hb15];exact b4.size
  have hbne:b13<b15:=by have:=M3.lt;omega
  have HNN:=zH hn;have HI:=zH hi;clear v0 z1 hn hi M3 ok3 ok4 E3 hlk;go_upto_region 5 with fail;rw [←hW5];rw [←hb15];clear hW5 hb15
  cases i
  ·have hE:Hid (hardE S cu cg no dir nm=5):=by show _=_;rw[hm2.out];rfl
   clear hm2;go_wp2_with fail;go_ret;exact HS.out _ _ E5 hE.out (by decide)
  have k2':W5.cell? ⟨b15,2,none⟩=some (.int .i64 n.kind):=N5.cell 2;have kz:=N5.lt
  by_cases c1:n.kind=1
  ·have t1:(n.kind == 1)=true:=by simpa using c1
   have hE:Hid (hardE S cu cg no dir nm=4):=by show _=_;rw[hm2.out,if_neg (by decide),if_pos c1]
   clear hm2;go_wp2_with fail;go_ret;exact HS.out _ _ E5 hE.out (by decide)
  have t1:(n.kind == 1)=false:=by simpa using c1
  have k11:W5.cell? ⟨b13,11,none⟩=some (.slice A2 m.ents.length k2):=M5.cell 11;have kz2:=M5.lt;have HC1:=zH c1;clear c1;go_wp2_with fail;refine (find_any A2 m.ents k2 nm _ ok5.ents.ents HEN.out.1 (by have:=HEN.out.2;omega)).mono ?_;rw [numOf_findF HEN.out.1];rintro e w6 ⟨rfl,b6⟩;obtain ⟨v,hv⟩:∃v,v=findF m.ents nm:=⟨_,rfl⟩;rw [←hv]at hm2;rw [←hv];have N6:=N5.ext b6;have M6:=M5.ext b6;have ok6:=ok5.ext b6;have okn6:=okn5.ext b6;have E6:=E5.trans b6;clear hv k2' kz k11 kz2 N5 M5 ok5 okn5
  by_cases c2:v=0
  case neg =>
   have t2:(v == 0)=false:=by simpa using c2
   have t2b:(v != 0)=true:=by simpa using c2
   have hE:Hid (hardE S cu cg no dir nm=7):=by show _=_;rw[hm2.out,if_neg (by decide),if_neg HC1.out,if_pos c2]
   clear hm2 c2;go_wp2_with fail;go_ret;exact HS.out _ _ E6 hE.out (by decide)
  have t2:(v == 0)=true:=by simpa using c2
  have t2b:(v != 0)=false:=by simpa using c2
  have y1:w6.cell? ⟨b15,1,none⟩=some (.int .i64 n.dev):=N6.cell 1;have y2:w6.cell? ⟨b13,1,none⟩=some (.int .i64 m.dev):=M6.cell 1;have y3:w6.cell? ⟨b15,8,none⟩=some (.int .i64 n.links):=N6.cell 8;have yz:=N6.lt;have yz2:=M6.lt;have HC2:=zH (show ¬¬v=0 by simpa using c2);clear c2
  by_cases c3:n.dev=m.dev
  case neg =>
   have t3:(n.dev == m.dev)=false:=by simpa using c3
   have t3b:(n.dev != m.dev)=true:=by simpa using c3
   have hE:Hid (hardE S cu cg no dir nm=11):=by show _=_;rw[hm2.out,if_neg (by decide),if_neg HC1.out,if_neg HC2.out,if_pos c3]
   clear hm2 c3;go_wp2_with fail;go_ret;exact HS.out _ _ E6 hE.out (by decide)
  have t3:(n.dev == m.dev)=true:=by simpa using c3
  have t3b:(n.dev != m.dev)=false:=by simpa using c3
  have HC3:=zH (show ¬¬n.dev=m.dev by simpa using c3);clear c3
  by_cases c4:1000≤n.links
  ·have t4:decide (1000≤n.links)=true:=decide_eq_true c4
   have hE:Hid (hardE S cu cg no dir nm=18):=by show _=_;rw[hm2.out,if_neg (by decide),if_neg HC1.out,if_neg HC2.out,if_neg HC3.out,if_pos c4]
   clear hm2 c4;go_wp2_with fail;go_ret;exact HS.out _ _ E6 hE.out (by decide)
  have t4:decide (1000≤n.links)=false:=decide_eq_false c4;have hE:Hid (hardE S cu cg no dir nm=0):=by show _=_;rw[hm2.out,if_neg (by decide),if_neg HC1.out,if_neg HC2.out,if_neg HC3.out,if_neg c4]
  have hl1:=(HLK.out (by trivial)).1;have y4:IntKind.i64.wrap (n.links+1)=n.links+1:=wrap_i64_in (by omega) (by omega);have yf:∀i,w6.frozen? ⟨b15,i,none⟩=false:=fun i=>(N6.free i).trans (by simp)
  have y7:w6.cell? ⟨b15,7,none⟩=some (.int .i64 n.ctime):=N6.cell 7;obtain ⟨n',hn'⟩:∃n':NodeD,n'={n with links:=n.links+1,ctime:=now}:=⟨_,rfl⟩;have HN':=zH hn';clear hm2 c4 hl1 hn';go_upto_region 17 with fail;obtain ⟨V,hV⟩:∃V,V=(w6.setCell ⟨b15,8,none⟩ (.int .i64 (n.links+1))).setCell ⟨b15,7,none⟩ (.int .i64 now):=⟨_,rfl⟩;rw [←hV];have NV:Has V b15 (.cells #[.int .i64 (n').no,.int .i64 (n').dev,.int .i64 (n').kind,.int .i64 (n').mode,.int .i64 (n').uid,.int .i64 (n').gid,.int .i64 (n').mtime,.int .i64 (n').ctime,.int .i64 (n').links,.int .i64 (n').up,.string (bs (n').data),.slice A4 (n').ents.length k4] 66):=by rw[hV,HN'.out];exact (N6.setCell 8 _).setCell 7 _
  have OV:Only [b15] w6 V:=by rw[hV];exact (Only.setCell _ _ _ _).then (Only.setCell _ _ _ _)
  have haP:Apart w6 B [b15]:=by
   intro b hb;rw [List.mem_singleton]at hb;subst hb;exact ⟨by have:=h.1;have:=h.lt.1;have:=E0.size;have:=E35.size;omega,N6.noTag (by decide)⟩
  have EV:Ext w V:=OV.after E6 (by intro b hb;rw[List.mem_singleton]at hb;omega);have KV:=h.ext EV;have MV:=OV.has M6 (by rw[List.mem_singleton];omega);have okV:=ok6.only OV haP;have oknV:NodeOk V B n' A4 k4:=(okn6.only OV haP).same (by rw[HN'.out]);clear hV y1 y2 y3 y4 yf y7 yz yz2 N6 M6 ok6 okn6;obtain ⟨_,_,cdV,hWV,_⟩:=id KV;have v0:V.cell? ⟨g.bW,0,none⟩=some (.pointer (some ⟨g.bT,0,none⟩)):=hWV.cell 0;have vz:=hWV.lt;obtain ⟨x0,x1,x2,x3,x4,x5,x6,x7,x8,x9,x10,x11⟩:=NV.node12;have zN:=NV.lt;clear hWV;go_still_tail 5,(by kernel_rfl);change wpList _ _ _ _ _ V.drew;go_wp2_with fail;have ED:Ext V V.drew:=(Ext.refl _).drew;refine (wset_any B g S n' A4 k4 _ (KV.ext ED) HO.out.live.nos (oknV.ext ED)).mono ?_;rintro e w7 ⟨rfl,K7,O7⟩;have hb13g:b13∉g.list:=by
   have hlw:=h.lt;simp only[GhW.list,List.mem_cons,List.not_mem_nil,or_false];omega
  have M7:=O7.has (MV.ext ED) hb13g;have ok7:=(okV.ext ED).only O7 (KV.ext ED).apart;have Ow7:Only g.list w w7:=Only.pre (EV.trans ED) O7;obtain ⟨T,hT⟩:∃T,T=setT S n':=⟨_,rfl⟩;rw [←hT]at K7;have hTu:NosUp T.nodes T.last:=by rw[hT];exact HO.out.live.nos.set _
  have HT:=zH hT;have k11:w7.cell? ⟨b13,11,none⟩=some (.slice A2 m.ents.length k2):=M7.cell 11;have kz:=M7.lt;clear v0 vz x0 x1 x2 x3 x4 x5 x6 x7 x8 x9 x10 x11 zN hT;go_wp2_with fail;refine (put_any A2 m.ents k2 nm no _ ok7.ents.ents ok7.nil HEN.out.1 ok7.cap ok7.max (by have:=HEN.out.2;omega)).mono ?_;rintro e w8 ⟨v8,rfl,hown,b8'⟩;rw [putP_putF _ _ _ HEN.out.1]at hown;obtain ⟨A8,c8,rfl,q1,q2,q3,q4⟩:=hown.entsT (B:=B);obtain ⟨L8,hL8⟩:∃L,L=putF m.ents (nm,no):=⟨_,rfl⟩;rw [←hL8]at q1 q3⊢;have KTT:Hid (Calls Tryz.prog 194 #[.pointer (some ⟨g.bW,0,none⟩),.int .i64 dir,.int .i64 now,.slice A8 L8.length c8] w8 (TouchR w8 B g (touchT T dir now L8))):=ptouch_any B g T dir now A8 L8 c8 w8 (K7.ext b8') hTu q3 q1 q2 q4;have HL8:=zH hL8;clear k11 kz hown q1 q2 q3 q4 hL8;go_wp2_with fail;refine KTT.out.mono ?_;rintro e w9 ⟨rfl,K9,O9⟩;go_wp2_with fail;go_ret;rw [hE.out];have e3:hardT S cu cg now no dir nm=touchT T dir now L8:=by
   unfold hardT hardN;rw [if_pos hE.out,HT.out,HL8.out,HN'.out,HNN.out,HMG.out]
  exact ⟨rfl,by rw[e3];exact K9,(Ow7.ext b8').then O9⟩
 ·have t0:(x == 0)=false:=by simpa using hx0
  have t0b:(x != 0)=true:=by simpa using hx0
  have hE:Hid (hardE S cu cg no dir nm=x):=by show _=_;rw[hm.out,if_pos hx0]
  have HX:=zH hx0;clear hm hx0;go_wp2_with fail;go_ret;exact HS.out _ _ E3 hE.out HX.out
theorem rowned_any (B:Nat) (g:GhF) (S:TreeD) (X:Xtra) (cu cg no:Int) (w:World) (h:FAt w B g S X) (hnl:S.nodes.length≤1000000) (hu:NosUp S.nodes S.last) :
  Calls Tryz.prog 127 #[.pointer (some ⟨g.bF,0,none⟩),.agg #[.int .i64 cu,.int .i64 cg],.int .i64 no] w (Ret w (.int .i64 (ownE S cu no))):=by
 have E0:Ext w (w.alloc (.cells #[.int .i64 cu,.int .i64 cg] 27)):=(Ext.refl _).alloc _;have hm:Hid (ownE S cu no=if isN S.nodes no=false then 5 else if ownsB cu (getN S.nodes no).uid=false then 4 else 0):=by show _=_;rfl
 have hz:isN S.nodes no=false→(getN S.nodes no).no=0:=fun hi=>by rw[(isN_false hi).1];rfl
 have hz2:isN S.nodes no=true→(getN S.nodes no).no≠0:=fun hi=>by rw[(isN_true hi).2.1];have:=(hu.2 _ (isN_true hi).2.2).1;rw[(isN_true hi).2.1]at this;omega
 go_enter Tryz.func127,Tryz.ntmps127;go_wp2_with fail;refine (rget_any B g S X no _ (h.ext E0) hnl hu).mono ?_;rintro e w2 ⟨A,c,rfl,ok2,b2⟩;have C2:=(Has.new w (.cells #[.int .i64 cu,.int .i64 cg] 27)).ext b2;have E2:=E0.trans b2;obtain ⟨m,hmm⟩:∃m,m=getN S.nodes no:=⟨_,rfl⟩;obtain ⟨i,hi⟩:∃i,i=isN S.nodes no:=⟨_,rfl⟩;rw [←hmm]at ok2 hm hz hz2;rw [←hi]at hm hz hz2;rw [←hmm];obtain ⟨W3,hW3⟩:∃W3,W3=w2.alloc (.cells #[.int .i64 m.no,.int .i64 m.dev,.int .i64 m.kind,.int .i64 m.mode,.int .i64 m.uid,.int .i64 m.gid,.int .i64 m.mtime,.int .i64 m.ctime,.int .i64 m.links,.int .i64 m.up,.string (bs m.data),.slice A m.ents.length c] 66):=⟨_,rfl⟩;obtain ⟨b7,hb7⟩:∃b,b=w2.heap.size:=⟨_,rfl⟩;have E23:Ext w2 W3:=by rw[hW3];exact (Ext.refl _).alloc _
 have N3:Has W3 b7 (.cells #[.int .i64 m.no,.int .i64 m.dev,.int .i64 m.kind,.int .i64 m.mode,.int .i64 m.uid,.int .i64 m.gid,.int .i64 m.mtime,.int .i64 m.ctime,.int .i64 m.links,.int .i64 m.up,.string (bs m.data),.slice A m.ents.length c] 66):=by rw[hW3,hb7];exact Has.new _ _
 have C3:=C2.ext E23;have E3:=E2.trans E23;have HZ:=zH hz;have HZ2:=zH hz2;clear hmm hi hz hz2;go_upto_region 2 with fail;rw [←hW3];rw [←hb7];clear hW3 hb7;have k0:W3.cell? ⟨b7,0,none⟩=some (.int .i64 m.no):=N3.cell 0;have kz:=N3.lt
 cases i
 ·have t0:(m.no == 0)=true:=by simpa using HZ.out rfl
  have hE:Hid (ownE S cu no=5):=by show _=_;rw[hm.out];rfl
  clear hm;go_wp2_with fail;go_ret;exact Ret.mk (ret_int hE.out.symm) E3
 ·have t0:(m.no == 0)=false:=by simpa using HZ2.out rfl
  obtain ⟨u,hu'⟩:∃u,u=ownsB cu m.uid:=⟨_,rfl⟩;rw [←hu']at hm;have HU:=zH hu';have c0:W3.cell? ⟨w.heap.size,0,none⟩=some (.int .i64 cu):=C3.cell 0;have c1:W3.cell? ⟨w.heap.size,1,none⟩=some (.int .i64 cg):=C3.cell 1;have zc:=C3.lt;clear hu';go_wp2_with (refine wpList_load_node rfl _ rfl b7 m A c rfl N3 ?_);refine (rowns_any cu cg _ _ _ _ m.uid _ _ _ _ _ _ _ _).mono ?_;rw [←HU.out];rintro e w4 ⟨rfl,b4⟩
  cases u
  ·have hE:Hid (ownE S cu no=4):=by show _=_;rw[hm.out];rfl
   clear hm;go_wp2_with fail;go_ret;exact Ret.mk (ret_int hE.out.symm) (E3.trans b4)
  ·have hE:Hid (ownE S cu no=0):=by show _=_;rw[hm.out];rfl
   clear hm;go_wp2_with fail;go_ret;exact Ret.mk (ret_int hE.out.symm) (E3.trans b4)
theorem rmode_any (B:Nat) (g:GhF) (S:TreeD) (X:Xtra) (cu cg no mode:Int) (w:World) (h:FAt w B g S X) (hnl:S.nodes.length≤1000000) (hu:NosUp S.nodes S.last) :
  Calls Tryz.prog 76 #[.pointer (some ⟨g.bF,0,none⟩),.agg #[.int .i64 cu,.int .i64 cg],.int .i64 no,.int .i64 mode] w (ErrF w B g (modeT S cu X.now no mode) X (modeE S cu no mode)):=by
 have E0:Ext w (w.alloc (.cells #[.int .i64 cu,.int .i64 cg] 27)):=(Ext.refl _).alloc _;have hm:Hid (modeE S cu no mode=if ownE S cu no≠0 then ownE S cu no else if mode<0∨1023<mode∨(getN S.nodes no).kind=3 then 1 else 0):=by show _=_;rfl
 have hoz:Hid (ownE S cu no=0→isN S.nodes no=true):=fun h0=>(ownE_zero h0).1
 have HS:Hid (∀(w':World) (x:Int),Ext w w'→modeE S cu no mode=x→x≠0→ErrF w B g (modeT S cu X.now no mode) X (modeE S cu no mode) (.returned (.int .i64 x)) w'):=by
  show ∀(w':World) (x:Int),_;intro w' x hE hx hx0;rw [hx];exact errF_same h hE (by unfold modeT;rw[if_neg (by rw[hx];exact hx0)])
 go_enter Tryz.func76,Tryz.ntmps76;go_wp2_with fail;refine (rowned_any B g S X cu cg no _ (h.ext E0) hnl hu).mono ?_;rintro e w1 ⟨rfl,b1⟩;have E1:=E0.trans b1;have C1:=(Has.new w (.cells #[.int .i64 cu,.int .i64 cg] 27)).ext b1;obtain ⟨x,hx⟩:∃x,x=ownE S cu no:=⟨_,rfl⟩;rw [←hx]at hm hoz;rw [←hx];clear hx
 by_cases hx0:x=0
 ·have t0 : (x == 0)=true:=by simpa using hx0
  have t0b:(x != 0)=false:=by simpa using hx0
  have HN:=zH ((isN_true (hoz.out hx0)).2.1);have hm1:Hid (modeE S cu no mode=if mode<0∨1023<mode∨(getN S.nodes no).kind=3 then 1 else 0):=by show _=_;rw[hm.out,if_neg (by simpa using hx0)]
  clear hm hoz hx0;have EG:=E1;go_wp2_with fail;refine (rget_any B g S X no _ (h.ext EG) hnl hu).mono ?_;rintro e w2 ⟨A,c,rfl,ok2,b2⟩;have E2:=EG.trans b2;obtain ⟨m,hmm⟩:∃m,m=getN S.nodes no:=⟨_,rfl⟩;rw [←hmm]at ok2 HN hm1;rw [←hmm];have HM:=zH hmm;have nw:w2.cell? ⟨g.bF,3,none⟩=some (.int .i64 X.now):=by obtain⟨_,_,_,k,_⟩:=h.ext E2;exact k.cell 3
  have nz:=(h.ext E2).lt.1;clear hmm
  by_cases c1:mode<0
  ·have t1:decide (mode<0)=true:=decide_eq_true c1
   have hE:Hid (modeE S cu no mode=1):=by show _=_;rw[hm1.out,if_pos (.inl c1)]
   clear hm1 c1;go_wp2_with fail;go_ret;exact HS.out _ _ (E2.alloc _) hE.out (by decide)
  ·have t1:decide (mode<0)=false:=decide_eq_false c1
   by_cases c2:1023<mode
   ·have t2:decide (1023<mode)=true:=decide_eq_true c2
    have hE:Hid (modeE S cu no mode=1):=by show _=_;rw[hm1.out,if_pos (.inr (.inl c2))]
    clear hm1 c1 c2;go_wp2_with fail;go_ret;exact HS.out _ _ (E2.alloc _) hE.out (by decide)
   ·have t2:decide (1023<mode)=false:=decide_eq_false c2
    by_cases c3:m.kind=3
    ·have t3:(m.kind == 3)=true:=by simpa using c3
     have hE:Hid (modeE S cu no mode=1):=by show _=_;rw[hm1.out,if_pos (.inr (.inr c3))]
     clear hm1 c1 c2 c3;go_wp2_with fail;go_ret;exact HS.out _ _ (E2.alloc _) hE.out (by decide)
    ·have t3:(m.kind == 3)=false:=by simpa using c3
     have hE:Hid (modeE S cu no mode=0):=by show _=_;rw[hm1.out,if_neg (by rintro (g'|g'|g')<;>contradiction)]
     clear hm1 c1 c2 c3;go_upto_region 9 with fail;obtain ⟨n,hn⟩:∃n:NodeD,n={m with mode:=mode,ctime:=X.now}:=⟨_,rfl⟩;obtain ⟨V,hV⟩:∃V,V=w2.alloc (.cells #[.int .i64 n.no,.int .i64 n.dev,.int .i64 n.kind,.int .i64 n.mode,.int .i64 n.uid,.int .i64 n.gid,.int .i64 n.mtime,.int .i64 n.ctime,.int .i64 n.links,.int .i64 n.up,.string (bs n.data),.slice A n.ents.length c] 66):=⟨_,rfl⟩;have hV2:=hV;rw [hn]at hV2;rw [←hV2];have NV:Has V w2.heap.size (.cells #[.int .i64 n.no,.int .i64 n.dev,.int .i64 n.kind,.int .i64 n.mode,.int .i64 n.uid,.int .i64 n.gid,.int .i64 n.mtime,.int .i64 n.ctime,.int .i64 n.links,.int .i64 n.up,.string (bs n.data),.slice A n.ents.length c] 66):=by rw[hV];exact Has.new _ _
     have EV:Ext w V:=by rw[hV];exact E2.alloc _
     have okV:NodeOk V B n A c:=((ok2.ext (by rw[hV];exact (Ext.refl _).alloc _)).same (by rw[hn]));have HNN:=zH hn;clear hV hV2 hn nw nz;go_wp2_with (refine wpList_load_node rfl _ rfl w2.heap.size n A c rfl NV ?_);refine (rset_any B g S X n A c _ (h.ext EV) hnl hu okV).mono ?_;rintro e w5 ⟨rfl,K5,O5⟩;go_wp2_with fail;go_ret;rw [hE.out];refine ⟨rfl,?_,Only.pre EV O5⟩;have:modeT S cu X.now no mode=setT S n:=by unfold modeT;rw[if_pos hE.out,HNN.out,HM.out]
     rw [this];exact K5
 ·have t0:(x == 0)=false:=by simpa using hx0
  have t0b:(x != 0)=true:=by simpa using hx0
  have hE:Hid (modeE S cu no mode=x):=by show _=_;rw[hm.out,if_pos hx0]
  have HX:=zH hx0;clear hm hoz hx0;go_wp2_with fail;go_ret;exact HS.out _ _ E1 hE.out HX.out
theorem rowner_any (B:Nat) (g:GhF) (S:TreeD) (X:Xtra) (cu cg no uid gid:Int) (w:World) (h:FAt w B g S X) (hnl:S.nodes.length≤1000000) (hu:NosUp S.nodes S.last) :
  Calls Tryz.prog 75 #[.pointer (some ⟨g.bF,0,none⟩),.agg #[.int .i64 cu,.int .i64 cg],.int .i64 no,.int .i64 uid,.int .i64 gid] w (ErrF w B g (ownrT S cu X.now no uid gid) X (ownrE S cu no uid gid)):=by
 have E0:Ext w (w.alloc (.cells #[.int .i64 cu,.int .i64 cg] 27)):=(Ext.refl _).alloc _;have hm:Hid (ownrE S cu no uid gid=if ownE S cu no≠0 then ownE S cu no else if ¬cu=0 then 4 else if fineB uid gid=false then 1 else 0):=by show _=_;rfl
 have hoz:Hid (ownE S cu no=0→isN S.nodes no=true):=fun h0=>(ownE_zero h0).1
 have HS:Hid (∀(w':World) (x:Int),Ext w w'→ownrE S cu no uid gid=x→x≠0→ErrF w B g (ownrT S cu X.now no uid gid) X (ownrE S cu no uid gid) (.returned (.int .i64 x)) w'):=by
  show ∀(w':World) (x:Int),_;intro w' x hE hx hx0;rw [hx];exact errF_same h hE (by unfold ownrT;rw[if_neg (by rw[hx];exact hx0)])
 go_enter Tryz.func75,Tryz.ntmps75;go_wp2_with fail;refine (rowned_any B g S X cu cg no _ (h.ext E0) hnl hu).mono ?_;rintro e w1 ⟨rfl,b1⟩;have E1:=E0.trans b1;have C1:=(Has.new w (.cells #[.int .i64 cu,.int .i64 cg] 27)).ext b1;obtain ⟨x,hx⟩:∃x,x=ownE S cu no:=⟨_,rfl⟩;rw [←hx]at hm hoz;rw [←hx];clear hx
 by_cases hx0:x=0
 ·have t0:(x == 0)=true:=by simpa using hx0
  have t0b:(x != 0)=false:=by simpa using hx0
  have HN:=zH ((isN_true (hoz.out hx0)).2.1);have hm1:Hid (ownrE S cu no uid gid=if ¬cu=0 then 4 else if fineB uid gid=false then 1 else 0):=by show _=_;rw[hm.out,if_neg (by simpa using hx0)]
  clear hm hoz hx0;have k0:w1.cell? ⟨w.heap.size,0,none⟩=some (.int .i64 cu):=C1.cell 0;have kz:=C1.lt
  by_cases c1:cu=0
  ·have t1:(cu == 0)=true:=by simpa using c1
   have t1b:(cu != 0)=false:=by simpa using c1
   obtain ⟨u,hu'⟩:∃u,u=fineB uid gid:=⟨_,rfl⟩;rw [←hu']at hm1;have HU:=zH hu';have hm2:Hid (ownrE S cu no uid gid=if u=false then 1 else 0):=by show _=_;rw[hm1.out,if_neg (by simpa using c1)]
   clear hm1 c1 hu';go_wp2_with fail;refine (rfine_any uid gid _).mono ?_;rw [←HU.out];rintro e w1' ⟨rfl,b1'⟩;have EG:=E1.trans b1';clear k0 kz
   cases u
   ·have hE:Hid (ownrE S cu no uid gid=1):=by show _=_;rw[hm2.out];rfl
    clear hm2;go_wp2_with fail;go_ret;exact HS.out _ _ EG hE.out (by decide)
   ·have hE:Hid (ownrE S cu no uid gid=0):=by show _=_;rw[hm2.out];rfl
    clear hm2;go_wp2_with fail;refine (rget_any B g S X no _ (h.ext EG) hnl hu).mono ?_;rintro e w2 ⟨A,c,rfl,ok2,b2⟩;have E2:=EG.trans b2;obtain ⟨m,hmm⟩:∃m,m=getN S.nodes no:=⟨_,rfl⟩;rw [←hmm]at ok2 HN;rw [←hmm];have HM:=zH hmm;have nw:w2.cell? ⟨g.bF,3,none⟩=some (.int .i64 X.now):=by obtain⟨_,_,_,k,_⟩:=h.ext E2;exact k.cell 3
    have nz:=(h.ext E2).lt.1;clear hmm;go_upto_region 12 with fail;obtain ⟨n,hn⟩:∃n:NodeD,n={m with uid:=uid,gid:=gid,ctime:=X.now}:=⟨_,rfl⟩;obtain ⟨V,hV⟩:∃V,V=w2.alloc (.cells #[.int .i64 n.no,.int .i64 n.dev,.int .i64 n.kind,.int .i64 n.mode,.int .i64 n.uid,.int .i64 n.gid,.int .i64 n.mtime,.int .i64 n.ctime,.int .i64 n.links,.int .i64 n.up,.string (bs n.data),.slice A n.ents.length c] 66):=⟨_,rfl⟩;have hV2:=hV;rw [hn]at hV2;rw [←hV2];have NV:Has V w2.heap.size (.cells #[.int .i64 n.no,.int .i64 n.dev,.int .i64 n.kind,.int .i64 n.mode,.int .i64 n.uid,.int .i64 n.gid,.int .i64 n.mtime,.int .i64 n.ctime,.int .i64 n.links,.int .i64 n.up,.string (bs n.data),.slice A n.ents.length c] 66):=by rw[hV];exact Has.new _ _
    have EV:Ext w V:=by rw[hV];exact E2.alloc _
    have okV:NodeOk V B n A c:=((ok2.ext (by rw[hV];exact (Ext.refl _).alloc _)).same (by rw[hn]));have HNN:=zH hn;clear hV hV2 hn nw nz;go_wp2_with (refine wpList_load_node rfl _ rfl w2.heap.size n A c rfl NV ?_);refine (rset_any B g S X n A c _ (h.ext EV) hnl hu okV).mono ?_;rintro e w5 ⟨rfl,K5,O5⟩;go_wp2_with fail;go_ret;rw [hE.out];refine ⟨rfl,?_,Only.pre EV O5⟩;have:ownrT S cu X.now no uid gid=setT S n:=by unfold ownrT;rw[if_pos hE.out,HNN.out,HM.out]
    rw [this];exact K5
  ·have t1:(cu == 0)=false:=by simpa using c1
   have t1b:(cu != 0)=true:=by simpa using c1
   have hE:Hid (ownrE S cu no uid gid=4):=by show _=_;rw[hm1.out,if_pos c1]
   clear hm1 c1;go_wp2_with fail;go_ret;exact HS.out _ _ E1 hE.out (by decide)
 ·have t0:(x == 0)=false:=by simpa using hx0
  have t0b:(x != 0)=true:=by simpa using hx0
  have hE:Hid (ownrE S cu no uid gid=x):=by show _=_;rw[hm.out,if_pos hx0]
  have HX:=zH hx0;clear hm hoz hx0;go_wp2_with fail;go_ret;exact HS.out _ _ E1 hE.out HX.out
theorem rtime_any (B:Nat) (g:GhF) (S:TreeD) (X:Xtra) (cu cg no mt:Int) (w:World) (h:FAt w B g S X) (hnl:S.nodes.length≤1000000) (hu:NosUp S.nodes S.last) :
  Calls Tryz.prog 77 #[.pointer (some ⟨g.bF,0,none⟩),.agg #[.int .i64 cu,.int .i64 cg],.int .i64 no,.int .i64 mt] w (ErrF w B g (timeT S cu X.now no mt) X (timeE S cu no mt)):=by
 have E0:Ext w (w.alloc (.cells #[.int .i64 cu,.int .i64 cg] 27)):=(Ext.refl _).alloc _;have hm:Hid (timeE S cu no mt=if ownE S cu no≠0 then ownE S cu no else if mt<0∨253402300799<mt then 1 else 0):=by show _=_;rfl
 have hoz:Hid (ownE S cu no=0→isN S.nodes no=true):=fun h0=>(ownE_zero h0).1
 have HS:Hid (∀(w':World) (x:Int),Ext w w'→timeE S cu no mt=x→x≠0→ErrF w B g (timeT S cu X.now no mt) X (timeE S cu no mt) (.returned (.int .i64 x)) w'):=by
  show ∀(w':World) (x:Int),_;intro w' x hE hx hx0;rw [hx];exact errF_same h hE (by unfold timeT;rw[if_neg (by rw[hx];exact hx0)])
 go_enter Tryz.func77,Tryz.ntmps77;go_wp2_with fail;refine (rowned_any B g S X cu cg no _ (h.ext E0) hnl hu).mono ?_;rintro e w1 ⟨rfl,b1⟩;have E1:=E0.trans b1;have C1:=(Has.new w (.cells #[.int .i64 cu,.int .i64 cg] 27)).ext b1;obtain ⟨x,hx⟩:∃x,x=ownE S cu no:=⟨_,rfl⟩;rw [←hx]at hm hoz;rw [←hx];clear hx
 by_cases hx0:x=0
 ·have t0:(x == 0)=true:=by simpa using hx0
  have t0b:(x != 0)=false:=by simpa using hx0
  have HN:=zH ((isN_true (hoz.out hx0)).2.1);have hm1:Hid (timeE S cu no mt=if mt<0∨253402300799<mt then 1 else 0):=by show _=_;rw[hm.out,if_neg (by simpa using hx0)]
  clear hm hoz hx0;have EG:=E1
  by_cases c1:mt<0
  ·have t1:decide (mt<0)=true:=decide_eq_true c1
   have hE:Hid (timeE S cu no mt=1):=by show _=_;rw[hm1.out,if_pos (.inl c1)]
   clear hm1 c1;go_wp2_with fail;go_ret;exact HS.out _ _ E1 hE.out (by decide)
  ·have t1:decide (mt<0)=false:=decide_eq_false c1
   by_cases c2:253402300799<mt
   ·have t2:decide (253402300799<mt)=true:=decide_eq_true c2
    have hE:Hid (timeE S cu no mt=1):=by show _=_;rw[hm1.out,if_pos (.inr c2)]
    clear hm1 c1 c2;go_wp2_with fail;go_ret;exact HS.out _ _ E1 hE.out (by decide)
   ·have t2:decide (253402300799<mt)=false:=decide_eq_false c2
    have hE:Hid (timeE S cu no mt=0):=by show _=_;rw[hm1.out,if_neg (by rintro (g'|g')<;>contradiction)]
    clear hm1 c1 c2;go_wp2_with fail;refine (rget_any B g S X no _ (h.ext EG) hnl hu).mono ?_;rintro e w2 ⟨A,c,rfl,ok2,b2⟩;have E2:=EG.trans b2;obtain ⟨m,hmm⟩:∃m,m=getN S.nodes no:=⟨_,rfl⟩;rw [←hmm]at ok2 HN;rw [←hmm];have HM:=zH hmm;have nw:w2.cell? ⟨g.bF,3,none⟩=some (.int .i64 X.now):=by obtain⟨_,_,_,k,_⟩:=h.ext E2;exact k.cell 3
    have nz:=(h.ext E2).lt.1;clear hmm;go_upto_region 9 with fail;obtain ⟨n,hn⟩:∃n:NodeD,n={m with mtime:=mt,ctime:=X.now}:=⟨_,rfl⟩;obtain ⟨V,hV⟩:∃V,V=w2.alloc (.cells #[.int .i64 n.no,.int .i64 n.dev,.int .i64 n.kind,.int .i64 n.mode,.int .i64 n.uid,.int .i64 n.gid,.int .i64 n.mtime,.int .i64 n.ctime,.int .i64 n.links,.int .i64 n.up,.string (bs n.data),.slice A n.ents.length c] 66):=⟨_,rfl⟩;have hV2:=hV;rw [hn]at hV2;rw [←hV2];have NV:Has V w2.heap.size (.cells #[.int .i64 n.no,.int .i64 n.dev,.int .i64 n.kind,.int .i64 n.mode,.int .i64 n.uid,.int .i64 n.gid,.int .i64 n.mtime,.int .i64 n.ctime,.int .i64 n.links,.int .i64 n.up,.string (bs n.data),.slice A n.ents.length c] 66):=by rw[hV];exact Has.new _ _
    have EV:Ext w V:=by rw[hV];exact E2.alloc _
    have okV:NodeOk V B n A c:=((ok2.ext (by rw[hV];exact (Ext.refl _).alloc _)).same (by rw[hn]));have HNN:=zH hn;clear hV hV2 hn nw nz;go_wp2_with (refine wpList_load_node rfl _ rfl w2.heap.size n A c rfl NV ?_);refine (rset_any B g S X n A c _ (h.ext EV) hnl hu okV).mono ?_;rintro e w5 ⟨rfl,K5,O5⟩;go_wp2_with fail;go_ret;rw [hE.out];refine ⟨rfl,?_,Only.pre EV O5⟩;have:timeT S cu X.now no mt=setT S n:=by unfold timeT;rw[if_pos hE.out,HNN.out,HM.out]
    rw [this];exact K5
 ·have t0:(x == 0)=false:=by simpa using hx0
  have t0b:(x != 0)=true:=by simpa using hx0
  have hE:Hid (timeE S cu no mt=x):=by show _=_;rw[hm.out,if_pos hx0]
  have HX:=zH hx0;clear hm hoz hx0;go_wp2_with fail;go_ret;exact HS.out _ _ E1 hE.out HX.out
def openE (S:TreeD) (cu cg no kind want:Int):Int:=
 if isN S.nodes no=false then 5
 else if (getN S.nodes no).kind=kind then (if mayB cu cg (getN S.nodes no).uid (getN S.nodes no).gid (getN S.nodes no).mode want=false then 6 else 0)
 else if kind=1 then 9 else if (getN S.nodes no).kind=1 then 8 else 1
def openN (S:TreeD) (cu cg no kind want:Int):NodeD:=if openE S cu cg no kind want=0 then getN S.nodes no else nodeZ
def OpenQ (w:World) (B:Nat) (S:TreeD) (cu cg no kind want:Int) (e:Ending) (w':World):Prop:=
 ∃ A c,e=.returned (.tuple #[.agg #[.int .i64 (openN S cu cg no kind want).no,.int .i64 (openN S cu cg no kind want).dev,.int .i64 (openN S cu cg no kind want).kind,.int .i64 (openN S cu cg no kind want).mode,.int .i64 (openN S cu cg no kind want).uid,.int .i64 (openN S cu cg no kind want).gid,.int .i64 (openN S cu cg no kind want).mtime,.int .i64 (openN S cu cg no kind want).ctime,.int .i64 (openN S cu cg no kind want).links,.int .i64 (openN S cu cg no kind want).up,.string (bs (openN S cu cg no kind want).data),.slice A (openN S cu cg no kind want).ents.length c],.int .i64 (openE S cu cg no kind want)])∧NodeOk w' B (openN S cu cg no kind want) A c∧Ext w w'
theorem popen_any (B:Nat) (g:GhW) (S:TreeD) (cu cg no kind want:Int) (w:World) (h:WAt w B g S) (hd:0<S.devs.length) :
  Calls Tryz.prog 99 #[.pointer (some ⟨g.bW,0,none⟩),.agg #[.int .i64 cu,.int .i64 cg],.int .i64 no,.int .i64 kind,.int .i64 want] w (OpenQ w B S cu cg no kind want):=by
 have h0:=h;obtain ⟨h1,h2,cd,h3,h4⟩:=h;have hl0:((S.devs.length:Int) == 0)=false:=by simpa using (show ¬(S.devs.length:Int)=0 by omega)
 have E0:Ext w ((w.alloc (.cells #[.int .i64 cu,.int .i64 cg] 27)).alloc (.cells #[.int .i64 0,.int .i64 0,.int .i64 0,.int .i64 0,.int .i64 0,.int .i64 0,.int .i64 0,.int .i64 0,.int .i64 0,.int .i64 0,.string ⟨#[]⟩,.slice none 0 0] 66)):=((Ext.refl _).alloc _).alloc _;go_enter Tryz.func99,Tryz.ntmps99;go_wp2_with fail;refine (pdevs_any B g S _ (h0.ext E0) hd).mono ?_;rintro e w1 ⟨rfl,b1⟩;have E1:=E0.trans b1;have R0:=Has.new (w.alloc (.cells #[.int .i64 cu,.int .i64 cg] 27)) (.cells #[.int .i64 nodeZ.no,.int .i64 nodeZ.dev,.int .i64 nodeZ.kind,.int .i64 nodeZ.mode,.int .i64 nodeZ.uid,.int .i64 nodeZ.gid,.int .i64 nodeZ.mtime,.int .i64 nodeZ.ctime,.int .i64 nodeZ.links,.int .i64 nodeZ.up,.string (bs nodeZ.data),.slice none nodeZ.ents.length 0] 66);rw [World.size_alloc]at R0;have R1:=R0.ext b1;have C1:=((Has.new w (.cells #[.int .i64 cu,.int .i64 cg] 27)).alloc (.cells #[.int .i64 0,.int .i64 0,.int .i64 0,.int .i64 0,.int .i64 0,.int .i64 0,.int .i64 0,.int .i64 0,.int .i64 0,.int .i64 0,.string ⟨#[]⟩,.slice none 0 0] 66)).ext b1;have v0:w1.cell? ⟨g.bW,0,none⟩=some (.pointer (some ⟨g.bT,0,none⟩)):=(h3.ext E1).cell 0;have z1:=(h3.ext E1).lt;go_wp2_with fail;refine (tget_any B g.bT g.bM S.nodes S.last no _ (h2.ext E1)).mono ?_;rintro e w2 ⟨A2,k2,rfl,ok2,b2⟩;have R2:=R1.ext b2;have C2:=C1.ext b2;have hm:Hid (openE S cu cg no kind want=if isN S.nodes no=false then 5
  else if (getN S.nodes no).kind=kind then (if mayB cu cg (getN S.nodes no).uid (getN S.nodes no).gid (getN S.nodes no).mode want=false then 6 else 0)
  else if kind=1 then 9 else if (getN S.nodes no).kind=1 then 8 else 1):=by show _=_;rfl
 have hm2:Hid (openN S cu cg no kind want=if openE S cu cg no kind want=0 then getN S.nodes no else nodeZ):=by show _=_;rfl
 obtain ⟨m,hmm⟩:∃m,m=getN S.nodes no:=⟨_,rfl⟩;rw [←hmm]at ok2 hm hm2⊢;obtain ⟨W3,hW3⟩:∃W3,W3=w2.alloc (.cells #[.int .i64 m.no,.int .i64 m.dev,.int .i64 m.kind,.int .i64 m.mode,.int .i64 m.uid,.int .i64 m.gid,.int .i64 m.mtime,.int .i64 m.ctime,.int .i64 m.links,.int .i64 m.up,.string (bs m.data),.slice A2 m.ents.length k2] 66):=⟨_,rfl⟩;have E23:Ext w2 W3:=by rw[hW3];exact (Ext.refl _).alloc _
 have N3:Has W3 w2.heap.size (.cells #[.int .i64 m.no,.int .i64 m.dev,.int .i64 m.kind,.int .i64 m.mode,.int .i64 m.uid,.int .i64 m.gid,.int .i64 m.mtime,.int .i64 m.ctime,.int .i64 m.links,.int .i64 m.up,.string (bs m.data),.slice A2 m.ents.length k2] 66):=by rw[hW3];exact Has.new _ _
 have R3:=R2.ext E23;have C3:=C2.ext E23;have E3:Ext w W3:=(E1.trans b2).trans E23;obtain ⟨b8,hb8⟩:∃b8,b8=w2.heap.size:=⟨_,rfl⟩;obtain ⟨i,hi⟩:∃i,i=isN S.nodes no:=⟨_,rfl⟩;rw [←hi]at hm⊢;clear hmm hi R1 C1 R2 C2 v0;go_upto_region 4 with fail;rw [←hW3];rw [←hb8]at N3⊢;have ok3:=ok2.ext E23;clear hW3 hb8 E23;have HS:Hid (∀(w5 w6:World) (x:Int),Ext w w5→Only [w.heap.size+1] w5 w6→openE S cu cg no kind want=x→x≠0→OpenQ w B S cu cg no kind want (.returned (.tuple #[.agg #[.int .i64 nodeZ.no,.int .i64 nodeZ.dev,.int .i64 nodeZ.kind,.int .i64 nodeZ.mode,.int .i64 nodeZ.uid,.int .i64 nodeZ.gid,.int .i64 nodeZ.mtime,.int .i64 nodeZ.ctime,.int .i64 nodeZ.links,.int .i64 nodeZ.up,.string (bs nodeZ.data),.slice none nodeZ.ents.length 0],.int .i64 x])) w6):=by
  show ∀(w5 w6:World) (x:Int),_;intro w5 w6 x hE hO hx hx0;have hN:openN S cu cg no kind want=nodeZ:=by rw[hm2.out,if_neg (by rw[hx];exact hx0)]
  exact ⟨none,0,by rw[hx,hN],by rw[hN];exact NodeOk.zero _ _,hO.after hE (by simp)⟩
 have k2':W3.cell? ⟨b8,2,none⟩=some (.int .i64 m.kind):=N3.cell 2;have kz:=N3.lt
 cases i
 ·have hE:Hid (openE S cu cg no kind want=5):=by show _=_;rw[hm.out];rfl
  clear hm;go_wp2_with (refine wpList_store_node rfl _ _ rfl (w.heap.size+1) nodeZ none 0 rfl rfl R3 ?_;intro w9 R9 O9);refine bodyPost_ret (v:=.tuple #[.agg #[.int .i64 nodeZ.no,.int .i64 nodeZ.dev,.int .i64 nodeZ.kind,.int .i64 nodeZ.mode,.int .i64 nodeZ.uid,.int .i64 nodeZ.gid,.int .i64 nodeZ.mtime,.int .i64 nodeZ.ctime,.int .i64 nodeZ.links,.int .i64 nodeZ.up,.string (bs nodeZ.data),.slice none nodeZ.ents.length 0],.int .i64 5]) (res_node Tryz.results99 _ _ (w.heap.size+1) nodeZ none 0 _ rfl rfl R9) rfl ?_;exact HS.out _ _ _ E3 O9 hE.out (by decide)
 ·by_cases c1:m.kind=kind
  ·have t1:(m.kind == kind)=true:=by simpa using c1
   have t1b:(m.kind != kind)=false:=by simpa using c1
   obtain ⟨u,hu'⟩:∃u,u=mayB cu cg m.uid m.gid m.mode want:=⟨_,rfl⟩;have hm3:Hid (openE S cu cg no kind want=if u=false then 6 else 0):=by show _=_;rw[hm.out,if_neg (by decide),if_pos c1,hu']
   have HU:=zH hu';have x0:W3.cell? ⟨w.heap.size,0,none⟩=some (.int .i64 cu):=C3.cell 0;have x1:W3.cell? ⟨w.heap.size,1,none⟩=some (.int .i64 cg):=C3.cell 1;have xz:=C3.lt;clear hm hu' c1;obtain ⟨n0,n1,n2,n3,n4,n5,n6,n7,n8,n9,n10,n11⟩:=N3.node12;go_wp2_with fail;refine (pnode_any cu cg _ _ _ m.mode m.uid m.gid _ _ _ _ _ _ want _).mono ?_;rw [←HU.out];rintro e w5 ⟨rfl,b5⟩;have R5:=R3.ext b5;have N5:=N3.ext b5;have E5:=E3.trans b5;have k2'':w5.cell? ⟨b8,2,none⟩=some (.int .i64 m.kind):=N5.cell 2;have kz'':=N5.lt;clear x0 x1 xz k2' kz R3 N3 n0 n1 n2 n3 n4 n5 n6 n7 n8 n9 n10 n11
   cases u
   ·have hE:Hid (openE S cu cg no kind want=6):=by show _=_;rw[hm3.out];rfl
    clear hm3;go_wp2_with (refine wpList_store_node rfl _ _ rfl (w.heap.size+1) nodeZ none 0 rfl rfl R5 ?_;intro w9 R9 O9);refine bodyPost_ret (v:=.tuple #[.agg #[.int .i64 nodeZ.no,.int .i64 nodeZ.dev,.int .i64 nodeZ.kind,.int .i64 nodeZ.mode,.int .i64 nodeZ.uid,.int .i64 nodeZ.gid,.int .i64 nodeZ.mtime,.int .i64 nodeZ.ctime,.int .i64 nodeZ.links,.int .i64 nodeZ.up,.string (bs nodeZ.data),.slice none nodeZ.ents.length 0],.int .i64 6]) (res_node Tryz.results99 _ _ (w.heap.size+1) nodeZ none 0 _ rfl rfl R9) rfl ?_;exact HS.out _ _ _ E5 O9 hE.out (by decide)
   ·have hE:Hid (openE S cu cg no kind want=0):=by show _=_;rw[hm3.out];rfl
    have hN:Hid (openN S cu cg no kind want=m):=by show _=_;rw[hm2.out,hE.out];rfl
    clear hm3;go_wp2_with (first|(refine wpList_load_node rfl _ rfl b8 m A2 k2 rfl N5 ?_)|(refine wpList_store_node rfl _ _ rfl (w.heap.size+1) m A2 k2 rfl rfl R5 ?_;intro w6 R6 O6));refine bodyPost_ret (v:=.tuple #[.agg #[.int .i64 m.no,.int .i64 m.dev,.int .i64 m.kind,.int .i64 m.mode,.int .i64 m.uid,.int .i64 m.gid,.int .i64 m.mtime,.int .i64 m.ctime,.int .i64 m.links,.int .i64 m.up,.string (bs m.data),.slice A2 m.ents.length k2],.int .i64 0]) (res_node Tryz.results99 _ _ (w.heap.size+1) m A2 k2 _ rfl rfl R6) rfl ?_;have ok6:NodeOk w6 B m A2 k2:=((ok3.ext b5).only O6 (by
     intro b hb;rw [List.mem_singleton]at hb;subst hb;exact ⟨by have:=h0.1;have:=h0.lt.1;omega,R5.noTag (by decide)⟩))
    exact ⟨A2,k2,by rw[hE.out,hN.out],by rw[hN.out];exact ok6,O6.after E5 (by simp)⟩
  ·have t1:(m.kind == kind)=false:=by simpa using c1
   have t1b:(m.kind != kind)=true:=by simpa using c1
   by_cases c2:kind=1
   ·have t2:(kind == 1)=true:=by simpa using c2
    have hE:Hid (openE S cu cg no kind want=9):=by show _=_;rw[hm.out,if_neg (by decide),if_neg c1,if_pos c2]
    clear hm c1 c2;go_wp2_with (refine wpList_store_node rfl _ _ rfl (w.heap.size+1) nodeZ none 0 rfl rfl R3 ?_;intro w9 R9 O9);refine bodyPost_ret (v:=.tuple #[.agg #[.int .i64 nodeZ.no,.int .i64 nodeZ.dev,.int .i64 nodeZ.kind,.int .i64 nodeZ.mode,.int .i64 nodeZ.uid,.int .i64 nodeZ.gid,.int .i64 nodeZ.mtime,.int .i64 nodeZ.ctime,.int .i64 nodeZ.links,.int .i64 nodeZ.up,.string (bs nodeZ.data),.slice none nodeZ.ents.length 0],.int .i64 9]) (res_node Tryz.results99 _ _ (w.heap.size+1) nodeZ none 0 _ rfl rfl R9) rfl ?_;exact HS.out _ _ _ E3 O9 hE.out (by decide)
   ·have t2:(kind == 1)=false:=by simpa using c2
    by_cases c3:m.kind=1
    ·have t3:(m.kind == 1)=true:=by simpa using c3
     have hE:Hid (openE S cu cg no kind want=8):=by show _=_;rw[hm.out,if_neg (by decide),if_neg c1,if_neg c2,if_pos c3]
     clear hm c1 c2 c3;go_wp2_with (refine wpList_store_node rfl _ _ rfl (w.heap.size+1) nodeZ none 0 rfl rfl R3 ?_;intro w9 R9 O9);refine bodyPost_ret (v:=.tuple #[.agg #[.int .i64 nodeZ.no,.int .i64 nodeZ.dev,.int .i64 nodeZ.kind,.int .i64 nodeZ.mode,.int .i64 nodeZ.uid,.int .i64 nodeZ.gid,.int .i64 nodeZ.mtime,.int .i64 nodeZ.ctime,.int .i64 nodeZ.links,.int .i64 nodeZ.up,.string (bs nodeZ.data),.slice none nodeZ.ents.length 0],.int .i64 8]) (res_node Tryz.results99 _ _ (w.heap.size+1) nodeZ none 0 _ rfl rfl R9) rfl ?_;exact HS.out _ _ _ E3 O9 hE.out (by decide)
    ·have t3:(m.kind == 1)=false:=by simpa using c3
     have hE:Hid (openE S cu cg no kind want=1):=by show _=_;rw[hm.out,if_neg (by decide),if_neg c1,if_neg c2,if_neg c3]
     clear hm c1 c2 c3;go_wp2_with (refine wpList_store_node rfl _ _ rfl (w.heap.size+1) nodeZ none 0 rfl rfl R3 ?_;intro w9 R9 O9);refine bodyPost_ret (v:=.tuple #[.agg #[.int .i64 nodeZ.no,.int .i64 nodeZ.dev,.int .i64 nodeZ.kind,.int .i64 nodeZ.mode,.int .i64 nodeZ.uid,.int .i64 nodeZ.gid,.int .i64 nodeZ.mtime,.int .i64 nodeZ.ctime,.int .i64 nodeZ.links,.int .i64 nodeZ.up,.string (bs nodeZ.data),.slice none nodeZ.ents.length 0],.int .i64 1]) (res_node Tryz.results99 _ _ (w.heap.size+1) nodeZ none 0 _ rfl rfl R9) rfl ?_;exact HS.out _ _ _ E3 O9 hE.out (by decide)
theorem ropen_any (B:Nat) (g:GhF) (S:TreeD) (X:Xtra) (cu cg no kind want:Int) (w:World) (h:FAt w B g S X) (hl:S.nodes.length≤1000000) (hu:NosUp S.nodes S.last) :
  Calls Tryz.prog 134 #[.pointer (some ⟨g.bF,0,none⟩),.agg #[.int .i64 cu,.int .i64 cg],.int .i64 no,.int .i64 kind,.int .i64 want] w (OpenQ w B S cu cg no kind want):=by
 have h0:=h;have E0:Ext w ((w.alloc (.cells #[.int .i64 cu,.int .i64 cg] 27)).alloc (.cells #[.int .i64 0,.int .i64 0,.int .i64 0,.int .i64 0,.int .i64 0,.int .i64 0,.int .i64 0,.int .i64 0,.int .i64 0,.int .i64 0,.string ⟨#[]⟩,.slice none 0 0] 66)):=((Ext.refl _).alloc _).alloc _;go_enter Tryz.func134,Tryz.ntmps134;go_wp2_with fail;have b1:=Ext.refl ((w.alloc (.cells #[.int .i64 cu,.int .i64 cg] 27)).alloc (.cells #[.int .i64 0,.int .i64 0,.int .i64 0,.int .i64 0,.int .i64 0,.int .i64 0,.int .i64 0,.int .i64 0,.int .i64 0,.int .i64 0,.string ⟨#[]⟩,.slice none 0 0] 66));have E1:=E0;have R0:=Has.new (w.alloc (.cells #[.int .i64 cu,.int .i64 cg] 27)) (.cells #[.int .i64 nodeZ.no,.int .i64 nodeZ.dev,.int .i64 nodeZ.kind,.int .i64 nodeZ.mode,.int .i64 nodeZ.uid,.int .i64 nodeZ.gid,.int .i64 nodeZ.mtime,.int .i64 nodeZ.ctime,.int .i64 nodeZ.links,.int .i64 nodeZ.up,.string (bs nodeZ.data),.slice none nodeZ.ents.length 0] 66);rw [World.size_alloc]at R0;have R1:=R0.ext b1;have C1:=((Has.new w (.cells #[.int .i64 cu,.int .i64 cg] 27)).alloc (.cells #[.int .i64 0,.int .i64 0,.int .i64 0,.int .i64 0,.int .i64 0,.int .i64 0,.int .i64 0,.int .i64 0,.int .i64 0,.int .i64 0,.string ⟨#[]⟩,.slice none 0 0] 66)).ext b1;refine (rget_any B g S X no _ (h.ext E1) hl hu).mono ?_;rintro e w2 ⟨A2,k2,rfl,ok2,b2⟩;have R2:=R1.ext b2;have C2:=C1.ext b2;have hm:Hid (openE S cu cg no kind want=if isN S.nodes no=false then 5
  else if (getN S.nodes no).kind=kind then (if mayB cu cg (getN S.nodes no).uid (getN S.nodes no).gid (getN S.nodes no).mode want=false then 6 else 0)
  else if kind=1 then 9 else if (getN S.nodes no).kind=1 then 8 else 1):=by show _=_;rfl
 have hm2:Hid (openN S cu cg no kind want=if openE S cu cg no kind want=0 then getN S.nodes no else nodeZ):=by show _=_;rfl
 have hnz:Hid (((getN S.nodes no).no == 0)=!isN S.nodes no):=by
  refine zH ?_
  cases hi:isN S.nodes no
  ·rw[(isN_false hi).1];rfl
  ·have h1:=(hu.2 _ (isN_true hi).2.2).1
   simp;omega
 obtain ⟨m,hmm⟩:∃m,m=getN S.nodes no:=⟨_,rfl⟩;rw [←hmm]at ok2 hm hm2 hnz⊢;obtain ⟨W3,hW3⟩:∃W3,W3=w2.alloc (.cells #[.int .i64 m.no,.int .i64 m.dev,.int .i64 m.kind,.int .i64 m.mode,.int .i64 m.uid,.int .i64 m.gid,.int .i64 m.mtime,.int .i64 m.ctime,.int .i64 m.links,.int .i64 m.up,.string (bs m.data),.slice A2 m.ents.length k2] 66):=⟨_,rfl⟩;have E23:Ext w2 W3:=by rw[hW3];exact (Ext.refl _).alloc _
 have N3:Has W3 w2.heap.size (.cells #[.int .i64 m.no,.int .i64 m.dev,.int .i64 m.kind,.int .i64 m.mode,.int .i64 m.uid,.int .i64 m.gid,.int .i64 m.mtime,.int .i64 m.ctime,.int .i64 m.links,.int .i64 m.up,.string (bs m.data),.slice A2 m.ents.length k2] 66):=by rw[hW3];exact Has.new _ _
 have R3:=R2.ext E23;have C3:=C2.ext E23;have E3:Ext w W3:=(E1.trans b2).trans E23;obtain ⟨b8,hb8⟩:∃b8,b8=w2.heap.size:=⟨_,rfl⟩;obtain ⟨i,hi⟩:∃i,i=isN S.nodes no:=⟨_,rfl⟩;rw [←hi]at hm hnz;clear hmm hi R1 C1 R2 C2;go_upto_region 2 with fail;rw [←hW3];rw [←hb8]at N3⊢;have ok3:=ok2.ext E23;clear hW3 hb8 E23;have HS:Hid (∀(w5 w6:World) (x:Int),Ext w w5→Only [w.heap.size+1] w5 w6→openE S cu cg no kind want=x→x≠0→OpenQ w B S cu cg no kind want (.returned (.tuple #[.agg #[.int .i64 nodeZ.no,.int .i64 nodeZ.dev,.int .i64 nodeZ.kind,.int .i64 nodeZ.mode,.int .i64 nodeZ.uid,.int .i64 nodeZ.gid,.int .i64 nodeZ.mtime,.int .i64 nodeZ.ctime,.int .i64 nodeZ.links,.int .i64 nodeZ.up,.string (bs nodeZ.data),.slice none nodeZ.ents.length 0],.int .i64 x])) w6):=by
  show ∀(w5 w6:World) (x:Int),_;intro w5 w6 x hE hO hx hx0;have hN:openN S cu cg no kind want=nodeZ:=by rw[hm2.out,if_neg (by rw[hx];exact hx0)]
  exact ⟨none,0,by rw[hx,hN],by rw[hN];exact NodeOk.zero _ _,hO.after hE (by simp)⟩
 have k0':W3.cell? ⟨b8,0,none⟩=some (.int .i64 m.no):=N3.cell 0;have k2':W3.cell? ⟨b8,2,none⟩=some (.int .i64 m.kind):=N3.cell 2;have kz:=N3.lt
 cases i
 ·have hE:Hid (openE S cu cg no kind want=5):=by show _=_;rw[hm.out];rfl
  have tn:(m.no == 0)=true:=hnz.out;clear hm;go_wp2_with (refine wpList_store_node rfl _ _ rfl (w.heap.size+1) nodeZ none 0 rfl rfl R3 ?_;intro w9 R9 O9);refine bodyPost_ret (v:=.tuple #[.agg #[.int .i64 nodeZ.no,.int .i64 nodeZ.dev,.int .i64 nodeZ.kind,.int .i64 nodeZ.mode,.int .i64 nodeZ.uid,.int .i64 nodeZ.gid,.int .i64 nodeZ.mtime,.int .i64 nodeZ.ctime,.int .i64 nodeZ.links,.int .i64 nodeZ.up,.string (bs nodeZ.data),.slice none nodeZ.ents.length 0],.int .i64 5]) (res_node Tryz.results134 _ _ (w.heap.size+1) nodeZ none 0 _ rfl rfl R9) rfl ?_;exact HS.out _ _ _ E3 O9 hE.out (by decide)
 ·have tn : (m.no == 0)=false:=hnz.out
  by_cases c1:m.kind=kind
  ·have t1:(m.kind == kind)=true:=by simpa using c1
   have t1b:(m.kind != kind)=false:=by simpa using c1
   obtain ⟨u,hu'⟩:∃u,u=mayB cu cg m.uid m.gid m.mode want:=⟨_,rfl⟩;have hm3:Hid (openE S cu cg no kind want=if u=false then 6 else 0):=by show _=_;rw[hm.out,if_neg (by decide),if_pos c1,hu']
   have HU:=zH hu';have x0:W3.cell? ⟨w.heap.size,0,none⟩=some (.int .i64 cu):=C3.cell 0;have x1:W3.cell? ⟨w.heap.size,1,none⟩=some (.int .i64 cg):=C3.cell 1;have xz:=C3.lt;clear hm hu' c1;go_wp2_with (refine wpList_load_node rfl _ rfl b8 m A2 k2 rfl N3 ?_);refine (rnode_any cu cg _ _ _ m.mode m.uid m.gid _ _ _ _ _ _ want _).mono ?_;rw [←HU.out];rintro e w5 ⟨rfl,b5⟩;have R5:=R3.ext b5;have N5:=N3.ext b5;have E5:=E3.trans b5;have k2'':w5.cell? ⟨b8,2,none⟩=some (.int .i64 m.kind):=N5.cell 2;have kz'':=N5.lt;clear x0 x1 xz k2' kz R3 N3
   cases u
   ·have hE:Hid (openE S cu cg no kind want=6):=by show _=_;rw[hm3.out];rfl
    clear hm3;go_wp2_with (refine wpList_store_node rfl _ _ rfl (w.heap.size+1) nodeZ none 0 rfl rfl R5 ?_;intro w9 R9 O9);refine bodyPost_ret (v:=.tuple #[.agg #[.int .i64 nodeZ.no,.int .i64 nodeZ.dev,.int .i64 nodeZ.kind,.int .i64 nodeZ.mode,.int .i64 nodeZ.uid,.int .i64 nodeZ.gid,.int .i64 nodeZ.mtime,.int .i64 nodeZ.ctime,.int .i64 nodeZ.links,.int .i64 nodeZ.up,.string (bs nodeZ.data),.slice none nodeZ.ents.length 0],.int .i64 6]) (res_node Tryz.results134 _ _ (w.heap.size+1) nodeZ none 0 _ rfl rfl R9) rfl ?_;exact HS.out _ _ _ E5 O9 hE.out (by decide)
   ·have hE:Hid (openE S cu cg no kind want=0):=by show _=_;rw[hm3.out];rfl
    have hN:Hid (openN S cu cg no kind want=m):=by show _=_;rw[hm2.out,hE.out];rfl
    clear hm3;go_wp2_with (first|(refine wpList_load_node rfl _ rfl b8 m A2 k2 rfl N5 ?_)|(refine wpList_store_node rfl _ _ rfl (w.heap.size+1) m A2 k2 rfl rfl R5 ?_;intro w6 R6 O6));refine bodyPost_ret (v:=.tuple #[.agg #[.int .i64 m.no,.int .i64 m.dev,.int .i64 m.kind,.int .i64 m.mode,.int .i64 m.uid,.int .i64 m.gid,.int .i64 m.mtime,.int .i64 m.ctime,.int .i64 m.links,.int .i64 m.up,.string (bs m.data),.slice A2 m.ents.length k2],.int .i64 0]) (res_node Tryz.results134 _ _ (w.heap.size+1) m A2 k2 _ rfl rfl R6) rfl ?_;have ok6:NodeOk w6 B m A2 k2:=((ok3.ext b5).only O6 (by
     intro b hb;rw [List.mem_singleton]at hb;subst hb;exact ⟨by have:=h0.1;have:=h0.lt.1;omega,R5.noTag (by decide)⟩))
    exact ⟨A2,k2,by rw[hE.out,hN.out],by rw[hN.out];exact ok6,O6.after E5 (by simp)⟩
  ·have t1:(m.kind == kind)=false:=by simpa using c1
   have t1b:(m.kind != kind)=true:=by simpa using c1
   by_cases c2:kind=1
   ·have t2:(kind == 1)=true:=by simpa using c2
    have hE:Hid (openE S cu cg no kind want=9):=by show _=_;rw[hm.out,if_neg (by decide),if_neg c1,if_pos c2]
    clear hm c1 c2;go_wp2_with (refine wpList_store_node rfl _ _ rfl (w.heap.size+1) nodeZ none 0 rfl rfl R3 ?_;intro w9 R9 O9);refine bodyPost_ret (v:=.tuple #[.agg #[.int .i64 nodeZ.no,.int .i64 nodeZ.dev,.int .i64 nodeZ.kind,.int .i64 nodeZ.mode,.int .i64 nodeZ.uid,.int .i64 nodeZ.gid,.int .i64 nodeZ.mtime,.int .i64 nodeZ.ctime,.int .i64 nodeZ.links,.int .i64 nodeZ.up,.string (bs nodeZ.data),.slice none nodeZ.ents.length 0],.int .i64 9]) (res_node Tryz.results134 _ _ (w.heap.size+1) nodeZ none 0 _ rfl rfl R9) rfl ?_;exact HS.out _ _ _ E3 O9 hE.out (by decide)
   ·have t2:(kind == 1)=false:=by simpa using c2
    by_cases c3:m.kind=1
    ·have t3:(m.kind == 1)=true:=by simpa using c3
     have hE:Hid (openE S cu cg no kind want=8):=by show _=_;rw[hm.out,if_neg (by decide),if_neg c1,if_neg c2,if_pos c3]
     clear hm c1 c2 c3;go_wp2_with (refine wpList_store_node rfl _ _ rfl (w.heap.size+1) nodeZ none 0 rfl rfl R3 ?_;intro w9 R9 O9);refine bodyPost_ret (v:=.tuple #[.agg #[.int .i64 nodeZ.no,.int .i64 nodeZ.dev,.int .i64 nodeZ.kind,.int .i64 nodeZ.mode,.int .i64 nodeZ.uid,.int .i64 nodeZ.gid,.int .i64 nodeZ.mtime,.int .i64 nodeZ.ctime,.int .i64 nodeZ.links,.int .i64 nodeZ.up,.string (bs nodeZ.data),.slice none nodeZ.ents.length 0],.int .i64 8]) (res_node Tryz.results134 _ _ (w.heap.size+1) nodeZ none 0 _ rfl rfl R9) rfl ?_;exact HS.out _ _ _ E3 O9 hE.out (by decide)
    ·have t3:(m.kind == 1)=false:=by simpa using c3
     have hE:Hid (openE S cu cg no kind want=1):=by show _=_;rw[hm.out,if_neg (by decide),if_neg c1,if_neg c2,if_neg c3]
     clear hm c1 c2 c3;go_wp2_with (refine wpList_store_node rfl _ _ rfl (w.heap.size+1) nodeZ none 0 rfl rfl R3 ?_;intro w9 R9 O9);refine bodyPost_ret (v:=.tuple #[.agg #[.int .i64 nodeZ.no,.int .i64 nodeZ.dev,.int .i64 nodeZ.kind,.int .i64 nodeZ.mode,.int .i64 nodeZ.uid,.int .i64 nodeZ.gid,.int .i64 nodeZ.mtime,.int .i64 nodeZ.ctime,.int .i64 nodeZ.links,.int .i64 nodeZ.up,.string (bs nodeZ.data),.slice none nodeZ.ents.length 0],.int .i64 1]) (res_node Tryz.results134 _ _ (w.heap.size+1) nodeZ none 0 _ rfl rfl R9) rfl ?_;exact HS.out _ _ _ E3 O9 hE.out (by decide)
def lookE (S:TreeD) (cu cg dir:Int) (nm:List UInt8):Int:=
 if openE S cu cg dir 1 1=0 then (if findF (openN S cu cg dir 1 1).ents nm=0 then 5 else 0) else openE S cu cg dir 1 1
def lookN (S:TreeD) (cu cg dir:Int) (nm:List UInt8):Int:=if lookE S cu cg dir nm=0 then overF S.devs (findF (openN S cu cg dir 1 1).ents nm) else 0
theorem Tre.openN {c:Nat} {S:TreeD} (h:Tre c S) (cu cg no kind want:Int):Rise (openN S cu cg no kind want).ents∧(Proofs.YtpibnfdolojpcaaGreat.openN S cu cg no kind want).ents.length≤c:=by
 unfold Proofs.YtpibnfdolojpcaaGreat.openN;split
 ·exact h.getN no
 ·exact⟨List.Pairwise.nil,Nat.zero_le _⟩
theorem plook_any {c:Nat} (B:Nat) (g:GhW) (S:TreeD) (cu cg dir:Int) (nm:List UInt8) (w:World) (h:WAt w B g S) (T:Tre c S) (hc:c≤1000000) (_hl:S.last≤100000) :
  Calls Tryz.prog 55 #[.pointer (some ⟨g.bW,0,none⟩),.agg #[.int .i64 cu,.int .i64 cg],.int .i64 dir,.string (bs nm)] w (Ret w (.tuple #[.int .i64 (lookN S cu cg dir nm),.int .i64 (lookE S cu cg dir nm)])):=by
 have E0:Ext w (w.alloc (.cells #[.int .i64 cu,.int .i64 cg] 27)):=(Ext.refl _).alloc _;go_enter Tryz.func55,Tryz.ntmps55;go_wp2_with fail;refine (popen_any B g S cu cg dir 1 1 _ (h.ext E0) T.devs).mono ?_;rintro e w1 ⟨A,k,rfl,ok1,b1⟩;have HRR:=T.openN cu cg dir 1 1;have hE:Hid (lookE S cu cg dir nm=if openE S cu cg dir 1 1=0 then (if findF (openN S cu cg dir 1 1).ents nm=0 then 5 else 0) else openE S cu cg dir 1 1):=by show _=_;rfl
 have hN:Hid (lookN S cu cg dir nm=if lookE S cu cg dir nm=0 then overF S.devs (findF (openN S cu cg dir 1 1).ents nm) else 0):=by show _=_;rfl
 obtain ⟨m,hm⟩:∃m,m=openN S cu cg dir 1 1:=⟨_,rfl⟩;obtain ⟨x,hx⟩:∃x,x=openE S cu cg dir 1 1:=⟨_,rfl⟩;rw [←hm]at ok1 HRR hE hN⊢;rw [←hx]at hE⊢;have HR:=zH HRR;obtain ⟨W2,hW2⟩:∃W,W=w1.alloc (.cells #[.int .i64 m.no,.int .i64 m.dev,.int .i64 m.kind,.int .i64 m.mode,.int .i64 m.uid,.int .i64 m.gid,.int .i64 m.mtime,.int .i64 m.ctime,.int .i64 m.links,.int .i64 m.up,.string (bs m.data),.slice A m.ents.length k] 66):=⟨_,rfl⟩;obtain ⟨b8,hb8⟩:∃b,b=w1.heap.size:=⟨_,rfl⟩;have N2:Has W2 b8 (.cells #[.int .i64 m.no,.int .i64 m.dev,.int .i64 m.kind,.int .i64 m.mode,.int .i64 m.uid,.int .i64 m.gid,.int .i64 m.mtime,.int .i64 m.ctime,.int .i64 m.links,.int .i64 m.up,.string (bs m.data),.slice A m.ents.length k] 66):=by rw[hW2,hb8];exact Has.new _ _
 have E12:Ext w1 W2:=by rw[hW2];exact (Ext.refl _).alloc _
 have HX:=zH ((E0.trans b1).trans E12);have ok2:=ok1.ext E12;clear hm hx HRR ok1 E12;go_upto_region 2 with fail;rw [←hW2,←hb8];clear hW2 hb8
 by_cases c0:x=0
 case neg =>
  have t0:(x == 0)=false:=by simpa using c0
  have t0b:(x != 0)=true:=by simpa using c0
  have e1:Hid (lookE S cu cg dir nm=x∧lookN S cu cg dir nm=0):=by
   have h1:lookE S cu cg dir nm=x:=by rw[hE.out,if_neg c0]
   exact zH ⟨h1,by rw[hN.out,h1,if_neg c0]⟩
  clear c0;go_wp2_with fail;go_ret2;exact Ret.mk (by rw[e1.out.1,e1.out.2];rfl) HX.out
 have t0:(x == 0)=true:=by simpa using c0
 have t0b:(x != 0)=false:=by simpa using c0
 have y11:W2.cell? ⟨b8,11,none⟩=some (.slice A m.ents.length k):=N2.cell 11;have yz:=N2.lt;have C0:=zH c0;clear c0;go_wp2_with fail;refine (find_any A m.ents k nm _ ok2.ents.ents HR.out.1 (by have:=HR.out.2;omega)).mono ?_;rw [numOf_findF HR.out.1];rintro e w3 ⟨rfl,b3⟩;obtain ⟨no,hno⟩:∃no,no=findF m.ents nm:=⟨_,rfl⟩;rw [←hno]at hE hN⊢;clear hno y11 yz
 by_cases c1:no=0
 ·have t1:(no == 0)=true:=by simpa using c1
  have e1:Hid (lookE S cu cg dir nm=5∧lookN S cu cg dir nm=0):=by
   have h1:lookE S cu cg dir nm=5:=by rw[hE.out,if_pos C0.out,if_pos c1]
   exact zH ⟨h1,by rw[hN.out,h1,if_neg (by decide)]⟩
  clear c1;go_wp2_with fail;go_ret2;exact Ret.mk (by rw[e1.out.1,e1.out.2];rfl) (HX.out.trans b3)
 ·have t1:(no == 0)=false:=by simpa using c1
  have e1:Hid (lookE S cu cg dir nm=0∧lookN S cu cg dir nm=overF S.devs no):=by
   have h1:lookE S cu cg dir nm=0:=by rw[hE.out,if_pos C0.out,if_neg c1]
   exact zH ⟨h1,by rw[hN.out,h1,if_pos rfl]⟩
  clear c1;go_wp2_with fail;refine (pover_any B g S _ _ (h.ext (HX.out.trans b3)) (by have:=T.devs;omega) (by have:=T.eight;omega)).mono ?_;rintro e w4 ⟨rfl,b4⟩;go_wp2_with fail;go_ret2;exact Ret.mk (by rw[e1.out.1,e1.out.2];rfl) ((HX.out.trans b3).trans b4)
theorem rlook_any {c:Nat} (B:Nat) (g:GhF) (S:TreeD) (X:Xtra) (cu cg dir:Int) (nm:List UInt8) (w:World) (h:FAt w B g S X) (T:Tre c S) (hc:c≤1000000) (hl:S.last≤100000) :
  Calls Tryz.prog 90 #[.pointer (some ⟨g.bF,0,none⟩),.agg #[.int .i64 cu,.int .i64 cg],.int .i64 dir,.string (bs nm)] w (Ret w (.tuple #[.int .i64 (lookN S cu cg dir nm),.int .i64 (lookE S cu cg dir nm)])):=by
 have E0:Ext w (w.alloc (.cells #[.int .i64 cu,.int .i64 cg] 27)):=(Ext.refl _).alloc _;go_enter Tryz.func90,Tryz.ntmps90;go_wp2_with fail;refine (ropen_any B g S X cu cg dir 1 1 _ (h.ext E0) (by have:=T.count;omega) T.nos).mono ?_;rintro e w1 ⟨A,k,rfl,ok1,b1⟩;have HRR:=T.openN cu cg dir 1 1;have hE:Hid (lookE S cu cg dir nm=if openE S cu cg dir 1 1=0 then (if findF (openN S cu cg dir 1 1).ents nm=0 then 5 else 0) else openE S cu cg dir 1 1):=by show _=_;rfl
 have hN:Hid (lookN S cu cg dir nm=if lookE S cu cg dir nm=0 then overF S.devs (findF (openN S cu cg dir 1 1).ents nm) else 0):=by show _=_;rfl
 obtain ⟨m,hm⟩:∃m,m=openN S cu cg dir 1 1:=⟨_,rfl⟩;obtain ⟨x,hx⟩:∃x,x=openE S cu cg dir 1 1:=⟨_,rfl⟩;rw [←hm]at ok1 HRR hE hN⊢;rw [←hx]at hE⊢;have HR:=zH HRR;obtain ⟨W2,hW2⟩:∃W,W=w1.alloc (.cells #[.int .i64 m.no,.int .i64 m.dev,.int .i64 m.kind,.int .i64 m.mode,.int .i64 m.uid,.int .i64 m.gid,.int .i64 m.mtime,.int .i64 m.ctime,.int .i64 m.links,.int .i64 m.up,.string (bs m.data),.slice A m.ents.length k] 66):=⟨_,rfl⟩;obtain ⟨b8,hb8⟩:∃b,b=w1.heap.size:=⟨_,rfl⟩;have N2:Has W2 b8 (.cells #[.int .i64 m.no,.int .i64 m.dev,.int .i64 m.kind,.int .i64 m.mode,.int .i64 m.uid,.int .i64 m.gid,.int .i64 m.mtime,.int .i64 m.ctime,.int .i64 m.links,.int .i64 m.up,.string (bs m.data),.slice A m.ents.length k] 66):=by rw[hW2,hb8];exact Has.new _ _
 have E12:Ext w1 W2:=by rw[hW2];exact (Ext.refl _).alloc _
 have HX:=zH ((E0.trans b1).trans E12);have ok2:=ok1.ext E12;clear hm hx HRR ok1 E12;go_upto_region 2 with fail;rw [←hW2,←hb8];clear hW2 hb8
 by_cases c0:x=0
 case neg =>
  have t0:(x == 0)=false:=by simpa using c0
  have t0b:(x != 0)=true:=by simpa using c0
  have e1:Hid (lookE S cu cg dir nm=x∧lookN S cu cg dir nm=0):=by
   have h1:lookE S cu cg dir nm=x:=by rw[hE.out,if_neg c0]
   exact zH ⟨h1,by rw[hN.out,h1,if_neg c0]⟩
  clear c0;go_wp2_with fail;go_ret2;exact Ret.mk (by rw[e1.out.1,e1.out.2];rfl) HX.out
 have t0:(x == 0)=true:=by simpa using c0
 have t0b:(x != 0)=false:=by simpa using c0
 have y11:W2.cell? ⟨b8,11,none⟩=some (.slice A m.ents.length k):=N2.cell 11;have yz:=N2.lt;have C0:=zH c0;clear c0;go_wp2_with fail;refine (rfind_any A m.ents k nm _ ok2.ents.ents (by have:=HR.out.2;omega)).mono ?_
 skip
 rintro e w3 ⟨rfl,b3⟩;obtain ⟨no,hno⟩:∃no,no=findF m.ents nm:=⟨_,rfl⟩;rw [←hno]at hE hN⊢;clear hno y11 yz
 by_cases c1:no=0
 ·have t1:(no == 0)=true:=by simpa using c1
  have e1:Hid (lookE S cu cg dir nm=5∧lookN S cu cg dir nm=0):=by
   have h1:lookE S cu cg dir nm=5:=by rw[hE.out,if_pos C0.out,if_pos c1]
   exact zH ⟨h1,by rw[hN.out,h1,if_neg (by decide)]⟩
  clear c1;go_wp2_with fail;go_ret2;exact Ret.mk (by rw[e1.out.1,e1.out.2];rfl) (HX.out.trans b3)
 ·have t1:(no == 0)=false:=by simpa using c1
  have e1:Hid (lookE S cu cg dir nm=0∧lookN S cu cg dir nm=overF S.devs no):=by
   have h1:lookE S cu cg dir nm=0:=by rw[hE.out,if_pos C0.out,if_neg c1]
   exact zH ⟨h1,by rw[hN.out,h1,if_pos rfl]⟩
  clear c1;go_wp2_with fail;refine (rover_any B g S X _ _ (h.ext (HX.out.trans b3)) (by have:=T.eight;omega)).mono ?_;rintro e w4 ⟨rfl,b4⟩;go_wp2_with fail;go_ret2;exact Ret.mk (by rw[e1.out.1,e1.out.2];rfl) ((HX.out.trans b3).trans b4)
end Go.Proofs.YtpibnfdolojpcaaGreat
