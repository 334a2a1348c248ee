import Derived.Test.YtpibnfdolojpcaaGreatBunN
import Derived.Test.YtpibnfdolojpcaaGreatBunL
import Derived.Test.YtpibnfdolojpcaaGreatBunF
import Derived.Test.YtpibnfdolojpcaaGreatBunM
import Derived.Test.YtpibnfdolojpcaaGreatBunJ
import Derived.Test.YtpibnfdolojpcaaGreatBunI
import Derived.Test.YtpibnfdolojpcaaGreatBunK
import Derived.OpenShut
set_option maxHeartbeats 16000000
set_option maxRecDepth 100000
namespace Go.Proofs.YtpibnfdolojpcaaGreat
open Go.Proofs.Tryz
open Go.ChangeShapes Go.WideShapes Go.ChangeAt Go.RowKit
variable {S:ag} {c base k B b d:Nat} {w w':World} {v:Value} {g:dL} {x:pZ} {A:Option Addr} {n:Int} {cs:Array Value} {t:TypeId}
section
structure je (α:Type) where
 ts:TypeId
 t : TypeId
 k : Nat
 bytes:Nat
 zero:Value
 enc:α->List Value
 hk:0<k
 under:prog.underlying ts=some (.slice t)
 info:(prog.info? t).map (fun i=>(i.zero,i.size,i.bytes))=some (some zero,k,bytes)
 zs:zero.cells.size=k
 len:∀x,(enc x).length=k
 one:∀x,∀u∈enc x,u.oneCell'=true
 hb:bytes<=1000
section
variable {α:Type} {R:je α}
def je.cells (R:je α) (l:List α):List Value:=l.flatMap R.enc
theorem je.sH (R:je α) (l:List α):(R.cells l).length=l.length*R.k:=by
 unfold je.cells
 induction l with
 | nil=>simp
 | cons x l ih=>rw[yZ,aZ,ih,R.len,bk,Eh];omega
theorem je.vG (R:je α) (a b:List α):R.cells (a++b)=R.cells a++R.cells b:=by unfold je.cells;rw[y_]
theorem je.xt (R:je α) (l:List α):∀i,(h:i<l.length)->∀j,j<R.k->(R.cells l)[i*R.k+j]?=(R.enc l[i])[j]?:=by
 induction l with
 | nil=>intro i h;cases h
 | cons x l ih =>
  intro i h j hj;have e:R.cells (x::l)=R.enc x++R.cells l:=rfl;rw[e]
  cases i with
  | zero =>
   simp only[zl,eY,zm];rw[vY (by rw[R.len];exact hj)]
  | succ i =>
   have:=ih i (by simpa using h) j hj;rw[vZ (by rw[R.len,Eh];omega),R.len];simp only[zn];rw[show (i+1)*R.k+j-R.k=i*R.k+j by rw[Eh];omega];exact this
theorem je.Qk (R:je α) (l:List α):∀u∈R.cells l,u.oneCell'=true:=by
 intro u hu;unfold je.cells at hu;rw[FX]at hu;obtain⟨x,_,hx⟩:=hu;exact R.one x u hx
def en (R:je α) (w:World) (base:Nat) (v:Value) (l:List α):Prop:=w.ownsRow base R.t R.k v l.length (R.cells l)
theorem en.nil (R:je α) (w:World) (base:Nat):en R w base (.slice none 0 0) []:=oG _ _ _ _
def fY (R:je α) (w:World) (A:Option Addr) (l:List α):Prop:=
 l = []\/∃b o,A=some ⟨b,o,none⟩/\b<w.heap.size/\∀i,(h:i<l.length)->∀j,j<R.k->w.cell? ⟨b,o+i*R.k+j,none⟩=(R.enc l[i])[j]?
theorem fY.ext {l:List α} (h:fY R w A l) (k:Ext w w'):fY R w' A l:=by
 rcases h with h|⟨b,o,hA,hb,hc⟩
 ·exact .inl h
 ·exact .inr ⟨b,o,hA,by have:=k.size;omega,fun i hi j hj=>(k.cell hb).trans (hc i hi j hj)⟩
theorem en.cases {l:List α} (h:en R w base v l) :
  (v=.slice none 0 0/\l=[])\/∃g cap cur,v=.slice (some ⟨g,0,none⟩) l.length cap/\base<=g/\Has w g (.cells cur R.t)/\l.length<=cap/\cap<=maxLen/\∀i,(h:i<l.length)->∀j,j<R.k->w.cell? ⟨g,i*R.k+j,none⟩=(R.enc l[i])[j]?:=by
 rcases h.2 with⟨e,h0⟩|⟨g,cap,cur,rfl,hb,hg,hn,hm,hs,ht⟩
 ·exact .inl ⟨e,qD h0⟩
 ·refine .inr ⟨g,cap,cur,rfl,hb,hg,hn,hm,fun i hi j hj=>?_⟩
  have hlt:i*R.k+j<l.length*R.k:=by
   have:(i+1)*R.k<=l.length*R.k:=zA _ hi;rw[Eh]at this;omega
  have:=DU h (i*R.k+j) hlt;rw[this];exact R.xt l i hi j hj
theorem en.at_ {l:List α} (h:en R w base v l):∃A cap,v=.slice A l.length cap/\l.length<=cap/\cap<=maxLen/\fY R w A l/\(A=none->cap=0):=by
 rcases h.cases with⟨rfl,rfl⟩|⟨g,cap,cur,rfl,hb,hg,hn,hm,hc⟩
 ·exact⟨none,0,rfl,aE _,by decide,.inl rfl,fun _=>rfl⟩
 ·exact⟨_,cap,rfl,hn,hm,.inr ⟨g,0,rfl,hg.lt,fun i hi j hj=>by rw[eY];exact hc i hi j hj⟩,fun e=>by cases e⟩
theorem en.ext {l:List α} (h:en R w base v l) (k:Ext w w'):en R w' base v l:=qF h k.grownBy (by cases v.ownBlock<;>simp)
theorem en.only {l:List α} {L:List Nat} (h:en R w base v l) (o:Only L w w') (hn:∀g,v.ownBlock=some g->g∉L):en R w' base v l:=av h o hn
theorem en.lt {w:World} {base:Nat} {v:Value} {l:List α} (h:en R w base v l) {g:Nat} (hv:v.ownBlock=some g):base<=g/\g<w.heap.size:=ry h g hv
theorem en.tag {g:Nat} {l:List α} (h:en R w base v l) (hv:v.ownBlock=some g):e7 w g R.t:=by
 rcases h.2 with⟨rfl,_⟩|⟨g',cap,cur,rfl,hb,hg,_⟩
 ·cases hv
 ·injection hv with hv
  subst hv;exact⟨_,_,hg⟩
theorem en.pop {g cap:Nat} {l:List α} {x:α} (h:en R w base (.slice (some g) (l++[x]).length cap) (l++[x])):en R w base (.slice (some g) l.length cap) l:=by
 refine⟨R.sH l,?_⟩;rcases h.2 with⟨e,_⟩|⟨g',cap',cur,hv,hb,hg,hn,hm,hs,ht⟩
 ·cases e
 ·injection hv with h1 h2 h3
  injection h1 with h1;injection h1 with h1;subst h1;subst h3;refine .inr ⟨g,cap,cur,rfl,hb,hg,by rw[aZ]at hn;omega,hm,hs,?_⟩;have e:cur.toList.take (l.length*R.k)=(cur.toList.take ((l++[x]).length*R.k)).take (l.length*R.k):=by
   rw[FY];congr 1;have:l.length*R.k<=(l++[x]).length*R.k:=zA _ (by simp);omega
  rw[e,ht,R.vG,JB (R.sH l)]
theorem UU (R:je α) (w:World) {l:List α} (h:en R w base v l) (hb:base<=w.heap.size) (l2:List α) (bb o c2:Nat) (h2:∀i,(h:i<l2.length)->∀j,j<R.k->w.cell? ⟨bb,o+i*R.k+j,none⟩=(R.enc l2[i])[j]?)
  (hl:l.length<=2000000) (xH:l2.length<=1000000) :
  ∃ v' w',(Builtin.append_ #[R.ts,R.ts] R.ts #[v,.slice (some ⟨bb,o,none⟩) l2.length c2]).run prog w=.ok v' w'/\en R w' base v' (l++l2)/\w.grownBy w' v.ownBlock/\(v'.ownBlock=v.ownBlock\/v'.ownBlock=some w.heap.size):=by
 obtain ⟨i0,hi,hz0,hz1,hz2⟩:=jj R.info;obtain⟨v',w',hr,h3,h4,_,h5⟩:=JC (P:=prog) (w:=w) base R.ts R.ts R.t i0 R.zero R.k R.bytes R.under hi hz0 hz1 hz2 R.zs R.hk v l.length _ h ⟨bb,o,none⟩ l2.length c2 (R.cells l2) (R.sH l2)
  (by
   intro j u hu;rw[kU];have hk:=R.hk;have hj:j<l2.length*R.k:=by
    rcases lq j (l2.length*R.k) with h'|h'
    ·exact h'
    ·rw[ze (by rw[R.sH];exact h')]at hu;cases hu
   have hi:j / R.k<l2.length:=Nat.div_lt_of_lt_mul (by rw[wo];exact hj);have hm:j % R.k<R.k:=Nat.mod_lt _ hk;have e:j / R.k*R.k+j % R.k=j:=by rw[wo];exact Nat.div_add_mod j R.k
   have a:=R.xt l2 (j / R.k) hi (j % R.k) hm;rw[e,hu]at a;have b:=h2 (j / R.k) hi (j % R.k) hm;rw[un,e]at b;rw[b,<-a])
  (R.Qk l2) (by unfold maxLen;omega) (nk (Nat.mul_le_mul (show l.length+l2.length<=3000000 by omega) R.hb) (by omega)) hb
 refine⟨v',w',hr,?_,h4,h5⟩;unfold en;rw[R.vG,aZ];exact h3
theorem DB (R:je α) (w:World) {l:List α} (h:en R w base v l) (hb:base<=w.heap.size) (x:α) (hl:l.length<=2000000) :
  ∃ v' w',(Builtin.append_ #[R.ts,R.ts] R.ts #[v,.slice (some w.heap.size) 1 1]).run prog (w.alloc (.cells (R.enc x).toArray R.t))=.ok v' w'/\en R w' base v' (l++[x])/\(w.alloc (.cells (R.enc x).toArray R.t)).grownBy w' v.ownBlock/\(v'.ownBlock=v.ownBlock\/v'.ownBlock=some (w.heap.size+1)):=by
 have hN:=Has.new w (.cells (R.enc x).toArray R.t);have E:Ext w (w.alloc (.cells (R.enc x).toArray R.t)):=(Ext.refl _).alloc _;obtain⟨v',w',hr,h3,h4,h5⟩:=UU R (w.alloc (.cells (R.enc x).toArray R.t)) (h.ext E) (by simp;omega) [x] w.heap.size 0 1
  (fun i hi j hj=>by
   have:i=0:=by simpa using hi
   subst this;rw[show 0+0*R.k+j=j by omega];have:=hN.cell j;rw[this];simp) hl (by simp)
 exact⟨v',w',hr,h3,h4,by rw[bi]at h5;exact h5⟩
end
def lP:je Int:=⟨124,3,1,8,.int .i64 0,fun x=>[.int .i64 x],by decide,underlying124,by kernel_rfl,rfl,fun _=>rfl,fun x u hu=>by rw[ax]at hu;subst hu;rfl,by decide⟩
def Lx:je (List UInt8×Int):=⟨64,153,2,24,.agg #[.string ⟨#[]⟩,()],fun x=>[.string (bs x.1),.int .i64 x.2],by decide,underlying64,by kernel_rfl,rfl,fun _=>rfl,fun x u hu=>by
 simp only[aR,bg,bh]at hu;rcases hu with rfl|rfl<;>rfl,by decide⟩
end
section
structure gi where
 path:List UInt8
 b : Int
 n : Int
structure fk where
 path:List UInt8
 kind:Int
 mode:Int
 uid:Int
 gid:Int
 mtime:Int
 data:List UInt8
structure ik (c:Nat) (S:ag):Prop where
 fN:eB c S
 Na:bZ S
 kids:Kids S
 last:S.last<=c+1
theorem ik.mono (h:ik c S) (M0:c<=d):ik d S:=⟨iz h.fN M0,h.Na,h.kids,by have:=h.last;omega⟩
theorem ik.qT (h:ik c S) (cu cg now:Int) (x:pZ) (hx:∀fr a iN b,x≠.rename fr a iN b):ik (c+1) (di S cu cg now x):=
 ⟨XJ h.fN _ _ _ _ hx,KJ h.fN h.Na _ _ _ _ hx,UC h.fN h.kids _ _ _ _ hx,by have:=TS S cu cg now x;have:=h.last;omega⟩
theorem Fv (h:bZ S) (a b n:Int):bZ (dB S a b n):=by
 unfold dB;split
 ·intro m hm hk
  rcases dn.1 hm with hm|hm
  ·exact h m hm hk
  ·rw [ax]at hm
   subst hm;exact absurd rfl hk
 ·exact h
theorem ik.mK (h:ik c S) (a b n:Int):ik (c+1) (dB S a b n):=
 ⟨iz (Ow h.fN _ _ _) (by omega),Fv h.Na _ _ _,Lk h.fN h.kids _ _ _,by have:=G0 (S:=S) a b n;have:=h.last;omega⟩
theorem ik.first {b:Int} (hl:dg b n=true):ik 0 (cZ dF 0 b n):=
 ⟨Ox hl,fun m hm hk=>by
  have hm':m∈[ct dF]:=hm;rw[ax]at hm';subst hm';rfl,Ll b n,by show (1:Int)<=_;omega⟩
def qU (S:ag) (m:gi):jU×Int:=fq S 0 0 m.path false
def xu (S:ag) (m:gi):pZ:=.dS (qU S m).1.dir (qU S m).1.name 493
def jV (S:ag) (m:gi):ag:=
 if (qU S m).2≠0 then S
 else if (qU S m).1.no=0 then (if gL S 0 0 0 (xu S m)=0 then dB (di S 0 0 0 (xu S m)) (mT S 0 0 0 (xu S m)) m.b m.n else di S 0 0 0 (xu S m))
 else dB S (qU S m).1.no m.b m.n
theorem ik.UV (h:ik c S) (m:gi):ik (c+2) (jV S m):=by
 unfold jV;split
 ·exact h.mono (by omega)
 ·split
  ·have h1:=h.qT 0 0 0 (xu S m) (fun _ _ _ _ e=>by cases e)
   split
   ·exact h1.mK _ _ _
   ·exact h1.mono (by omega)
  ·exact (h.mK _ _ _).mono (by omega)
def qV (m:gi):Bool:=m.path == [47]
def fG (S:ag) (l:List gi):ag:=l.foldl (fun S m=>if qV m=true then S else jV S m) S
theorem ik.Ip (h:ik c S) (l:List gi):ik (c+2*l.length) (fG S l):=by
 unfold fG
 induction l generalizing c S with
 | nil=>exact h
 | cons m l ih =>
  rw [nv];have h1:ik (c+2) (if qV m=true then S else jV S m):=by
   split
   ·exact h.mono (by omega)
   ·exact h.UV m
  exact (ih h1).mono (by rw[bk];omega)
def fT (S:ag) (it:fk):jU×Int:=fq S 0 0 it.path false
def Bm (S:ag) (it:fk):jU×Int:=fq S 0 0 it.data false
def j9 (S:ag) (it:fk):Option pZ:=
 if (fT S it).2≠0 then none
 else if (fT S it).1.no≠0 then none
 else if it.kind=1 then some (.dS (fT S it).1.dir (fT S it).1.name 493)
 else if it.kind=2 then some (.dH (fT S it).1.dir (fT S it).1.name 420 it.data)
 else if it.kind=3 then some (.symlink (fT S it).1.dir (fT S it).1.name it.data)
 else if it.kind=4 then (if (Bm S it).2=0 then some (.link (Bm S it).1.no (fT S it).1.dir (fT S it).1.name) else none)
 else none
def lv (S:ag) (it:fk):ag:=match j9 S it with|some x=>di S 0 0 0 x|none=>S
def kv (S:ag) (it:fk):Int:=
 match j9 S it with
 | some x=>mT S 0 0 0 x
 | none=>if (fT S it).2=0/\(fT S it).1.no≠0/\it.kind=1/\(aa S.nodes (fT S it).1.no).kind=1 then (fT S it).1.no else 0
theorem Yq {it:fk} (h:j9 S it=some x):∀fr a iN b,x≠.rename fr a iN b:=by
 intro fr a iN b e;subst e;unfold j9 at h;split at h
 ·cases h
 split at h
 ·cases h
 split at h
 ·cases h
 split at h
 ·cases h
 split at h
 ·cases h
 split at h
 ·split at h<;>cases h
 ·cases h
theorem ik.Ql (h:ik c S) (it:fk):ik (c+1) (lv S it):=by
 unfold lv;split
 ·rename_i x hx;exact h.qT _ _ _ _ (Yq hx)
 ·exact h.mono (by omega)
def iO (S:ag) (no:Int) (it:fk):ag:=if no≠0 then gx (iA S 0 0 no it.uid it.gid) 0 0 no it.mode else S
theorem ik.Iq (h:ik c S) (no:Int) (it:fk):ik (c+2) (iO S no it):=by
 unfold iO;split
 ·exact (h.qT 0 0 0 (.fF no it.uid it.gid) (fun _ _ _ _ e=>by cases e)).qT 0 0 0 (.ee no it.mode) (fun _ _ _ _ e=>by cases e)
 ·exact h.mono (by omega)
def yd (p:ag×List Int) (it:fk):ag×List Int:=(iO (lv p.1 it) (kv p.1 it) it,p.2++[kv p.1 it])
def eS (p:ag×List Int) (l:List fk):ag×List Int:=l.foldl yd p
theorem ik.items (l:List fk) (p:ag×List Int) (h:ik c p.1):ik (c+3*l.length) (eS p l).1/\(eS p l).2.length=p.2.length+l.length:=by
 unfold eS
 induction l generalizing c p with
 | nil=>exact⟨h,rfl⟩
 | cons m l ih =>
  rw[nv];have h1:ik (c+3) (yd p m).1:=(h.Ql m).Iq _ _;obtain⟨k1,k2⟩:=ih _ h1;refine⟨k1.mono (by rw[bk];omega),?_⟩;rw[k2];unfold yd;simp only[aZ,bk,gj];omega
def qL (S:ag) (x:Int×fk):ag:=if x.1≠0 then iB S 0 0 x.1 x.2.mtime else S
def fA (S:ag) (l:List (Int×fk)):ag:=l.foldl qL S
theorem ik.times (l:List (Int×fk)) (h:ik c S):ik (c+l.length) (fA S l):=by
 unfold fA
 induction l generalizing c S with
 | nil=>exact h
 | cons x l ih =>
  rw [nv];have h1:ik (c+1) (qL S x):=by
   unfold qL;split
   ·exact h.qT 0 0 0 (.iD x.1 x.2.mtime) (fun _ _ _ _ e=>by cases e)
   ·exact h.mono (by omega)
  exact (ih h1).mono (by rw[bk];omega)
def fZ (l:List gi):Int×Int:=match l.find? (fun m=>qV m&&dg m.b m.n) with|some m=>(m.b,m.n)|none=>(65536,65536)
theorem mh (l:List gi):dg (fZ l).1 (fZ l).2=true:=by
 unfold fZ;split
 ·rename_i m hm
  have:=tD hm;simp only[fl]at this;exact this.2
 ·decide
def jo (ms:List gi):ag:=cZ dF 0 (fZ ms).1 (fZ ms).2
def DC (ms:List gi) (is:List fk):ag×List Int:=eS (fG (jo ms) ms,[]) is
def jf (ms:List gi) (is:List fk):ag:=fA (DC ms is).1 ((DC ms is).2.zip is)
def pS (ns:List ak):Nat:=(ns.map fun n=>n.ah.length).sum
theorem ye (a b:List ak):pS (a++b)=pS a+pS b:=by unfold pS;rw[lG,zJ]
theorem xv {ns:List ak} {n:ak} (h:∀m∈ns,m.no≠n.no):cP ns n=ns:=by
 unfold cP;have:ns.map (fun m=>if m.no == n.no then n else m)=ns.map id:=by
  apply Jr;intro m hm;have:=h m hm;rw[ac (by simpa using this)];rfl
 rw[this,DS]
theorem UW {ns:List ak} (hp:ns.Pairwise (fun a b=>a.no<b.no)) {n:ak} (hle:n.ah.length<=(aa ns n.no).ah.length+d):pS (cP ns n)<=pS ns+d:=by
 induction ns with
 | nil=>exact bC _
 | cons a ns ih =>
  rw[oc]at hp
  by_cases he:a.no=n.no
  ·have h1:cP ns n=ns:=xv fun m hm=>by have:=hp.1 m hm;omega
   have h2:aa (a::ns) n.no=a:=by unfold aa gF;rw[gD];simp[he]
   have h3:cP (a::ns) n=n::cP ns n:=by unfold cP;rw[dM,af (by simpa using he)]
   rw[h3,h1];rw[h2]at hle;unfold pS;rw[dM,dV,dM,dV];omega
  ·have h2:aa (a::ns) n.no=aa ns n.no:=by
    unfold aa gF;rw[gD];have:(a.no == n.no)=false:=by simpa using he
    rw[this]
   have h3:cP (a::ns) n=a::cP ns n:=by unfold cP;rw[dM,ac (by simpa using he)]
   rw[h2]at hle;have:=ih hp.2 hle;rw[h3];unfold pS at this|-;rw[dM,dV,dM,dV];omega
theorem xw (S:ag):bj S=pS S.nodes:=rfl
theorem vH (hu:aQ S.nodes S.last) {n:ak} (hle:n.ah.length<=(aa S.nodes n.no).ah.length+d):bj (aV S n)<=bj S+d:=UW hu.1 hle
theorem vJ (hu:aQ S.nodes S.last) {no:Int} (hi:aW S.nodes no=true) {n:ak} (bB:n.no=(aa S.nodes no).no) (he:n.ah=(aa S.nodes no).ah):bj (aV S n)<=bj S:=by
 have h1:n.no=no:=bB.trans (ap hi).2.1;have:=vH (d:=0) hu (n:=n) (by rw[h1,he];omega);omega
theorem Bn (hT:eB c S) (cu cg now dir:Int) (nm:List UInt8) (n:ak) (hn:n.ah=[]):bj (cM S cu cg now dir nm n)<=bj S+1:=by
 unfold cM;split
 case isFalse=>omega
 rename_i h0;obtain⟨h1,_,h3⟩:=lM h0;obtain⟨p1,p2,_⟩:=a_ h1;obtain⟨_,bB,hmem⟩:=ap p1;have q_:(cC S (cV S cu cg now dir n)).nodes=S.nodes++[{cV S cu cg now dir n with no:=S.last+1}]:=by unfold cC;rw[af h3]
 have Mq:(cC S (cV S cu cg now dir n)).last=S.last+1:=by unfold cC;rw[af h3]
 have hg:=na hT.bL (cV S cu cg now dir n) p1;have hu:aQ (cC S (cV S cu cg now dir n)).nodes (cC S (cV S cu cg now dir n)).last:=by rw[q_,Mq];exact hT.bL.add _ rfl (by have:=hT.last;omega)
 have e1:bj (cC S (cV S cu cg now dir n))=bj S:=by
  rw [xw,q_,ye];have:pS [{cV S cu cg now dir n with no:=S.last+1}]=0:=by
   show (([n.ah.length]:List Nat)).sum=0;rw[hn];rfl
  rw[this];rfl
 rw[<-e1];refine vH hu ?_;show (fC (aa S.nodes dir).ah (nm,S.last+1)).length<=(aa (cC S (cV S cu cg now dir n)).nodes (aa (cC S (cV S cu cg now dir n)).nodes dir).no).ah.length+1;rw[hg.1,bB,hg.1];exact uA _ _
theorem Fw {T:ag} {p:Int} (h:bj T<=bj S+k):bj (gI p S T)<=bj S+k:=by unfold gI;split;omega;exact h
theorem UX (hT:eB c S) (cu cg now no dir:Int) (nm:List UInt8):bj (jl S cu cg now no dir nm)<=bj S+1:=by
 unfold jl;split
 case isFalse=>omega
 rename_i h0;obtain⟨hp,hi,hk,_⟩:=nN h0;obtain⟨hid,Cc,_⟩:=a_ hp;obtain⟨_,bB,hmem⟩:=ap hi;obtain⟨_,lr,jJ⟩:=ap hid;have hne:dir≠no:=fun e=>by subst e;exact hk Cc
 have e0:(eH S now no).no=no:=bB;obtain⟨g1,g2⟩:=nO (S:=S) (n:=eH S now no) (no:=dir) (by rw[e0];exact hne);have a1:bj (aV S (eH S now no))<=bj S:=vJ hT.bL hi rfl rfl;have a2:bj (dC (aV S (eH S now no)) dir now (fC (aa S.nodes dir).ah (nm,no)))<=bj (aV S (eH S now no))+1:=by
  refine vH (S:=aV S (eH S now no)) (hT.bL.set _) ?_;show (fC (aa S.nodes dir).ah (nm,no)).length<=(aa (aV S (eH S now no)).nodes (aa (aV S (eH S now no)).nodes dir).no).ah.length+1;rw[g1,lr,g1];exact uA _ _
 omega
theorem Ir (hT:eB c S) (cu now no m:Int):bj (gx S cu now no m)<=bj S:=by
 unfold gx;split
 ·rename_i h0
  unfold g_ at h0;split at h0
  ·rename_i h1;exact absurd h0 h1
  ·rename_i h1;exact vJ hT.bL (jB (bR.1 h1)) rfl rfl
 ·omega
theorem UY (hT:eB c S) (cu now no u g:Int):bj (iA S cu now no u g)<=bj S:=by
 unfold iA;split
 ·rename_i h0
  unfold iT at h0;split at h0
  ·rename_i h1;exact absurd h0 h1
  ·rename_i h1;exact vJ hT.bL (jB (bR.1 h1)) rfl rfl
 ·omega
theorem UZ (hT:eB c S) (cu now no t:Int):bj (iB S cu now no t)<=bj S:=by
 unfold iB;split
 ·rename_i h0
  unfold jk at h0;split at h0
  ·rename_i h1;exact absurd h0 h1
  ·rename_i h1;exact vJ hT.bL (jB (bR.1 h1)) rfl rfl
 ·omega
theorem Qm (S:ag) (a b n:Int):bj (dB S a b n)<=bj S:=by
 unfold dB;split
 ·rw [xw,xw]
  show pS (S.nodes++[ct S])<=_;rw[ye];have:pS [ct S]=0:=rfl;omega
 ·omega
structure lj (c:Nat) (S:ag):Prop where
 jr:ik c S
 U0:bj S<=c
theorem lj.mono {c d:Nat} {S:ag} (h:lj c S) (M0:c<=d):lj d S:=⟨h.jr.mono M0,by have:=h.U0;omega⟩
theorem lj.mK {c:Nat} {S:ag} (h:lj c S) (a b n:Int):lj (c+1) (dB S a b n):=⟨h.jr.mK a b n,by have:=Qm S a b n;have:=h.U0;omega⟩
theorem lj.first {b n:Int} (hl:dg b n=true):lj 0 (cZ dF 0 b n):=⟨.first hl,aE _⟩
theorem lj.dir (h:lj c S) (cu cg now dir:Int) (nm:List UInt8) (mode:Int):lj (c+1) (di S cu cg now (.dS dir nm mode)):=
 ⟨h.jr.qT _ _ _ _ (fun _ _ _ _ e=>by cases e),by have:=Fw (p:=qv mode) (Bn h.jr.fN cu cg now dir nm (fx mode dir) rfl);have:=h.U0;show bj (gI _ _ _)<=_;omega⟩
theorem lj.file (h:lj c S) (cu cg now dir:Int) (nm:List UInt8) (mode:Int) (data:List UInt8):lj (c+1) (di S cu cg now (.dH dir nm mode data)):=
 ⟨h.jr.qT _ _ _ _ (fun _ _ _ _ e=>by cases e),by have:=Fw (p:=jI mode data.length) (Bn h.jr.fN cu cg now dir nm (dy mode data) rfl);have:=h.U0;show bj (gI _ _ _)<=_;omega⟩
theorem lj.sym (h:lj c S) (cu cg now dir:Int) (nm text:List UInt8):lj (c+1) (di S cu cg now (.symlink dir nm text)):=
 ⟨h.jr.qT _ _ _ _ (fun _ _ _ _ e=>by cases e),by have:=Fw (p:=n_ text) (Bn h.jr.fN cu cg now dir nm (fL text) rfl);have:=h.U0;show bj (gI _ _ _)<=_;omega⟩
theorem lj.aeY (h:lj c S) (cu cg now no dir:Int) (nm:List UInt8):lj (c+1) (di S cu cg now (.link no dir nm)):=
 ⟨h.jr.qT _ _ _ _ (fun _ _ _ _ e=>by cases e),by have:=UX h.jr.fN cu cg now no dir nm;have:=h.U0;show bj (jl ..)<=_;omega⟩
theorem lj.mode (h:lj c S) (cu cg now no m:Int):lj (c+1) (di S cu cg now (.ee no m)):=
 ⟨h.jr.qT _ _ _ _ (fun _ _ _ _ e=>by cases e),by have:=Ir h.jr.fN cu now no m;have:=h.U0;show bj (gx ..)<=_;omega⟩
theorem lj.aeZ (h:lj c S) (cu cg now no u g:Int):lj (c+1) (di S cu cg now (.fF no u g)):=
 ⟨h.jr.qT _ _ _ _ (fun _ _ _ _ e=>by cases e),by have:=UY h.jr.fN cu now no u g;have:=h.U0;show bj (iA ..)<=_;omega⟩
theorem lj.time (h:lj c S) (cu cg now no t:Int):lj (c+1) (di S cu cg now (.iD no t)):=
 ⟨h.jr.qT _ _ _ _ (fun _ _ _ _ e=>by cases e),by have:=UZ h.jr.fN cu now no t;have:=h.U0;show bj (iB ..)<=_;omega⟩
theorem lj.UV (h:lj c S) (m:gi):lj (c+2) (jV S m):=by
 unfold jV;split
 ·exact h.mono (by omega)
 ·split
  ·have h1:=h.dir 0 0 0 (qU S m).1.dir (qU S m).1.name 493
   split
   ·exact h1.mK _ _ _
   ·exact h1.mono (by omega)
  ·exact (h.mK _ _ _).mono (by omega)
theorem lj.Ip (h:lj c S) (l:List gi):lj (c+2*l.length) (fG S l):=by
 unfold fG
 induction l generalizing c S with
 | nil=>exact h
 | cons m l ih =>
  rw [nv];have h1:lj (c+2) (if qV m=true then S else jV S m):=by
   split
   ·exact h.mono (by omega)
   ·exact h.UV m
  exact (ih h1).mono (by rw[bk];omega)
theorem lj.Ql (h:lj c S) (it:fk):lj (c+1) (lv S it):=by
 unfold lv;split
 ·rename_i x hx
  unfold j9 at hx;split at hx
  ·cases hx
  split at hx
  ·cases hx
  split at hx
  ·injection hx with hx;subst hx;exact h.dir ..
  split at hx
  ·injection hx with hx;subst hx;exact h.file ..
  split at hx
  ·injection hx with hx;subst hx;exact h.sym ..
  split at hx
  ·split at hx
   ·injection hx with hx;subst hx;exact h.aeY ..
   ·cases hx
  ·cases hx
 ·exact h.mono (by omega)
theorem lj.Iq (h:lj c S) (no:Int) (it:fk):lj (c+2) (iO S no it):=by
 unfold iO;split
 ·exact (h.aeZ 0 0 0 no it.uid it.gid).mode 0 0 0 no it.mode
 ·exact h.mono (by omega)
theorem lj.item {p:ag×List Int} (h:lj c p.1) (it:fk):lj (c+3) (yd p it).1:=(h.Ql it).Iq _ _
theorem lj.items (l:List fk) (p:ag×List Int) (h:lj c p.1):lj (c+3*l.length) (eS p l).1:=by
 unfold eS
 induction l generalizing c p with
 | nil=>exact h
 | cons m l ih =>
  rw[nv];exact (ih _ (h.item m)).mono (by rw[bk];omega)
theorem lj.times (l:List (Int×fk)) (h:lj c S):lj (c+l.length) (fA S l):=by
 unfold fA
 induction l generalizing c S with
 | nil=>exact h
 | cons x l ih =>
  rw [nv];have h1:lj (c+1) (qL S x):=by
   unfold qL;split
   ·exact h.time 0 0 0 x.1 x.2.mtime
   ·exact h.mono (by omega)
  exact (ih h1).mono (by rw[bk];omega)
theorem DD {ms:List gi} {is:List fk} (h1:ms.length<=10) (h2:is.length<=30):lj 140 (jf ms is):=by
 have a:=(lj.first (mh ms)).Ip ms;have b1:=lj.items is (fG (jo ms) ms,[]) a;have c:=b1.times ((DC ms is).2.zip is);refine c.mono ?_;have:((DC ms is).2.zip is).length<=is.length:=by rw[JI];omega
 omega
theorem DE {cu cg at_:Int} {p:List UInt8} (h:¬fO S cu cg at_ p≠0) (h2:p≠[46,46]):p.length<=255:=by
 have h:=bR.1 h;unfold fO at h;split at h
 ·cases h
 split at h
 ·cases h
 split at h
 ·cases h
 ·omega
theorem Qn (S:ag) (cu cg:Int) (gh:Bool):∀l h,∀at_ m,(dY S cu cg gh at_ l h m).1.name.length<=255:=by
 refine Ub (fun l h ih=>?_);intro at_ m
 cases l with
 | nil=>rw[vq];exact bC _
 | cons p l =>
  rw[dY];split
  ·exact bC _
  rename_i h1;split
  ·exact ih _ _ (.inr ⟨rfl,by simp⟩) _ _
  rename_i h2;split
  ·split
   ·exact DE h1 h2
   ·exact bC _
  split
  ·split
   ·exact bC _
   ·split
    ·exact bC _
    ·exact ih _ _ (.inl ⟨by omega,by omega⟩) _ _
  split
  ·exact bC _
  split
  ·exact DE h1 h2
  ·exact ih _ _ (.inr ⟨rfl,by simp⟩) _ _
theorem nh (S:ag) (cu cg:Int) (p:List UInt8) (gh:Bool):(fq S cu cg p gh).1.name.length<=255:=by
 unfold fq;split
 ·exact Qn ..
 ·exact bC _
def mL (w:World) (B b:Nat) (g:dL) (c:Nat) (S:ag):Prop:=∃n:Int,0<=n/\n<=c/\PS w B b g ⟨S,0,n,[],false⟩
def rZ (w:World) (B b:Nat) (g:dL) (c:Nat) (S:ag) (w':World):Prop:=∃g',dL.on g' g w/\mL w' B b g' c S/\Only (b::g.list) w w'
def gZ (w:World) (B:Nat) (f:cI) (S:ag):Prop:=RS w B f ⟨S,0,0,[],false⟩
def qW (w:World) (B:Nat) (f:cI) (S:ag) (w':World):Prop:=iQ w B f ⟨S,0,0,[],false⟩ w'
theorem Fx (S:ag) (n:Int):vU ⟨S,0,n,[],false⟩=0:=rfl
theorem U1 (S:ag) (n:Int) (x:pZ):ul ⟨S,0,n,[],false⟩ 0 0 x=⟨di S 0 0 0 x,0,n+1,[],false⟩:=by
 unfold ul;rw[ac (by rw[Fx];decide),(nc (Fx S n)).2]
theorem U2 (S:ag) (n:Int) (x:pZ):yw ⟨S,0,n,[],false⟩ 0 0 x=gL S 0 0 0 x:=by unfold yw;rw[ac (by rw[Fx];decide)]
theorem abk (S:ag) (n:Int) (x:pZ):Wi ⟨S,0,n,[],false⟩ 0 0 x=mT S 0 0 0 x:=by unfold Wi;rw[ac (by rw[Fx];decide)]
theorem ik.fU (k:ik c S) (h0:0<=n) (h1:n<=c):d_ c ⟨S,0,n,[],false⟩:=⟨k.fN,k.Na,k.last,h0,h1,bC _⟩
section
variable {w:World} {B b:Nat} {g:dL} {c:Nat} {S:ag}
theorem mL.ext {w':World} (h:mL w B b g c S) (k:Ext w w'):mL w' B b g c S:=by obtain⟨n,h1,h2,h3⟩:=h;exact⟨n,h1,h2,h3.ext k⟩
theorem mL.mono (h:mL w B b g c S) (k:c<=d):mL w B b g d S:=by obtain⟨n,h1,h2,h3⟩:=h;exact⟨n,h1,by omega,h3⟩
theorem mL.lt (h:mL w B b g c S):∀x∈b::g.list,x<w.heap.size:=by obtain⟨n,h1,h2,h3⟩:=h;exact h3.lt
theorem mL.dJ (h:mL w B b g c S):dX w B (b::g.list):=by obtain⟨n,h1,h2,h3⟩:=h;exact h3.dJ
theorem mL.only {w':World} {L:List Nat} (h:mL w B b g c S) (o:Only L w w') (ha:dX w B L) (hn:∀x∈b::g.list,x∉L):mL w' B b g c S:=by obtain⟨n,h1,h2,h3⟩:=h;exact⟨n,h1,h2,h3.only o ha hn⟩
theorem mL.sys (h:mL w B b g c S):∃n:Int,∃A cap,Has w b (.cells #[((),g.bW),(),n,.slice A 0 cap,.bool false] 102):=by
 obtain⟨n,_,_,A,cap,_,h2,_⟩:=h;exact⟨n,A,cap,h2⟩
theorem mL.off (h:mL w B b g c S) {x:Nat} (hx:Has w x (.cells cs t)) (h1:t≠102) (h2:t≠106) (h3:t≠157) (h4:t≠205):x∉b::g.list:=by
 obtain⟨n,_,_,A,cap,⟨_,⟨_,_,k2,es,cl,k3,_⟩,cd,k4,k5⟩,a2,_⟩:=h;obtain⟨_,cur,k6⟩:=k5.has;intro hb;simp only[dL.list,aR,bg,bh]at hb;unfold eW at a2;unfold Has at *;rcases hb with rfl|rfl|rfl|rfl|rfl
 ·rw[hx]at a2;injection a2 with e;injection e with _ e;exact h1 e
 ·rw[hx]at k4;injection k4 with e;injection e with _ e;exact h2 e
 ·rw[hx]at k2;injection k2 with e;injection e with _ e;exact h3 e
 ·rw[hx]at k3;injection k3 with e;cases e
 ·rw[hx]at k6;injection k6 with e;injection e with _ e;exact h4 e
theorem rZ.mono {d:Nat} {T:ag} {w':World} (h:rZ w B b g c T w') (k:c<=d):rZ w B b g d T w':=by obtain⟨g',h1,h2,h3⟩:=h;exact⟨g',h1,h2.mono k,h3⟩
theorem rZ.pre {T:ag} {w1 w':World} (k:Ext w w1) (h:rZ w1 B b g c T w'):rZ w B b g c T w':=by
 obtain⟨g',h1,h2,h3⟩:=h;have hs:=k.size;exact⟨g',⟨h1.1,fun x hx=>(h1.2 x hx).imp id fun e=>by omega⟩,h2,Only.pre k h3⟩
theorem rZ.has {T:ag} {w':World} {x:Nat} {o:Obj} (h:rZ w B b g c T w') (k:Has w x o) (hx:x∉b::g.list):Has w' x o:=by obtain⟨_,_,_,h3⟩:=h;exact h3.has k hx
theorem rZ.refl (h:mL w B b g c S) (k:Ext w w'):rZ w B b g c S w':=⟨g,dL.ew _ _,h.ext k,Only.az k⟩
theorem rZ.trans {c2:Nat} {T:ag} {w1 w':World} {g1:dL} (h1:dL.on g1 g w) (o:Only (b::g.list) w w1) (k:rZ w1 B b g1 c2 T w'):rZ w B b g c2 T w':=by
 obtain⟨g2,k1,k2,k3⟩:=k;refine⟨g2,dL.pE h1 k1 o.size,k2,o.trans k3 fun x hx=>?_⟩;rcases aR.1 hx with rfl|hx
 ·exact .inl (bY ..)
 ·rcases h1.2 x hx with e|e
  ·exact .inl (cf _ e)
  ·exact .inr e
theorem rZ.after {c2:Nat} {T:ag} {w0 w':World} (h:rZ w B b g c2 T w') (k:mL w B b g c S) (hE:Ext w0 w) (hB:w0.heap.size<=B):Ext w0 w':=by
 obtain⟨_,_,_,h3⟩:=h;exact h3.after hE fun x hx=>by have:=(k.dJ x hx).1;omega
theorem Yr (h0:0<=n) (h1:n<=c) {e:Ending} (k:Ch1 w B b g ⟨S,0,n,[],false⟩ 0 0 x e w'):e=.returned (.int .i64 (gL S 0 0 0 x))/\rZ w B b g (c+1) (di S 0 0 0 x) w':=by
 obtain⟨k1,k2,k3⟩:=k;rw[U2]at k1;rw[U1]at k2;exact⟨k1,g,dL.ew _ _,⟨n+1,by omega,by omega,k2⟩,k3⟩
theorem abl (h0:0<=n) (h1:n<=c) {e:Ending} (k:Ch2 w B b g ⟨S,0,n,[],false⟩ 0 0 x e w'):e=.returned (.tuple #[.int .i64 (mT S 0 0 0 x),.int .i64 (gL S 0 0 0 x)])/\rZ w B b g (c+1) (di S 0 0 0 x) w':=by
 obtain⟨k1,k2,k3⟩:=k;rw[abk,U2]at k1;rw[U1]at k2;exact⟨k1,g,dL.ew _ _,⟨n+1,by omega,by omega,k2⟩,k3⟩
abbrev mM:Value:=.agg #[(),()]
theorem mL.find (h:mL w B b g c S) (k:ik c S) (hc:c<=900) (p:List UInt8) (gh:Bool) (hp:p.length<=1000000) :
  Calls prog 110 #[((),b),mM,bs p,.bool gh] w (ku w (fq S 0 0 p gh)):=by
 obtain⟨n,h0,h1,h2⟩:=h;exact h2.find (k.fU h0 h1) hc 0 0 p gh hp
theorem mL.stat (h:mL w B b g c S) (k:ik c S) (no:Int) :
  Calls prog 45 #[((),b),no] w (aO w (.tuple #[iU (aa S.nodes no),.int .i64 (dQ S no)])):=by
 obtain⟨n,h0,h1,h2⟩:=h;exact h2.stat (k.fU h0 h1) no
theorem mL.dS (h:mL w B b g c S) (k:ik c S) (hc:c<=900) (dir:Int) (nm:List UInt8) (mode:Int) :
  Calls prog 111 #[((),b),mM,dir,bs nm,mode] w (fun e w'=>e=.returned (.tuple #[.int .i64 (mT S 0 0 0 (.dS dir nm mode)),.int .i64 (gL S 0 0 0 (.dS dir nm mode))])/\rZ w B b g (c+1) (di S 0 0 0 (.dS dir nm mode)) w'):=by
 obtain⟨n,h0,h1,h2⟩:=h;exact (h2.dS (k.fU h0 h1) hc rfl 0 0 dir nm mode).mono fun _ _ q=>abl h0 h1 q
theorem mL.dH (h:mL w B b g c S) (k:ik c S) (hc:c<=900) (dir:Int) (nm:List UInt8) (mode:Int) (data:List UInt8) (mP:data.length<=1000000000) :
  Calls prog 113 #[((),b),mM,dir,bs nm,mode,bs data] w (fun e w'=>e=.returned (.tuple #[.int .i64 (mT S 0 0 0 (.dH dir nm mode data)),.int .i64 (gL S 0 0 0 (.dH dir nm mode data))])/\rZ w B b g (c+1) (di S 0 0 0 (.dH dir nm mode data)) w'):=by
 obtain⟨n,h0,h1,h2⟩:=h;exact (h2.dH (k.fU h0 h1) hc rfl 0 0 dir nm mode data mP).mono fun _ _ q=>abl h0 h1 q
theorem mL.symlink (h:mL w B b g c S) (k:ik c S) (hc:c<=900) (dir:Int) (nm text:List UInt8) (mP:text.length<=1000000000) :
  Calls prog 114 #[((),b),mM,dir,bs nm,bs text] w (fun e w'=>e=.returned (.tuple #[.int .i64 (mT S 0 0 0 (.symlink dir nm text)),.int .i64 (gL S 0 0 0 (.symlink dir nm text))])/\rZ w B b g (c+1) (di S 0 0 0 (.symlink dir nm text)) w'):=by
 obtain⟨n,h0,h1,h2⟩:=h;exact (h2.symlink (k.fU h0 h1) hc rfl 0 0 dir nm text mP).mono fun _ _ q=>abl h0 h1 q
theorem mL.link (h:mL w B b g c S) (k:ik c S) (hc:c<=900) (no dir:Int) (nm:List UInt8) :
  Calls prog 115 #[((),b),mM,no,dir,bs nm] w (fun e w'=>e=.returned (.int .i64 (gL S 0 0 0 (.link no dir nm)))/\rZ w B b g (c+1) (di S 0 0 0 (.link no dir nm)) w'):=by
 obtain⟨n,h0,h1,h2⟩:=h;exact (h2.link (k.fU h0 h1) hc rfl 0 0 no dir nm).mono fun _ _ q=>Yr h0 h1 q
theorem mL.ee (h:mL w B b g c S) (k:ik c S) (hc:c<=900) (no mode:Int) :
  Calls prog 68 #[((),b),mM,no,mode] w (fun e w'=>e=.returned (.int .i64 (gL S 0 0 0 (.ee no mode)))/\rZ w B b g (c+1) (di S 0 0 0 (.ee no mode)) w'):=by
 obtain⟨n,h0,h1,h2⟩:=h;exact (h2.ee (k.fU h0 h1) hc rfl 0 0 no mode).mono fun _ _ q=>Yr h0 h1 q
theorem mL.fF (h:mL w B b g c S) (k:ik c S) (hc:c<=900) (no uid gid:Int) :
  Calls prog 67 #[((),b),mM,no,uid,gid] w (fun e w'=>e=.returned (.int .i64 (gL S 0 0 0 (.fF no uid gid)))/\rZ w B b g (c+1) (di S 0 0 0 (.fF no uid gid)) w'):=by
 obtain⟨n,h0,h1,h2⟩:=h;exact (h2.fF (k.fU h0 h1) hc rfl 0 0 no uid gid).mono fun _ _ q=>Yr h0 h1 q
theorem mL.iD (h:mL w B b g c S) (k:ik c S) (hc:c<=900) (no mt:Int) :
  Calls prog 69 #[((),b),mM,no,mt] w (fun e w'=>e=.returned (.int .i64 (gL S 0 0 0 (.iD no mt)))/\rZ w B b g (c+1) (di S 0 0 0 (.iD no mt)) w'):=by
 obtain⟨n,h0,h1,h2⟩:=h;exact (h2.iD (k.fU h0 h1) hc rfl 0 0 no mt).mono fun _ _ q=>Yr h0 h1 q
theorem mL.mK (h:mL w B b g c S) (k:ik c S) (hc:c<=900) (at_ bl nd:Int) :
  Calls prog 112 #[((),g.bW),at_,bl,nd] w (fun e w'=>(∃v,e=.returned v)/\rZ w B b g c (dB S at_ bl nd) w'):=by
 obtain⟨n,h0,h1,h2⟩:=h;have hn:=h2.j7;obtain⟨A,cap,a1,a2,a3,a4,a5⟩:=h2;refine (JT B g S at_ bl nd w a1 k.fN.ae k.fN.eight k.fN.bL (by have:=k.fN.last;omega) (by have:=k.last;omega)).mono ?_;rintro e w' ⟨rfl,bD,K,O,hD⟩;refine⟨⟨_,rfl⟩,⟨g.bW,g.bT,g.bM,bD⟩,⟨rfl,fun x hx=>?_⟩,⟨n,h0,h1,A,cap,K,eW.only a2 O hn,a3.only O a1.dJ,a4,a5⟩,O.mono fun y hy=>cf _ hy⟩;simp only[dL.list,aR,bg,bh]at hx|-;rcases hx with rfl|rfl|rfl|rfl
 ·exact .inl (.inl rfl)
 ·exact .inl (.inr (.inl rfl))
 ·exact .inl (.inr (.inr (.inl rfl)))
 ·rcases hD with e|e
  ·exact .inl (.inr (.inr (.inr e)))
  ·exact .inr e
end
section
variable {w:World} {B:Nat} {f:cI} {c:Nat} {S:ag}
theorem gZ.ext {w':World} (h:gZ w B f S) (k:Ext w w'):gZ w' B f S:=RS.ext h k
theorem gZ.lt (h:gZ w B f S):∀x∈f.list,x<w.heap.size:=RS.lt h
theorem gZ.dJ (h:gZ w B f S):dX w B f.list:=RS.dJ h
theorem gZ.only {w':World} {L:List Nat} (h:gZ w B f S) (o:Only L w w') (ha:dX w B L) (hn:∀x∈f.list,x∉L):gZ w' B f S:=RS.only h o ha hn
theorem gZ.off (h:gZ w B f S) {x:Nat} (hx:Has w x (.cells cs t)) (h1:t≠78) (h2:t≠66) (h3:t≠191):x∉f.list:=by
 obtain⟨A,cap,⟨_,cn,ce,k2,⟨xs,k3,_⟩,k4⟩,_⟩:=h;obtain⟨_,EB,k5⟩:=cQ k3;obtain⟨_,NW,k6⟩:=cQ k4;intro hb;simp only[cI.list,aR,bg,bh]at hb;unfold Has at *;rcases hb with rfl|rfl|rfl
 ·rw[hx]at k2;injection k2 with e;injection e with _ e;exact h1 e
 ·rw[hx]at k5;injection k5 with e;injection e with _ e;exact h2 e
 ·rw[hx]at k6;injection k6 with e;injection e with _ e;exact h3 e
theorem qW.pre {T:ag} {w1 w':World} (k:Ext w w1) (h:qW w1 B f T w'):qW w B f T w':=by
 obtain⟨f',h1,h2,h3⟩:=h;have hs:=k.size;exact⟨f',h1,Only.pre k h2,⟨h3.1,fun x hx=>(h3.2 x hx).imp id fun e=>by omega⟩⟩
theorem qW.has {T:ag} {w':World} {x:Nat} {o:Obj} (h:qW w B f T w') (k:Has w x o) (hx:x∉f.list):Has w' x o:=by obtain⟨_,_,h3,_⟩:=h;exact h3.has k hx
theorem qW.refl (h:gZ w B f S) (k:Ext w w'):qW w B f S w':=⟨f,h.ext k,Only.az k,cI.ew _ _⟩
theorem qW.trans {T:ag} {w1 w':World} {f1:cI} (h1:cI.on f1 f w) (o:Only f.list w w1) (k:qW w1 B f1 T w'):qW w B f T w':=by
 obtain⟨f2,k1,k3,k2⟩:=k;refine⟨f2,k1,o.trans k3 fun x hx=>?_,cI.pE h1 k2 o.size⟩;rcases h1.2 x hx with e|e
 ·exact .inl e
 ·exact .inr e
theorem gZ.find (h:gZ w B f S) (k:ik c S) (hc:c<=900) (p:List UInt8) (gh:Bool) (hp:p.length<=1000000) :
  Calls prog 40 #[((),f.bF),mM,bs p,.bool gh] w (ku w (fq S 0 0 p gh)):=by
 obtain⟨X,F⟩:=RS.Wj h;exact x_ B f S X 0 0 p gh w F k.fN (by omega) (by have:=k.last;omega) hp
theorem gZ.get (h:gZ w B f S) (k:ik c S) (hc:c<=900) (no:Int) :
  Calls prog 30 #[((),f.bF),no] w (WW w B S.nodes no):=by
 obtain⟨X,F⟩:=RS.Wj h;exact eE B f S X no w F (by have:=k.fN.count;have:=k.last;omega) k.fN.bL
theorem gZ.dS (h:gZ w B f S) (k:ik c S) (hc:c<=900) (dir:Int) (nm:List UInt8) (mode:Int) (ie:nm.length<=1000000) :
  Calls prog 122 #[((),f.bF),mM,dir,bs nm,mode] w (fun e w'=>e=.returned (.tuple #[.int .i64 (mT S 0 0 0 (.dS dir nm mode)),.int .i64 (gL S 0 0 0 (.dS dir nm mode))])/\qW w B f (di S 0 0 0 (.dS dir nm mode)) w'):=
 RS.dS h (k.fU (gE _) (by omega)) hc 0 0 dir nm mode ie
theorem gZ.dH (h:gZ w B f S) (k:ik c S) (hc:c<=900) (dir:Int) (nm:List UInt8) (mode:Int) (data:List UInt8) (ie:nm.length<=1000000) (mP:data.length<=1000000000) :
  Calls prog 124 #[((),f.bF),mM,dir,bs nm,mode,bs data] w (fun e w'=>e=.returned (.tuple #[.int .i64 (mT S 0 0 0 (.dH dir nm mode data)),.int .i64 (gL S 0 0 0 (.dH dir nm mode data))])/\qW w B f (di S 0 0 0 (.dH dir nm mode data)) w'):=
 RS.dH h (k.fU (gE _) (by omega)) hc 0 0 dir nm mode data ie mP
theorem gZ.symlink (h:gZ w B f S) (k:ik c S) (hc:c<=900) (dir:Int) (nm text:List UInt8) (ie:nm.length<=1000000) (mP:text.length<=1000000) :
  Calls prog 125 #[((),f.bF),mM,dir,bs nm,bs text] w (fun e w'=>e=.returned (.tuple #[.int .i64 (mT S 0 0 0 (.symlink dir nm text)),.int .i64 (gL S 0 0 0 (.symlink dir nm text))])/\qW w B f (di S 0 0 0 (.symlink dir nm text)) w'):=
 RS.symlink h (k.fU (gE _) (by omega)) hc 0 0 dir nm text ie mP
theorem gZ.link (h:gZ w B f S) (k:ik c S) (hc:c<=900) (no dir:Int) (nm:List UInt8) (ie:nm.length<=1000000) :
  Calls prog 126 #[((),f.bF),mM,no,dir,bs nm] w (fun e w'=>e=.returned (.int .i64 (gL S 0 0 0 (.link no dir nm)))/\qW w B f (di S 0 0 0 (.link no dir nm)) w'):=
 RS.link h (k.fU (gE _) (by omega)) hc 0 0 no dir nm ie
theorem gZ.ee (h:gZ w B f S) (k:ik c S) (hc:c<=900) (no mode:Int) :
  Calls prog 76 #[((),f.bF),mM,no,mode] w (fun e w'=>e=.returned (.int .i64 (gL S 0 0 0 (.ee no mode)))/\qW w B f (di S 0 0 0 (.ee no mode)) w'):=
 RS.ee h (k.fU (gE _) (by omega)) hc 0 0 no mode
theorem gZ.fF (h:gZ w B f S) (k:ik c S) (hc:c<=900) (no uid gid:Int) :
  Calls prog 75 #[((),f.bF),mM,no,uid,gid] w (fun e w'=>e=.returned (.int .i64 (gL S 0 0 0 (.fF no uid gid)))/\qW w B f (di S 0 0 0 (.fF no uid gid)) w'):=
 RS.fF h (k.fU (gE _) (by omega)) hc 0 0 no uid gid
theorem gZ.iD (h:gZ w B f S) (k:ik c S) (hc:c<=900) (no mt:Int) :
  Calls prog 77 #[((),f.bF),mM,no,mt] w (fun e w'=>e=.returned (.int .i64 (gL S 0 0 0 (.iD no mt)))/\qW w B f (di S 0 0 0 (.iD no mt)) w'):=
 RS.iD h (k.fU (gE _) (by omega)) hc 0 0 no mt
theorem gZ.mK (h:gZ w B f S) (k:ik c S) (hc:c<=900) (at_ bl nd:Int) :
  Calls prog 123 #[((),f.bF),at_,bl,nd] w (fun e w'=>(∃v,e=.returned v)/\qW w B f (dB S at_ bl nd) w'):=by
 obtain⟨A,cap,F,P⟩:=h;refine (JV B f S _ at_ bl nd w F k.fN.eight k.fN.bL (by have:=k.fN.last;omega) (by have:=k.last;omega) (by have:=k.fN.count;have:=k.last;omega)).mono ?_;rintro e w' ⟨rfl,bN,bE,K,O,h1,h2⟩;refine⟨⟨_,rfl⟩,⟨f.bF,bN,bE⟩,⟨A,cap,K,P.only O F.dJ⟩,O,rfl,fun x hx=>?_⟩;simp only[cI.list,aR,bg,bh]at hx|-;rcases hx with rfl|rfl|rfl
 ·exact .inl (.inl rfl)
 ·rcases h1 with e|e
  ·exact .inl (.inr (.inl e))
  ·exact .inr e
 ·rcases h2 with e|e
  ·exact .inl (.inr (.inr e))
  ·exact .inr e
end
end
section
def Bo:je gi:=⟨22,119,3,32,.agg #[.string ⟨#[]⟩,(),()],fun x=>[.string (bs x.path),.int .i64 x.b,.int .i64 x.n],by decide,underlying22,by kernel_rfl,rfl,fun _=>rfl,fun x u hu=>by
 simp only[aR,bg,bh]at hu;rcases hu with rfl|rfl|rfl<;>rfl,by decide⟩
def yA:je fk:=⟨23,72,7,72,.agg #[.string ⟨#[]⟩,(),(),(),(),(),.string ⟨#[]⟩],fun x=>[.string (bs x.path),.int .i64 x.kind,.int .i64 x.mode,.int .i64 x.uid,.int .i64 x.gid,.int .i64 x.mtime,.string (bs x.data)],by decide,underlying23,by kernel_rfl,rfl,fun _=>rfl,fun x u hu=>by
 simp only[aR,bg,bh]at hu;rcases hu with rfl|rfl|rfl|rfl|rfl|rfl|rfl<;>rfl,by decide⟩
theorem fY.UV {l:List gi} (h:fY Bo w A l) (hk:k<l.length):∃b o,A=some ⟨b,o,none⟩/\b<w.heap.size/\w.cell? ⟨b,o+k*3,none⟩=some (.string (bs l[k].path))/\w.cell? ⟨b,o+k*3+1,none⟩=some (.int .i64 l[k].b)/\w.cell? ⟨b,o+k*3+2,none⟩=some (.int .i64 l[k].n):=by
 rcases h with h|⟨b,o,hA,hb,hc⟩
 ·rw[h]at hk;cases hk
 ·exact⟨b,o,hA,hb,hc k hk 0 (by decide),hc k hk 1 (by decide),hc k hk 2 (by decide)⟩
theorem fY.Ql {l:List fk} (h:fY yA w A l) (hk:k<l.length):∃b o,A=some ⟨b,o,none⟩/\b<w.heap.size/\w.cell? ⟨b,o+k*7,none⟩=some (.string (bs l[k].path))/\w.cell? ⟨b,o+k*7+1,none⟩=some (.int .i64 l[k].kind)/\w.cell? ⟨b,o+k*7+2,none⟩=some (.int .i64 l[k].mode) /\
  w.cell? (b,o+k*7+3)=some (.int .i64 l[k].uid)/\w.cell? (b,o+k*7+4)=some (.int .i64 l[k].gid)/\w.cell? (b,o+k*7+5)=some (.int .i64 l[k].mtime)/\w.cell? (b,o+k*7+6)=some (.string (bs l[k].data)):=by
 rcases h with h|⟨b,o,hA,hb,hc⟩
 ·rw[h]at hk;cases hk
 ·exact⟨b,o,hA,hb,hc k hk 0 (by decide),hc k hk 1 (by decide),hc k hk 2 (by decide),hc k hk 3 (by decide),hc k hk 4 (by decide),hc k hk 5 (by decide),hc k hk 6 (by decide)⟩
theorem DF:fZ []=(65536,65536):=rfl
theorem DG {m:gi} {t:List gi} (h1:qV m=true) (h2:dg m.b m.n=true):fZ (m::t)=(m.b,m.n):=by unfold fZ;rw[gD,h1,h2];rfl
theorem vK {m:gi} {t:List gi} (h:qV m=false\/dg m.b m.n=false):fZ (m::t)=fZ t:=by
 have e:(qV m&&dg m.b m.n)=false:=by rcases h with h|h<;>rw[h]<;>simp
 unfold fZ;rw[gD,e]
theorem vL (p:List UInt8):((bs p).toList == [47])=(p == [47]):=by rw[bA]
section
variable {S:ag} {it:fk}
theorem kO (h:j9 S it=some x):lv S it=di S 0 0 0 x:=by unfold lv;rw[h]
theorem kQ (h:j9 S it=some x):kv S it=mT S 0 0 0 x:=by unfold kv;rw[h]
theorem xx (h:j9 S it=none):lv S it=S:=by unfold lv;rw[h]
theorem xy (h:j9 S it=none):kv S it=if (fT S it).2=0/\(fT S it).1.no≠0/\it.kind=1/\(aa S.nodes (fT S it).1.no).kind=1 then (fT S it).1.no else 0:=by unfold kv;rw[h]
theorem Np (h:(fT S it).2≠0):lv S it=S/\kv S it=0:=by
 have hc:j9 S it=none:=by unfold j9;rw[af h]
 exact⟨xx hc,by rw[xy hc,ac (fun k=>h k.1)]⟩
theorem DH (h:(fT S it).2=0) (h1:(fT S it).1.no≠0):lv S it=S/\kv S it=if it.kind=1/\(aa S.nodes (fT S it).1.no).kind=1 then (fT S it).1.no else 0:=by
 have hc:j9 S it=none:=by unfold j9;rw[ac (fun k=>k h),af h1]
 refine⟨xx hc,?_⟩;rw[xy hc]
 by_cases h2:it.kind=1/\(aa S.nodes (fT S it).1.no).kind=1
 ·rw[af ⟨h,h1,h2⟩,af h2]
 ·rw[ac (fun k=>h2 k.2.2),ac h2]
theorem Nq (h:(fT S it).2=0) (h1:(fT S it).1.no=0):j9 S it=if it.kind=1 then some (.dS (fT S it).1.dir (fT S it).1.name 493)
 else if it.kind=2 then some (.dH (fT S it).1.dir (fT S it).1.name 420 it.data)
 else if it.kind=3 then some (.symlink (fT S it).1.dir (fT S it).1.name it.data)
 else if it.kind=4 then (if (Bm S it).2=0 then some (.link (Bm S it).1.no (fT S it).1.dir (fT S it).1.name) else none)
 else none:=by
 unfold j9;rw[ac (fun k=>k h),ac (fun k=>k h1)]
theorem vM (h1:(fT S it).1.no=0) (h:j9 S it=none):lv S it=S/\kv S it=0:=⟨xx h,by rw[xy h,ac (fun k=>k.2.1 h1)]⟩
end
theorem U3 (h:mL w B b g c S) (k:ik c S) (hc:c<=890) (it:fk) (hp:it.path.length<=1000000) (hd:it.data.length<=1000000) :
  Calls prog 66 #[((),b),.agg #[bs it.path,it.kind,it.mode,it.uid,it.gid,it.mtime,bs it.data]] w (fun e w'=>e=.returned (.int .i64 (kv S it))/\rZ w B b g (c+1) (lv S it) w'):=by
 obtain⟨W1,cA⟩:=ai (w.alloc (.cells #[bs it.path,it.kind,it.mode,it.uid,it.gid,it.mtime,bs it.data] 72));obtain⟨b3,qZ⟩:=ai w.heap.size;have E1:Ext w W1:=by rw[cA];exact (Ext.refl _).alloc _
 have B1:Has W1 b3 (.cells #[bs it.path,it.kind,it.mode,it.uid,it.gid,it.mtime,bs it.data] 72):=by rw[cA,qZ];exact Has.new _ _
 have KF:=zH ((h.ext E1).find k (by omega) it.path false hp);obtain⟨r,hr⟩:=ai (fT S it);rw[show fq S 0 0 it.path false=r from hr.symm]at KF;have Jn:Hid (Calls prog 110 #[((),b),.agg #[(),()],bs it.path,.bool false] W1 (aO W1 (.tuple #[.agg #[r.1.dir,bs r.1.name,r.1.no,.bool r.1.iE],r.2]))):=KF.o;have HR:=zH hr;have c0:=B1.cell 0;have cz:=B1.lt;simp only[gA,gB]at c0;have nZ:=zH B1;have H1:=zH (h.ext E1);have H0:=zH h;clear h KF hr B1;go_in;go_upto_region 1 with fail;rw[<-cA,<-qZ];clear cA qZ;go_wp2_with fail;refine Jn.o.mono ?_;rintro e w1 ⟨rfl,b1⟩;clear Jn c0 cz;go_upto_region 2 with fail;obtain⟨W2,dp⟩:=ai (w1.alloc (.cells #[r.1.dir,bs r.1.name,r.1.no,.bool r.1.iE] 82));obtain⟨b4,qA⟩:=ai w1.heap.size;have E2:Ext W1 W2:=by rw[dp];exact b1.alloc _
 have X2:Has W2 b4 (.cells #[r.1.dir,bs r.1.name,r.1.no,.bool r.1.iE] 82):=by rw[dp,qA];exact Has.new _ _
 rw[<-dp,<-qA];clear dp qA b1;obtain⟨m1,ig⟩:=ai (aa S.nodes r.1.no);have KS:=zH ((H1.o.ext E2).stat k r.1.no);rw[<-ig]at KS;have HM1:=zH ig;obtain⟨es,hes⟩:=ai (dQ S r.1.no);rw[<-hes]at KS;unfold iU at KS;have ui:=zH X2;have x2:=aA X2 2 rfl;have xz:=X2.lt;clear ig hes X2;go_wp2_with fail;refine KS.o.mono ?_;rintro e w3 ⟨rfl,Zt⟩;clear KS x2 xz;go_upto_block 0 with fail;obtain⟨W3,cJ⟩:=ai (w3.alloc (.cells #[m1.no,m1.dev,m1.kind,m1.mode,m1.uid,m1.gid,m1.ar,m1.data.length,m1.mtime,m1.ctime] 95));obtain⟨b7,uk⟩:=ai w3.heap.size;have E3:Ext W2 W3:=by rw[cJ];exact Zt.alloc _
 have S3:Has W3 b7 (.cells #[m1.no,m1.dev,m1.kind,m1.mode,m1.uid,m1.gid,m1.ar,m1.data.length,m1.mtime,m1.ctime] 95):=by rw[cJ,uk];exact Has.new _ _
 rw[<-cJ,<-uk];clear cJ uk Zt;have X3:=ui.o.ext E3;have B3:=nZ.o.ext (E2.trans E3);have P3:=H1.o.ext (E2.trans E3);have oR:=(E1.trans E2).trans E3;have x0:=aA X3 0 rfl;have x1:=aA X3 1 rfl;have x2:=aA X3 2 rfl;have xz:=X3.lt;have d1:=aA B3 1 rfl;have d6:=aA B3 6 rfl;have dz:=B3.lt;have s2:=aA S3 2 rfl;have sz:=S3.lt;clear X3 B3 S3
 by_cases he:r.2=0
 case neg =>
  have t1:(r.2 != 0)=true:=by simpa using he
  have hT:Hid (lv S it=S/\kv S it=0):=Np (by rw[<-HR.o];exact he);clear he P3;go_wp2;go_ret;exact⟨by rw[hT.o.2];rfl,by rw[hT.o.1];exact (rZ.refl H0.o oR).mono (by omega)⟩
 have t1:(r.2 != 0)=false:=by simpa using he
 have HE:=zH he
 by_cases bB:r.1.no=0
 case neg =>
  have t2:(r.1.no != 0)=true:=by simpa using bB
  have hT:Hid (lv S it=S/\kv S it=if it.kind=1/\m1.kind=1 then r.1.no else 0):=by show _/\_;rw[HM1.o,HR.o];exact DH (by rw[<-HR.o];exact HE.o) (by rw[<-HR.o];exact bB)
  clear he bB P3
  by_cases hk:it.kind=1/\m1.kind=1
  ·have t3:(it.kind == 1)=true:=by simpa using hk.1
   have t4:(m1.kind == 1)=true:=by simpa using hk.2
   have FT:Hid (kv S it=r.1.no):=by show _=_;rw[hT.o.2,af hk]
   clear hk;go_wp2;go_ret;exact⟨by rw[FT.o];rfl,by rw[hT.o.1];exact (rZ.refl H0.o oR).mono (by omega)⟩
  ·have FT:Hid (kv S it=0):=by show _=_;rw[hT.o.2,ac hk]
   by_cases mq:it.kind=1
   ·have t3:(it.kind == 1)=true:=by simpa using mq
    have t4:(m1.kind == 1)=false:=by simpa using fun q=>hk ⟨mq,q⟩
    clear hk mq;go_wp2;go_ret;exact⟨by rw[FT.o];rfl,by rw[hT.o.1];exact (rZ.refl H0.o oR).mono (by omega)⟩
   ·have t3:(it.kind == 1)=false:=by simpa using mq
    clear hk mq;go_wp2;go_ret;exact⟨by rw[FT.o];rfl,by rw[hT.o.1];exact (rZ.refl H0.o oR).mono (by omega)⟩
 have t2:(r.1.no != 0)=false:=by simpa using bB
 have hC:Hid (j9 S it=if it.kind=1 then some (.dS r.1.dir r.1.name 493) else if it.kind=2 then some (.dH r.1.dir r.1.name 420 it.data) else if it.kind=3 then some (.symlink r.1.dir r.1.name it.data)
   else if it.kind=4 then (if (Bm S it).2=0 then some (.link (Bm S it).1.no r.1.dir r.1.name) else none) else none):=by show _=_;rw[HR.o];exact Nq (by rw[<-HR.o];exact HE.o) (by rw[<-HR.o];exact bB)
 have HN0:Hid ((fT S it).1.no=0):=by show _=_;rw[<-HR.o];exact bB
 clear he bB
 by_cases k1:it.kind=1
 ·have t3:(it.kind == 1)=true:=by simpa using k1
  obtain⟨X,hX⟩:∃X:pZ,X=.dS r.1.dir r.1.name 493:=⟨_,rfl⟩;have tY:j9 S it=some X:=by rw[hC.o,af k1,hX]
  have KC:=zH (P3.dS k (by omega) r.1.dir r.1.name 493);rw[<-hX,<-kO tY,<-kQ tY]at KC;clear k1 hX tY hC P3;go_wp2_with fail;refine KC.o.mono ?_;rintro e w5 ⟨rfl,T5⟩;go_wp2;go_ret;exact⟨rfl,T5.pre oR⟩
 have t3:(it.kind == 1)=false:=by simpa using k1
 by_cases k2:it.kind=2
 ·have t4:(it.kind == 2)=true:=by simpa using k2
  obtain⟨X,hX⟩:∃X:pZ,X=.dH r.1.dir r.1.name 420 it.data:=⟨_,rfl⟩;have tY:j9 S it=some X:=by rw[hC.o,ac k1,af k2,hX]
  have KC:=zH (P3.dH k (by omega) r.1.dir r.1.name 420 it.data (by omega));rw[<-hX,<-kO tY,<-kQ tY]at KC;clear k1 k2 hX tY hC P3;go_wp2_with fail;refine KC.o.mono ?_;rintro e w5 ⟨rfl,T5⟩;go_wp2;go_ret;exact⟨rfl,T5.pre oR⟩
 have t4:(it.kind == 2)=false:=by simpa using k2
 by_cases k3:it.kind=3
 ·have t5:(it.kind == 3)=true:=by simpa using k3
  obtain⟨X,hX⟩:∃X:pZ,X=.symlink r.1.dir r.1.name it.data:=⟨_,rfl⟩;have tY:j9 S it=some X:=by rw[hC.o,ac k1,ac k2,af k3,hX]
  have KC:=zH (P3.symlink k (by omega) r.1.dir r.1.name it.data (by omega));rw[<-hX,<-kO tY,<-kQ tY]at KC;clear k1 k2 k3 hX tY hC P3;go_wp2_with fail;refine KC.o.mono ?_;rintro e w5 ⟨rfl,T5⟩;go_wp2;go_ret;exact⟨rfl,T5.pre oR⟩
 have t5:(it.kind == 3)=false:=by simpa using k3
 by_cases k4:it.kind=4
 case neg =>
  have t6:(it.kind == 4)=false:=by simpa using k4
  have hT:Hid (lv S it=S/\kv S it=0):=vM HN0.o (by rw[hC.o,ac k1,ac k2,ac k3,ac k4]);clear k1 k2 k3 k4 hC P3;go_wp2;go_ret;exact⟨by rw[hT.o.2];rfl,by rw[hT.o.1];exact (rZ.refl H0.o oR).mono (by omega)⟩
 have t6:(it.kind == 4)=true:=by simpa using k4
 obtain⟨y,hy⟩:=ai (Bm S it);have Yt:Hid (j9 S it=if y.2=0 then some (.link y.1.no r.1.dir r.1.name) else none):=by show _=_;rw[hC.o,ac k1,ac k2,ac k3,af k4,hy]
 have KF:=zH (P3.find k (by omega) it.data false hd);rw[show fq S 0 0 it.data false=y from hy.symm]at KF;have KF3:Hid (Calls prog 110 #[((),b),.agg #[(),()],bs it.data,.bool false] W3 (aO W3 (.tuple #[.agg #[y.1.dir,bs y.1.name,y.1.no,.bool y.1.iE],y.2]))):=KF.o;have Yu:=zH P3;have Uz:=zH (ui.o.ext E3);clear k1 k2 k3 k4 hC hy KF P3 s2 sz;go_wp2_with fail;refine KF3.o.mono ?_;rintro e w4 ⟨rfl,ZT⟩;clear KF3 x0 x1 x2 xz d1 d6 dz;go_upto_region 19 with fail;obtain⟨W4,gb⟩:=ai (w4.alloc (.cells #[y.1.dir,bs y.1.name,y.1.no,.bool y.1.iE] 82));obtain⟨CN,lK⟩:=ai w4.heap.size;have E4:Ext W3 W4:=by rw[gb];exact ZT.alloc _
 have Y4:Has W4 CN (.cells #[y.1.dir,bs y.1.name,y.1.no,.bool y.1.iE] 82):=by rw[gb,lK];exact Has.new _ _
 rw[<-gb,<-lK];clear gb lK ZT;have X4:=Uz.o.ext E4;have P4:=Yu.o.ext E4;have x0:=aA X4 0 rfl;have x1:=aA X4 1 rfl;have xz:=X4.lt;have y2:=aA Y4 2 rfl;have yz:=Y4.lt;clear X4 Y4
 by_cases k5:y.2=0
 ·have t7:(y.2 == 0)=true:=by simpa using k5
  obtain⟨X,hX⟩:∃X:pZ,X=.link y.1.no r.1.dir r.1.name:=⟨_,rfl⟩;have tY:j9 S it=some X:=by rw[Yt.o,af k5,hX]
  have hN:Hid (kv S it=0):=by show _=_;rw[kQ tY,hX];rfl
  have KC:=zH (P4.link k (by omega) y.1.no r.1.dir r.1.name);rw[<-hX,<-kO tY]at KC;clear k5 hX tY Yt P4;go_wp2_with fail;refine KC.o.mono ?_;rintro e w5 ⟨rfl,T5⟩;go_wp2;go_ret;exact⟨by rw[hN.o];rfl,T5.pre (oR.trans E4)⟩
 ·have t7:(y.2 == 0)=false:=by simpa using k5
  have hT:Hid (lv S it=S/\kv S it=0):=vM HN0.o (by rw[Yt.o,ac k5]);clear k5 Yt P4;go_wp2;go_ret;exact⟨by rw[hT.o.2];rfl,by rw[hT.o.1];exact (rZ.refl H0.o (oR.trans E4)).mono (by omega)⟩
end
theorem U4 (A:Option Addr) (l:List gi) (cap:Nat) (A2:Option Addr) (n2 c2:Nat) (w:World) (hA:fY Bo w A l) (hl:l.length<=9223372036854775807) :
  Calls prog 64 #[.agg #[.slice A l.length cap,.slice A2 n2 c2]] w (aO w (.tuple #[.int .i64 (fZ l).1,.int .i64 (fZ l).2])):=by
 obtain⟨n,hn⟩:=ai l.length;obtain⟨R,hR⟩:=ai (fZ l);rw[<-hn]at hl|-;rw[<-hR];have HN:=zH hn;have HR:=zH hR;obtain⟨W1,cA⟩:=ai (w.alloc (.cells #[.slice A n cap,.slice A2 n2 c2] 25));obtain⟨b1,j_⟩:=ai w.heap.size;have E1:Ext w W1:=by rw[cA];exact (Ext.refl _).alloc _
 have B1:Has W1 b1 (.cells #[.slice A n cap,.slice A2 n2 c2] 25):=by rw[cA,j_];exact Has.new _ _
 have c0:=B1.cell 0;have cz:=B1.lt;simp only[gA,gB]at c0;have HA:=zH (hA.ext E1);clear hn hR hA;go_in;go_upto_region 1 with fail;rw[<-cA,<-j_];clear cA j_;go_wp2_with fail;clear c0 cz;go_loopw [9] (fun vi wr=>∃k:Nat,vi=.int .i64 k/\k<=n/\Ext W1 wr/\fZ (l.drop k)=R) (fun vi _=>n-(intOf vi).toNat)
 case atStart=>exact⟨0,rfl,bC _,Ext.refl _,by rw[jN,HR.o]⟩
 case round =>
  obtain⟨k,rfl,hk,hE,hS⟩:=hrel;have k0:(0:Int)<=(k:Int):=cO _;have HE:=zH hE
  by_cases hlt:(k:Int)<n
  case neg =>
   have hd:l.drop k=[]:=Ei (by have:=HN.o;omega);have Bp:Hid (R=(65536,65536)):=by show _=_;rw[<-hS,hd,DF]
   clear hS hd hE;go_wp2;go_ret2;exact aO.mk (by rw[Bp.o];rfl) (E1.trans HE.o)
  case pos =>
   have dN:k<l.length:=by have:=HN.o;omega
   obtain⟨ba,o,rfl,yx,q0,q1,q2⟩:=(HA.o.ext hE).UV dN;have BS:IntKind.i64.wrap ((k:Int)+1)=(k:Int)+1:=cB _ (by omega);rw[jg dN]at hS;obtain⟨m,hm⟩:=ai (l[k]);rw[<-hm]at q0 q1 q2 hS;obtain⟨P,hP⟩:=ai (bs m.path);have tp:(P.toList == [47])=qV m:=by rw[hP];exact vL _
   rw[<-hP]at q0;obtain⟨mb,hmb⟩:=ai m.b;obtain⟨mn,WK⟩:=ai m.n;have HS:=zH hS;have HMB:=zH hmb;have Oi:=zH WK;have sM:=iK mb mn;rw[<-hmb]at q1;rw[<-WK]at q2;clear hS hm hP hE hmb WK
   cases ht:qV m with
   | false =>
    rw[ht]at tp;have Qo:Hid (fZ (l.drop (k+1))=R):=by show _=_;rw[<-HS.o,vK (.inl ht)]
    clear ht sM;go_wp2_with fail;go_roundw
    case rel=>exact⟨k+1,by go_num,by omega,HE.o.alloc _,Qo.o⟩
    case measure=>simp[intOf];omega
   | true =>
    rw[ht]at tp;have HT:=zH ht;clear ht;rcases sM with⟨h1,h2,h3,h4,h0⟩|⟨h0,h1|⟨h1,h2⟩|⟨h1,h2,h3⟩|⟨h1,h2,h3,h4⟩⟩
    case inl =>
     have Qo:Hid (R=(mb,mn)):=by show _=_;rw[<-HS.o,DG HT.o (by rw[<-HMB.o,<-Oi.o];exact h0),HMB.o,Oi.o]
     clear h0;go_upto_region 5 with fail;go_quiet (fail);go_wp2;go_ret2;exact aO.mk (by rw[Qo.o];rfl) (E1.trans ((HE.o.alloc _).drewN nq))
    all_goals
     have Qo:Hid (fZ (l.drop (k+1))=R):=by show _=_;rw[<-HS.o,vK (.inr (by rw[<-HMB.o,<-Oi.o];exact h0))]
     clear h0;go_wp2_with fail;go_roundw
     case rel=>exact⟨k+1,by go_num,by omega,HE.o.alloc _,Qo.o⟩
     case measure=>simp[intOf];omega
theorem Ly (A:Option Addr) (l:List gi) (cap:Nat) (A2:Option Addr) (n2 c2:Nat) (w:World) (hA:fY Bo w A l) (hl:l.length<=1000000) :
  Calls prog 71 #[.agg #[.slice A l.length cap,.slice A2 n2 c2]] w (aO w (.tuple #[.int .i64 (fZ l).1,.int .i64 (fZ l).2])):=by
 obtain⟨n,hn⟩:=ai l.length;obtain⟨R,hR⟩:=ai (fZ l);rw[<-hn]at hl|-;rw[<-hR];have HN:=zH hn;have HR:=zH hR;obtain⟨W1,cA⟩:=ai (w.alloc (.cells #[.slice A n cap,.slice A2 n2 c2] 25));obtain⟨b1,j_⟩:=ai w.heap.size;have E1:Ext w W1:=by rw[cA];exact (Ext.refl _).alloc _
 have B1:Has W1 b1 (.cells #[.slice A n cap,.slice A2 n2 c2] 25):=by rw[cA,j_];exact Has.new _ _
 have nZ:=zH B1;have HA:=zH (hA.ext E1);clear hn hR hA B1;go_in;go_upto_region 1 with fail;rw[<-cA,<-j_];clear cA j_;go_wp2_with fail;go_loopw [4] (fun vi wr=>∃k:Nat,vi=.int .i64 k/\k<=n/\Ext W1 wr/\fZ (l.drop k)=R) (fun vi _=>n-(intOf vi).toNat)
 case atStart=>exact⟨0,rfl,bC _,Ext.refl _,by rw[jN,HR.o]⟩
 case round =>
  obtain⟨k,rfl,hk,hE,hS⟩:=hrel;have k0:(0:Int)<=(k:Int):=cO _;have HE:=zH hE;have B2:=nZ.o.ext hE;have c0:=B2.cell 0;have cz:=B2.lt;simp only[gA,gB]at c0;clear B2
  by_cases hlt:(k:Int)<n
  case neg =>
   have hd:l.drop k=[]:=Ei (by have:=HN.o;omega);have Bp:Hid (R=(65536,65536)):=by show _=_;rw[<-hS,hd,DF]
   clear hS hd hE;go_wp2;go_ret2;exact aO.mk (by rw[Bp.o];rfl) (E1.trans HE.o)
  case pos =>
   have dN:k<l.length:=by have:=HN.o;omega
   obtain⟨ba,o,rfl,yx,q0,q1,q2⟩:=(HA.o.ext hE).UV dN;have BS:IntKind.i64.wrap ((k:Int)+1)=(k:Int)+1:=cB _ (by omega);rw[jg dN]at hS;obtain⟨m,hm⟩:=ai (l[k]);rw[<-hm]at q0 q1 q2 hS;obtain⟨P,hP⟩:=ai (bs m.path);have tp:(P.toList == [47])=qV m:=by rw[hP];exact vL _
   rw[<-hP]at q0;obtain⟨mb,hmb⟩:=ai m.b;obtain⟨mn,WK⟩:=ai m.n;have HS:=zH hS;have HMB:=zH hmb;have Oi:=zH WK;rw[<-hmb]at q1;rw[<-WK]at q2;clear hS hm hP hE hmb WK
   cases ht:qV m with
   | false =>
    rw[ht]at tp;have Qo:Hid (fZ (l.drop (k+1))=R):=by show _=_;rw[<-HS.o,vK (.inl ht)]
    clear ht;go_wp2_with fail;go_roundw
    case rel=>exact⟨k+1,by go_num,by omega,HE.o.alloc _,Qo.o⟩
    case measure=>simp[intOf];omega
   | true =>
    rw[ht]at tp;have HT:=zH ht;obtain⟨u,hu⟩:=ai (dg mb mn);have abm:Hid (u=true->R=(mb,mn)):=fun h0=>by rw[<-HS.o,DG HT.o (by rw[<-HMB.o,<-Oi.o,<-hu];exact h0),HMB.o,Oi.o]
    have bB:Hid (u=false->fZ (l.drop (k+1))=R):=fun h0=>by rw[<-HS.o,vK (.inr (by rw[<-HMB.o,<-Oi.o,<-hu];exact h0))]
    obtain⟨W3,cJ⟩:=ai (wr.alloc (.cells #[.string P,mb,mn] 119));obtain⟨b3,qZ⟩:=ai wr.heap.size;have E3:Ext W1 W3:=by rw[cJ];exact HE.o.alloc _
    have B3:Has W3 b3 (.cells #[.string P,mb,mn] 119):=by rw[cJ,qZ];exact Has.new _ _
    have KL:Hid (Calls prog 120 #[mb,mn] W3 (aO W3 (.bool u))):=by
     show Calls _ _ _ _ _;rw[hu];exact ou mb mn W3
    have r0:=aA B3 0 rfl;have r1:=aA B3 1 rfl;have r2:=aA B3 2 rfl;have rz:=B3.lt;have HB3:=zH B3;clear ht hu B3;go_upto_region 5 with fail;rw[<-cJ,<-qZ];clear cJ qZ c0 cz q0 q1 q2 yx;go_wp2_with fail;refine KL.o.mono ?_;rintro e w4 ⟨rfl,b4⟩;have B4:=HB3.o.ext b4;clear r0 r1 r2 rz;have r1:=aA B4 1 rfl;have r2:=aA B4 2 rfl;have rz:=B4.lt;clear KL B4
    cases u with
    | false =>
     have qP:=zH (bB.o rfl);clear bB abm;go_wp2_with fail;go_roundw
     case rel=>exact⟨k+1,by go_num,by omega,E3.trans b4,qP.o⟩
     case measure=>simp[intOf];omega
    | true =>
     have HYY:=zH (abm.o rfl);clear bB abm;go_upto_region 6 with fail;go_quiet (fail);go_wp2;go_ret2;exact aO.mk (by rw[HYY.o];rfl) (E1.trans ((E3.trans b4).drewN nq))
theorem Iu {m:gi} (h:(qU S m).2≠0):jV S m=S:=by unfold jV;rw[af h]
theorem Bq {m:gi} (h:(qU S m).2=0) (h2:(qU S m).1.no≠0):jV S m=dB S (qU S m).1.no m.b m.n:=by unfold jV;rw[ac (by rw[h];decide),ac h2]
theorem Iv {m:gi} (h:(qU S m).2=0) (h2:(qU S m).1.no=0):jV S m=if gL S 0 0 0 (xu S m)=0 then dB (di S 0 0 0 (xu S m)) (mT S 0 0 0 (xu S m)) m.b m.n else di S 0 0 0 (xu S m):=by unfold jV;rw[ac (by rw[h];decide),af h2]
theorem U6 (h:mL w B b g c S) (k:ik c S) (hc:c<=890) (m:gi) (hp:m.path.length<=1000000) :
  Calls prog 65 #[((),b),.agg #[bs m.path,m.b,m.n]] w (fun e w'=>(∃v,e=.returned v)/\rZ w B b g (c+1) (jV S m) w'):=by
 obtain⟨W1,cA⟩:=ai (w.alloc (.cells #[bs m.path,m.b,m.n] 119));obtain⟨b3,qZ⟩:=ai w.heap.size;have E1:Ext w W1:=by rw[cA];exact (Ext.refl _).alloc _
 have B1:Has W1 b3 (.cells #[bs m.path,m.b,m.n] 119):=by rw[cA,qZ];exact Has.new _ _
 have hlt:=h.lt;have ae0:w.heap.size<=b3:=by omega
 have KF:=zH ((h.ext E1).find k (by omega) m.path false hp);obtain⟨r,hr⟩:=ai (qU S m);rw[show fq S 0 0 m.path false=r from hr.symm]at KF;have Jn:Hid (Calls prog 110 #[((),b),.agg #[(),()],bs m.path,.bool false] W1 (aO W1 (.tuple #[.agg #[r.1.dir,bs r.1.name,r.1.no,.bool r.1.iE],r.2]))):=KF.o;have HR:=zH hr;have c0:=B1.cell 0;have cz:=B1.lt;simp only[gA,gB]at c0;have nZ:=zH B1;have H1:=zH (h.ext E1);have H0:=zH h;clear h KF hr B1;go_in;go_upto_region 1 with fail;rw[<-cA,<-qZ];clear cA qZ;go_wp2_with fail;refine Jn.o.mono ?_;rintro e w1 ⟨rfl,b1⟩;clear Jn c0 cz;go_upto_region 2 with fail;obtain⟨W2,dp⟩:=ai (w1.alloc (.cells #[r.1.dir,bs r.1.name,r.1.no,.bool r.1.iE] 82));obtain⟨b4,qA⟩:=ai w1.heap.size;have E2:Ext W1 W2:=by rw[dp];exact b1.alloc _
 have X2:Has W2 b4 (.cells #[r.1.dir,bs r.1.name,r.1.no,.bool r.1.iE] 82):=by rw[dp,qA];exact Has.new _ _
 rw[<-dp,<-qA];have ae1:W1.heap.size<=b4:=by have:=b1.size;omega
 clear dp qA b1;have P2:=H1.o.ext E2;have B2:=nZ.o.ext E2;have abn:=H1.o.lt;have FU:=zH P2;have ui:=zH X2;have Rw:=zH B2;have x0:=aA X2 0 rfl;have x1:=aA X2 1 rfl;have x2:=aA X2 2 rfl;have xz:=X2.lt
 by_cases he:r.2=0
 case neg =>
  have t1:(r.2 == 0)=false:=by simpa using he
  have hT:Hid (jV S m=S):=Iu (by rw[<-HR.o];exact he);clear he P2 X2 B2;go_wp2_with fail;go_end0;refine⟨⟨_,rfl⟩,?_⟩;rw[hT.o];exact (rZ.refl H0.o (E1.trans E2)).mono (by omega)
 have t1:(r.2 == 0)=true:=by simpa using he
 have HE:=zH he;obtain⟨nS,AS,cS,S2⟩:=P2.sys
 by_cases bB:r.1.no=0
 case neg =>
  have t2:(r.1.no == 0)=false:=by simpa using bB
  have hT:Hid (jV S m=dB S r.1.no m.b m.n):=by show _=_;rw[HR.o];exact Bq (by rw[<-HR.o];exact HE.o) (by rw[<-HR.o];exact bB)
  have d1:=aA B2 1 rfl;have d2:=aA B2 2 rfl;have dz:=B2.lt;have s0:=S2.cell 0;have sz:=S2.lt;simp only[gA,gB]at s0;have KM:=zH (fun u (hu:Ext W2 u)=>(P2.ext hu).mK k (by omega) r.1.no m.b m.n);have KD:=zH ((Ext.refl W2).drew);clear he bB P2 X2 B2 S2 x0 x1 xz;have x2:=aA ui.o 2 rfl;have xz:=ui.o.lt;go_upto_region 5 with fail;go_still_tail 10,(by kernel_rfl);change wpList _ _ _ _ _ W2.drew;go_wp2_with fail;refine (KM.o _ KD.o).mono ?_;rintro e w3 ⟨⟨v3,rfl⟩,T3⟩;go_wp2_with fail;go_end0;refine⟨⟨_,rfl⟩,?_⟩;rw[hT.o];exact (T3.pre ((E1.trans E2).trans KD.o)).mono (by omega)
 have t2:(r.1.no == 0)=true:=by simpa using bB
 obtain⟨X,hX⟩:∃X:pZ,X=xu S m:=⟨_,rfl⟩;have hX':X=.dS r.1.dir r.1.name 493:=by rw[hX,HR.o];rfl
 have hT:Hid (jV S m=if gL S 0 0 0 X=0 then dB (di S 0 0 0 X) (mT S 0 0 0 X) m.b m.n else di S 0 0 0 X):=by show _=_;rw[hX];exact Iv (by rw[<-HR.o];exact HE.o) (by rw[<-HR.o];exact bB)
 have KC:=zH (P2.dS k (by omega) r.1.dir r.1.name 493);rw[<-hX']at KC;have k1:ik (c+1) (di S 0 0 0 X):=by rw[hX'];exact k.qT 0 0 0 _ (fun _ _ _ _ e=>by cases e)
 obtain⟨N,hN⟩:=ai (mT S 0 0 0 X);obtain⟨e2,oU⟩:=ai (gL S 0 0 0 X);obtain⟨T,Rx⟩:=ai (di S 0 0 0 X);rw[<-hN,<-oU,<-Rx]at KC hT;rw[<-Rx]at k1;clear he bB P2 X2 B2 hX hX' hN oU Rx S2;go_wp2_with fail;refine KC.o.mono ?_;rintro e w3 ⟨rfl,T3⟩;have X3:=T3.has ui.o (fun hm=>by have:=abn _ hm;omega);have B3:=T3.has Rw.o (fun hm=>by have:=hlt _ hm;omega);clear KC x0 x1 x2 xz;have f2:=Has.free X3 2;have xz:=X3.lt;have x2:=X3.cell 2;simp only[gA,gB,gC]at x2;obtain⟨W4,gb⟩:=ai (w3.setCell (b4,2) (.int .i64 N));have X4:Has W4 b4 (.cells #[r.1.dir,bs r.1.name,N,.bool r.1.iE] 82):=by rw[gb];exact Has.setCell X3 2 (.int .i64 N)
 have O4:Only [b4] w3 W4:=by rw[gb];exact Only.setCell _ _ _ _
 obtain ⟨g3,on3,P3,O3⟩:=T3;have F4:dX w3 B [b4]:=fun x hx=>by
  rw[ax]at hx;subst hx;have hB:=(H0.o.dJ b (bY ..));have oV:=hlt b (bY ..);have:=E1.size;refine⟨by omega,?_,?_⟩
  ·rintro⟨cs,fr,e⟩;unfold Has at X3;rw[X3]at e;injection e with e;injection e with _ e;exact absurd e (by decide)
  ·rintro⟨cs,fr,e⟩;unfold Has at X3;rw[X3]at e;injection e with e;injection e with _ e;exact absurd e (by decide)
 have Jm:∀x∈b::g3.list,x∉[b4]:=fun x hx hm=>by
  rw[ax]at hm;subst hm;exact P3.off X3 (by decide) (by decide) (by decide) (by decide) hx
 have P4:=P3.only O4 F4 Jm;have B4:=O4.has B3 (by rw[ax];have:=nZ.o.lt;omega);have on0:dL.on g3 g w:=⟨on3.1,fun x hx=>(on3.2 x hx).imp id fun e=>by have:=E1.size;have:=E2.size;omega⟩;have O0:Only (b::g.list) w W4:=(Only.pre (E1.trans E2) O3).trans O4 (fun x hx=>by rw[ax]at hx;subst hx;exact .inr (by have:=E1.size;omega));have ZU:=zH P4;have Wh:=zH on0;have Wv:=zH O0;have ZV:=zH X4;have Wx:=zH B4;obtain⟨nS,AS,cS,S2⟩:=P4.sys;clear P3 O3 on3 F4 Jm P4 on0 O0 X4 B4 O4 X3 B3
 by_cases h2:e2=0
 case neg =>
  have t3:(e2 == 0)=false:=by simpa using h2
  have FT:Hid (jV S m=T):=by show _=_;rw[hT.o,ac h2]
  clear h2 S2;go_upto_region 4 with fail;rw[<-gb];clear gb;go_wp2_with fail;go_end0;refine⟨⟨_,rfl⟩,?_⟩;rw[FT.o];exact⟨g3,Wh.o,ZU.o,Wv.o⟩
 case pos =>
  have t3:(e2 == 0)=true:=by simpa using h2
  have FT:Hid (jV S m=dB T N m.b m.n):=by show _=_;rw[hT.o,af h2]
  have s0:=S2.cell 0;have sz:=S2.lt;simp only[gA,gB]at s0;have KM:=zH (fun u (hu:Ext W4 u)=>(ZU.o.ext hu).mK k1 (by omega) N m.b m.n);have KD:=zH ((Ext.refl W4).drew);clear h2 S2;go_upto_region 4 with fail;rw[<-gb];clear gb x2 xz f2;have x2:=aA ZV.o 2 rfl;have xz:=ZV.o.lt;have d1:=aA Wx.o 1 rfl;have d2:=aA Wx.o 2 rfl;have dz:=Wx.o.lt;go_upto_region 5 with fail;go_still_tail 10,(by kernel_rfl);change wpList _ _ _ _ _ W4.drew;go_wp2_with fail;refine (KM.o _ KD.o).mono ?_;rintro e w5 ⟨⟨v5,rfl⟩,T5⟩;go_wp2_with fail;go_end0;refine⟨⟨_,rfl⟩,?_⟩;rw[FT.o];exact rZ.trans Wh.o Wv.o (T5.pre KD.o)
theorem abo {now count:Int} {len cap:Nat} {dead:Bool} (w:World) (h:eW w b g now count A len cap dead):Calls prog 46 #[((),b)] w (aO w (.int .i64 count)):=by
 go_in;go_wp2_with fail;refine (Di _ h).mono ?_;rintro e w1 ⟨rfl,b1⟩;have h1:=h.ext b1;have c1:=Has.cell h1 2;have z:=Has.lt h1;go_wp2;go_ret;exact aO.mk rfl b1
theorem PS.ZW {s:aH} (h:PS w B b g s) (A0:Option Addr) (l:List (Int×Int)) (qR:Nat) (hp:dd w A0 l) (hA:A0=none->qR=0) (ho:l≠[]->dK A0 b) (hl:l.length<=1000000) :
  Calls prog 38 #[((),b),.slice A0 l.length qR] w (fun e w'=>(∃v,e=.returned v)/\PS w' B b g {s with plan:=l,count:=0}/\Only [b] w w'):=by
 obtain⟨A,cap,h⟩:=h;have hn:=h.j7;obtain⟨h1,h2,h3,h4,h5⟩:=h;refine (XK A0 l qR w h2 hp hA ho hl).mono ?_;rintro e w' ⟨hv,A',cap',k1,k2,k3,k4,O⟩;refine⟨hv,⟨A',cap',h1.xf h2 h5 hn O,k1,?_,k3,h5⟩,O⟩;rcases k2 with k2|⟨b2,o2,e2,hb2,yD⟩
 ·exact .inl k2
 ·exact .inr ⟨b2,o2,e2,hb2,.inr (k4 _ e2),yD⟩
theorem mi.ac2 {w0:World} {f:cI} {s r:aH} (h:mi w0 B b g f s r w) (A0:Option Addr) (l:List (Int×Int)) (qR:Nat) (hp:dd w A0 l) (hA:A0=none->qR=0) (ho:l≠[]->dK A0 b) (hl:l.length<=1000000) :
  Calls prog 38 #[((),b),.slice A0 l.length qR] w (fun e w'=>(∃v,e=.returned v)/\mi w0 B b g f {s with plan:=l,count:=0} r w'):=by
 obtain⟨g1,f1,h1,h2,h3,h4,h5⟩:=h;refine (h3.ZW A0 l qR hp hA ho hl).mono ?_;rintro e w' ⟨hv,k,O⟩;exact⟨hv,mi.prg h1 h2 h3 h4 h5 k (O.mono (by simp))⟩
theorem tZ {α β:Type} (f:β->α->β) (z:β) (l:List α) (hk:k<l.length):(l.take (k+1)).foldl f z=f ((l.take k).foldl f z) l[k]:=by
 rw[mC hk,List.foldl_append];rfl
theorem Br (S:ag) (l:List gi) (hk:k<l.length):fG S (l.take (k+1))=if qV l[k]=true then fG S (l.take k) else jV (fG S (l.take k)) l[k]:=by unfold fG;rw[tZ _ _ _ hk]
theorem yg (p:ag×List Int) (l:List fk) (hk:k<l.length):eS p (l.take (k+1))=yd (eS p (l.take k)) l[k]:=by unfold eS;rw[tZ _ _ _ hk]
theorem yh (S:ag) (l:List (Int×fk)) (hk:k<l.length):fA S (l.take (k+1))=qL (fA S (l.take k)) l[k]:=by unfold fA;rw[tZ _ _ _ hk]
theorem mL.Bt {α:Type} {R:je α} {l:List α} (h:mL w B b g c S) (k:en R w base v l) (h1:R.t≠102) (h2:R.t≠106) (h3:R.t≠157) (h4:R.t≠205):∀x,v.ownBlock=some x->x∉b::g.list:=by
 intro x hx;rcases k.cases with⟨rfl,_⟩|⟨g',cap,cur,rfl,_,h5,_⟩
 ·cases hx
 ·injection hx with hx
  subst hx;exact h.off h5 h1 h2 h3 h4
theorem en.dJ {α:Type} {R:je α} {l:List α} (k:en R w base v l) (hB:B<=base) (h1:R.t≠153) (h2:R.t≠216):dX w B v.ownBlock.toList:=by
 intro x hx;have hx:=cR.1 hx;rcases k.cases with⟨rfl,_⟩|⟨g',cap,cur,rfl,hb,h5,_⟩
 ·cases hx
 ·have hx:g'=x:=nt hx
  subst hx;unfold Has at h5;refine⟨by omega,?_,?_⟩
  ·rintro⟨cs,fr,e⟩;rw[h5]at e;injection e with e;injection e with _ e;exact h1 e
  ·rintro⟨cs,fr,e⟩;rw[h5]at e;injection e with e;injection e with _ e;exact h2 e
theorem en.empty {α:Type} (R:je α) {g:Nat} (hb:base<=g) (h:Has w g (.cells #[] R.t)):en R w base (.slice (some g) 0 0) []:=
 ⟨by simp[je.cells],.inr ⟨g,0,#[],rfl,hb,h,aE _,bC _,by simp,by simp[je.cells]⟩⟩
theorem en.Bu {α:Type} {R:je α} {x:Nat} {l:List α} (k:en R w base v l) (hx:Has w x (.cells cs t)) (hne:t≠R.t):x∉v.ownBlock.toList:=by
 intro hm;obtain⟨cs2,fr,e⟩:=k.tag (cR.1 hm);unfold Has at hx;rw[hx]at e;injection e with e;injection e with _ e;exact hne e
theorem mL.ae2 (h:mL w B b g c S) :
  Calls prog 70 #[((),b)] w (fun e w'=>(∃v,e=.returned v)/\PS w' B b g ⟨S,0,0,[],false⟩/\Only (b::g.list) w w'):=by
 obtain⟨n,_,_,h⟩:=h;have hh:=h;obtain⟨A,cap,a1,a2,a3,a4,a5⟩:=hh;have HH:=zH h;have hn:=h.j7;have KN:Hid (Calls prog 78 #[((),b)] w (aO w (.bool false))):=Di w a2;clear h a1 a3 a4;go_in;go_wp2_with fail;refine KN.o.mono ?_;rintro e w1 ⟨rfl,b1⟩;have h1:=HH.o.ext b1;obtain⟨A1,Lv,k1,k2,k3,k4,k5⟩:=id h1;have c4:=Has.cell k2 4;have f4:=Has.free k2 4;have z4:=Has.lt k2;simp only[gA,gB,gC]at c4;obtain⟨W2,dp⟩:=ai (w1.setCell (b,4) (.bool false));have S2:eW W2 b g 0 n A1 0 Lv false:=by rw[dp];exact Has.setCell k2 4 (.bool false)
 have O2:Only [b] w1 W2:=by rw[dp];exact Only.setCell _ _ _ _
 have P2:PS W2 B b g ⟨S,0,n,[],false⟩:=⟨A1,Lv,k1.xf k2 k5 hn O2,S2,.inl rfl,k4,k5⟩;have KP:=zH (P2.ZW none [] 0 (.inl rfl) (fun _=>rfl) (fun h=>absurd rfl h) (bC _));clear k1 k2 k3 k4 S2 KN;go_upto_region 2 with fail;rw[<-dp];clear dp c4 f4 z4;go_wp2_with fail;refine KP.o.mono ?_;rintro e w3 ⟨⟨v,rfl⟩,P3,O3⟩;go_wp2_with fail;go_end0;refine⟨⟨_,rfl⟩,P3,(Only.pre b1 (O2.mono (fun x hx=>by rw[ax]at hx;subst hx;exact bY ..))).then (O3.mono (fun x hx=>by rw[ax]at hx;subst hx;exact bY ..))⟩
theorem Bv (Am:Option Addr) (ms:List gi) (cm:Nat) (Ai:Option Addr) (is:List fk) (ci:Nat) (w:World) (hM:fY Bo w Am ms) (hI:fY yA w Ai is) (h1:ms.length<=10) (h2:is.length<=30)
  (h3:∀m∈ms,m.path.length<=1000000) (h4:∀it∈is,it.path.length<=1000000/\it.data.length<=1000000) :
  Calls prog 36 #[.agg #[.slice Am ms.length cm,.slice Ai is.length ci]] w (fun e w'=>∃(b B:Nat) (g:dL),e=.returned (.pointer (some ⟨b,0,none⟩))/\w.heap.size<=B/\PS w' B b g ⟨jf ms is,0,0,[],false⟩/\Ext w w'):=by
 obtain⟨nm,ie⟩:=ai ms.length;obtain⟨ni,yS⟩:=ai is.length;obtain⟨W1,cA⟩:=ai (w.alloc (.cells #[.slice Am nm cm,.slice Ai ni ci] 25));obtain⟨b1,j_⟩:=ai w.heap.size;have E1:Ext w W1:=by rw[cA];exact (Ext.refl _).alloc _
 have B1:Has W1 b1 (.cells #[.slice Am nm cm,.slice Ai ni ci] 25):=by rw[cA,j_];exact Has.new _ _
 have KL:Hid (Calls prog 64 #[.agg #[.slice Am nm cm,.slice Ai ni ci]] W1 (aO W1 (.tuple #[.int .i64 (fZ ms).1,.int .i64 (fZ ms).2]))):=by
  show Calls _ _ _ _ _;rw[ie];exact U4 Am ms cm Ai ni ci W1 (hM.ext E1) (by omega)
 rw[<-ie]at h1|-;rw[<-yS]at h2|-;have Yv:=zH ie;have Qr:=zH yS;have HM:=zH (hM.ext E1);have HI:=zH (hI.ext E1);have nZ:=zH B1;have c0:=aA B1 0 rfl;have c1:=aA B1 1 rfl;have cz:=B1.lt;clear ie yS hM hI B1;go_in;go_upto_region 1 with fail;rw[<-cA,<-j_];clear cA j_;go_wp2_with fail;refine KL.o.mono ?_;rintro e w2 ⟨rfl,E2⟩;clear KL c0 c1 cz;go_wp2_with fail;refine (aet (fZ ms).1 (fZ ms).2 w2 (mh ms)).mono ?_;rintro e w3 ⟨g0,B,b,hB,Fh,rfl,K3,S3,_,E3⟩;have P3:mL w3 B b g0 0 (fG (jo ms) (ms.take 0)):=⟨0,gE _,gE _,none,0,K3,S3,.inl rfl,(fun x hx=>by cases hx),Fh⟩;have E13:Ext W1 w3:=E2.trans E3;have zL:W1.heap.size<=B:=by have:=E2.size;omega
 have B3:=nZ.o.ext E13;have c0:=B3.cell 0;have cz:=B3.lt;simp only[gA,gB]at c0;have Yu:=zH P3;clear K3 S3 P3 B3 E2 E3 hB;go_wp2_with fail;clear c0 cz;go_loopw [26] (fun vi wr=>∃(k:Nat) (g:dL),vi=.int .i64 k/\k<=nm/\mL wr B b g (2*k) (fG (jo ms) (ms.take k))/\Ext W1 wr) (fun vi _=>nm-(intOf vi).toNat)
 case atStart=>exact⟨0,g0,rfl,bC _,Yu.o,E13⟩
 case round =>
  clear Yu;obtain⟨k,g,rfl,hk,hP,hE⟩:=hrel;have k0:(0:Int)<=(k:Int):=cO _;have HP:=zH hP;have HE:=zH hE
  by_cases hlt:(k:Int)<nm
  case pos =>
   have dN:k<ms.length:=by have:=Yv.o;omega
   obtain⟨ba,o,rfl,yx,q0,q1,q2⟩:=(HM.o.ext hE).UV dN;have BS:IntKind.i64.wrap ((k:Int)+1)=(k:Int)+1:=cB _ (by omega);have hst:=Br (jo ms) ms dN;have hpl:=h3 ms[k] (jh dN);have xA:ik (2*k) (fG (jo ms) (ms.take k)):=(((ik.first (mh ms)).Ip (ms.take k))).mono (by rw[iG];omega);obtain⟨m,hm⟩:=ai (ms[k]);rw[<-hm]at q0 q1 q2 hst hpl;obtain⟨W4,gb⟩:=ai (wr.alloc (.cells #[bs m.path,m.b,m.n] 119));obtain⟨b6,GL⟩:=ai wr.heap.size;have E4:Ext wr W4:=by rw[gb];exact (Ext.refl _).alloc _
   have B4:Has W4 b6 (.cells #[bs m.path,m.b,m.n] 119):=by rw[gb,GL];exact Has.new _ _
   have tp:=vL m.path;have KM:=zH (U6 (HP.o.ext E4) xA (by omega) m hpl);have r0:=aA B4 0 rfl;have r1:=aA B4 1 rfl;have r2:=aA B4 2 rfl;have rz:=B4.lt;have qQ:=zH hst;clear hP hE hm hst hpl xA B4;go_upto_region 7 with fail;rw[<-gb,<-GL];clear gb GL q0 q1 q2 yx;obtain⟨P,Fy⟩:=ai (bs m.path);rw[<-Fy]at r0 tp KM;clear Fy;have tt:qV m=(m.path == [47]):=rfl;rw[<-tt]at tp;clear tt
   cases ht:qV m with
   | true =>
    rw[ht]at tp;have Bp:Hid (fG (jo ms) (ms.take (k+1))=fG (jo ms) (ms.take k)):=by show _=_;rw[qQ.o,af ht]
    clear ht;go_wp2_with fail;go_roundw
    case rel=>exact⟨k+1,g,by go_num,by omega,by rw[Bp.o];exact (HP.o.ext E4).mono (by omega),HE.o.trans E4⟩
    case measure=>simp[intOf];omega
   | false =>
    rw[ht]at tp;have Bp:Hid (fG (jo ms) (ms.take (k+1))=jV (fG (jo ms) (ms.take k)) m):=by show _=_;rw[qQ.o,ac (by rw[ht];decide)]
    clear ht;go_wp2_with fail;refine KM.o.mono ?_;rintro e w5 ⟨⟨v5,rfl⟩,T5⟩;have E5:Ext W1 w5:=T5.after (HP.o.ext E4) (HE.o.trans E4) zL;obtain⟨g5,_,P5,_⟩:=T5;have HP5:=zH P5;clear P5 KM r0 r1 r2 rz;go_wp2_with fail;go_roundw
    case rel=>exact⟨k+1,g5,by go_num,by omega,by rw[Bp.o];exact HP5.o.mono (by omega),E5⟩
    case measure=>simp[intOf];omega
  case neg =>
   have q7:ms.take k=ms:=lw (by have:=Yv.o;omega);have Lz:=HP.o;rw[q7]at Lz;have LA:ik 20 (fG (jo ms) ms):=((ik.first (mh ms)).Ip ms).mono (by have:=Yv.o;omega);obtain⟨S1,Kc⟩:=ai (fG (jo ms) ms);rw[<-Kc]at Lz LA;have U7:Hid (jf ms is=fA (eS (S1,[]) is).1 ((eS (S1,[]) is).2.zip is)):=by show _=_;rw[Kc];rfl
   have FU:=zH (Lz.mono (show 2*k<=20 by omega));have U8:=zH LA;have B3:=nZ.o.ext hE;have c1:=aA B3 1 rfl;have cz:=B3.lt;clear hP hE HP Lz LA q7 Kc B3 HM E13;go_upto_region 11 with fail;obtain⟨W6,tM⟩:=ai (wr.alloc (.cells #[] 3));obtain⟨b7,uk⟩:=ai wr.heap.size;have E6:Ext wr W6:=by rw[tM];exact (Ext.refl _).alloc _
   have M6:Has W6 b7 (.cells #[] 3):=by rw[tM,uk];exact Has.new _ _
   have hN6:W6.heap.size=wr.heap.size+1:=by rw[tM];simp
   rw[<-tM,<-uk];have ac3:wr.heap.size<=b7:=by omega
   have hP6:=FU.o.ext E6;have O6:en lP W6 wr.heap.size (.slice (some b7) 0 0) []:=en.empty lP ac3 M6;have U9:B<=wr.heap.size:=by have h7:=FU.o.lt b (bY ..);omega
   obtain⟨N0,Tx⟩:=ai wr.heap.size;rw[<-Tx]at O6 U9;have HO6:=zH O6;have HP6:=zH hP6;have Km:=zH (HE.o.trans E6);have U_:N0<=W6.heap.size:=by have:=E6.size;omega
   have c1':=(E6.cell cz).trans c1;have cz':b1<W6.heap.size:=by have:=E6.size;omega
   clear tM uk M6 E6 hN6 O6 hP6 c1 cz Tx hlt hk k0 FU HE;go_wp2_with fail;clear c1' cz';go_loopw [7,41] (fun vm vi wr=>∃(k:Nat) (g:dL),vi=.int .i64 k/\k<=ni/\mL wr B b g (20+3*k) (eS (S1,[]) (is.take k)).1/\en lP wr N0 vm (eS (S1,[]) (is.take k)).2/\N0<=wr.heap.size/\Ext W1 wr) (fun _ vi _=>ni-(intOf vi).toNat)
   case atStart=>exact⟨0,g,rfl,bC _,HP6.o,HO6.o,U_,Km.o⟩
   case round =>
    clear HP6 HO6 Km ac3 U_ g;obtain⟨k,g,rfl,hk,hP,hO,hNl,hE⟩:=hrel;have k0:(0:Int)<=(k:Int):=cO _
    by_cases hlt:(k:Int)<ni
    case pos =>
     have dN:k<is.length:=by have:=Qr.o;omega
     obtain⟨ba,o,rfl,yx,q0,q1,q2,q3,q4,q5,q6⟩:=(HI.o.ext hE).Ql dN;have BS:IntKind.i64.wrap ((k:Int)+1)=(k:Int)+1:=cB _ (by omega);have hst:=yg (S1,[]) is dN;have hil:=h4 is[k] (jh dN);have iY:=ik.items (is.take k) (S1,[]) U8.o;have sO:(is.take k).length=k:=by rw[iG];omega
     rw[sO]at iY;obtain⟨it,hit⟩:=ai (is[k]);rw[<-hit]at q0 q1 q2 q3 q4 q5 q6 hst hil;obtain⟨p,uf⟩:=ai (eS (S1,[]) (is.take k));rw[<-uf]at hst hP hO iY;have Va:=iY.2;simp only[gj,eY]at Va;have Vb:=zH iY.1;obtain⟨W8,uG⟩:=ai (wr.alloc (.cells #[bs it.path,it.kind,it.mode,it.uid,it.gid,it.mtime,bs it.data] 72));obtain⟨b9,Fu⟩:=ai wr.heap.size;have E8:Ext wr W8:=by rw[uG];exact (Ext.refl _).alloc _
     have B8:Has W8 b9 (.cells #[bs it.path,it.kind,it.mode,it.uid,it.gid,it.mtime,bs it.data] 72):=by rw[uG,Fu];exact Has.new _ _
     have P8:=hP.ext E8;have O8:=hO.ext E8;have abp:=hP.lt;have Yp:wr.heap.size<=b9:=by omega
     have KN:=zH (U3 P8 iY.1 (by omega) it hil.1 hil.2);obtain⟨T,hT⟩:=ai (lv p.1 it);obtain⟨no,bB⟩:=ai (kv p.1 it);rw[<-hT,<-bB]at KN;have Ch:eS (S1,[]) (is.take (k+1))=(iO T no it,p.2++[no]):=by rw[hst,hT,bB];rfl
     have Vc:ik (20+3*k+1) T:=by rw[hT];exact iY.1.Ql it
     have qQ:=zH Ch;have HPT:=zH Vc;have Qs:=zH P8;have Lw:=zH O8;have Iw:=zH B8;have Qj:=zH (hE.trans E8);have r0:=aA B8 0 rfl;have r1:=aA B8 1 rfl;have r2:=aA B8 2 rfl;have r3:=aA B8 3 rfl;have r4:=aA B8 4 rfl;have r5:=aA B8 5 rfl;have r6:=aA B8 6 rfl;have rz:=B8.lt;clear hst hil iY uf hP hO hE hit hT bB Ch Vc P8 O8 B8 sO;go_upto_region 14 with fail;rw[<-uG,<-Fu];clear uG Fu q0 q1 q2 q3 q4 q5 q6 yx;go_wp2_with fail;refine KN.o.mono ?_;rintro e w9 ⟨rfl,T9⟩;have E9:Ext W1 w9:=T9.after Qs.o Qj.o zL;have B9:=T9.has Iw.o (fun hm=>by have:=abp _ hm;omega);have hoff:=Qs.o.Bt Lw.o (by decide) (by decide) (by decide) (by decide);obtain⟨g9,on9,P9,o9⟩:=T9;have O9:=Lw.o.only o9 hoff;have Vd:N0<=w9.heap.size:=by have:=o9.size;have:=E8.size;omega
     obtain⟨v10,tg,Ve,Vf,LB,_⟩:=DB lP w9 O9 Vd no (by omega);have ae3:W1.heap.size<=N0:=by omega
     have E10:Ext W1 tg:=(E9.alloc _).grown LB (fun g hv=>by have:=(O9.lt hv).1;omega);have Yw:Only u7.ownBlock.toList w9 tg:=(Only.lh _ _ _).then (Only.of_grownBy LB (fun g hv=>cR.2 hv));have ZS:=P9.only Yw (O9.dJ U9 (by decide) (by decide)) (fun x hx hm=>P9.Bt O9 (by decide) (by decide) (by decide) (by decide) x (cR.1 hm) hx);have ZR:=Yw.has B9 (O9.Bu B9 (by decide));have Vg:N0<=tg.heap.size:=by have:=Yw.size;omega
     have Im:=zH Ve;have Bw:=zH ZS;have EL:=zH Vf;have vE:=zH ZR;have Qt:=zH E10;clear E9 B9 hoff P9 o9 on9 O9 Ve Vf LB E10 Yw ZS ZR KN r0 r1 r2 r3 r4 r5 r6 rz Vd
     by_cases kR:no=0
     case pos =>
      have t1:(no != 0)=false:=by simpa using kR
      have hD:Hid (iO T no it=T):=by show _=_;unfold iO;rw[ac (fun q=>q kR)]
      clear kR;go_wp2_with (at_builtin;refine nj _ rfl _ _ 124 124 rfl _ _ rfl rfl _ _ Im.o ?_);go_roundw
      case rel=>exact⟨k+1,g9,by go_num,by omega,by rw[qQ.o,hD.o];exact Bw.o.mono (by omega),by rw[qQ.o];exact EL.o,Vg,Qt.o⟩
      case measure=>simp[intOf];omega
     case neg =>
      have t1:(no != 0)=true:=by simpa using kR
      have hD:Hid (iO T no it=di (di T 0 0 0 (.fF no it.uid it.gid)) 0 0 0 (.ee no it.mode)):=by show _=_;unfold iO;rw[af kR];rfl
      have KC:=zH (Bw.o.fF HPT.o (by omega) no it.uid it.gid);have LC:ik (20+3*k+1+1) (di T 0 0 0 (.fF no it.uid it.gid)):=HPT.o.qT 0 0 0 _ (fun _ _ _ _ e=>by cases e);obtain⟨U,hU⟩:=ai (di T 0 0 0 (.fF no it.uid it.gid));obtain⟨ec,hec⟩:=ai (gL T 0 0 0 (.fF no it.uid it.gid));rw[<-hU,<-hec]at KC;rw[<-hU]at hD LC;have HPU:=zH LC;clear kR hU hec LC;have r3:=aA vE.o 3 rfl;have r4:=aA vE.o 4 rfl;have rz:=vE.o.lt;go_wp2_with (at_builtin;refine nj _ rfl _ _ 124 124 rfl _ _ rfl rfl _ _ Im.o ?_);refine KC.o.mono ?_;rintro e Rg ⟨rfl,Vh⟩;have afA:=Bw.o.lt;have Dt:Ext W1 Rg:=Vh.after Bw.o Qt.o zL;have B11:=Vh.has vE.o (Bw.o.off vE.o (by decide) (by decide) (by decide) (by decide));have hoff:=Bw.o.Bt EL.o (by decide) (by decide) (by decide) (by decide);obtain⟨g11,Bz,LG,LH⟩:=Vh;have Vi:=EL.o.only LH hoff;have ac4:N0<=Rg.heap.size:=by have:=LH.size;omega
      have KM:=zH (LG.ee HPU.o (by omega) no it.mode);obtain⟨V,hV⟩:=ai (di U 0 0 0 (.ee no it.mode));obtain⟨ed,hed⟩:=ai (gL U 0 0 0 (.ee no it.mode));rw[<-hV,<-hed]at KM;rw[<-hV]at hD;have Iy:=zH LG;have Fz:=zH Vi;have Iz:=zH Dt;clear r3 r4 rz KC hV hed Bz LH hoff LG Vi Dt;have r2:=aA B11 2 rfl;have rz:=B11.lt;clear B11;go_wp2_with fail;refine KM.o.mono ?_;rintro e w12 ⟨rfl,T12⟩;have Pa:Ext W1 w12:=T12.after Iy.o Iz.o zL;have hoff:=Iy.o.Bt Fz.o (by decide) (by decide) (by decide) (by decide);obtain⟨g12,Vj,P12,ZX⟩:=T12;have O12:=Fz.o.only ZX hoff;have Vk:N0<=w12.heap.size:=by have:=ZX.size;omega
      have abq:=zH P12;have abr:=zH O12;have abt:=zH Pa;clear r2 rz KM Vj ZX hoff P12 O12 Pa;go_wp2_with fail;go_roundw
      case rel=>exact⟨k+1,g12,by go_num,by omega,by rw[qQ.o,hD.o];exact abq.o.mono (by omega),by rw[qQ.o];exact abr.o,Vk,abt.o⟩
      case measure=>simp[intOf];omega
    case neg =>
     have q7:is.take k=is:=lw (by have:=Qr.o;omega);rw[q7]at hP hO;have iY:=ik.items is (S1,[]) U8.o;have yS:=Qr.o;obtain⟨p,uf⟩:=ai (eS (S1,[]) is);rw[<-uf]at hP hO iY;have Pu:Hid (jf ms is=fA p.1 (p.2.zip is)):=by show _=_;rw[U7.o,uf]
     have Va:p.2.length=ni:=by have:=iY.2;simp only[gj,eY]at this;omega
     have HOL:=zH Va;have hzl:Hid ((p.2.zip is).length=ni):=by show _=_;rw[JI];omega
     have abu:=zH (iY.1.mono (show 20+3*is.length<=110 by omega));have HP:=zH (hP.mono (show 20+3*k<=110 by omega));obtain⟨Am,cm',hvm,_,_,Vl,_⟩:=hO.at_;rw[Va]at hvm;have HO:=zH hO;have HE:=zH hE;have abv:=zH Vl;have B3:=nZ.o.ext hE;have c1:=aA B3 1 rfl;have cz:=B3.lt;subst hvm;clear hP hO hE q7 iY yS uf Va Vl B3;go_wp2_with fail;clear c1 cz hlt hk k0;go_loopw [72] (fun vi wr=>∃(k:Nat) (g:dL),vi=.int .i64 k/\k<=ni/\mL wr B b g (110+k) (fA p.1 ((p.2.zip is).take k))/\en lP wr N0 (.slice Am ni cm') p.2/\Ext W1 wr) (fun vi _=>ni-(intOf vi).toNat)
     case atStart=>exact⟨0,g,rfl,bC _,HP.o,HO.o,HE.o⟩
     case round =>
      clear HP HO HE hNl g abv;obtain⟨k,g,rfl,hk,hP,hO,hE⟩:=hrel;have k0:(0:Int)<=(k:Int):=cO _
      by_cases hlt:(k:Int)<ni
      case pos =>
       have dN:k<is.length:=by have:=Qr.o;omega
       have Ry:k<p.2.length:=by have:=HOL.o;omega
       have hkz:k<(p.2.zip is).length:=by have:=hzl.o;omega
       obtain ⟨ba,o,rfl,yx,q0,q1,q2,q3,q4,q5,q6⟩:=(HI.o.ext hE).Ql dN;obtain⟨gm,hgm,abw,qm⟩:∃gm,Am=some ⟨gm,0,none⟩/\gm<wr.heap.size/\wr.cell? ⟨gm,k,none⟩=some (.int .i64 p.2[k]):=by
        rcases hO.cases with⟨_,h2⟩|⟨gm,cap,cur,h2,_,h3,_,_,h4⟩
        ·rw[h2]at Ry;cases Ry
        ·injection h2 with h2
         have:=h4 k Ry 0 (by decide);exact⟨gm,h2,h3.lt,by simpa [lP]using this⟩
       subst hgm;have BS:IntKind.i64.wrap ((k:Int)+1)=(k:Int)+1:=cB _ (by omega);have hst:=yh p.1 (p.2.zip is) hkz;rw[List.getElem_zip]at hst;have xA:ik (110+k) (fA p.1 ((p.2.zip is).take k)):=(ik.times ((p.2.zip is).take k) abu.o).mono (by rw[iG];omega);obtain⟨it,hit⟩:=ai (is[k]);obtain⟨no,bB⟩:=ai (p.2[k]);rw[<-hit]at q0 q1 q2 q3 q4 q5 q6 hst;rw[<-bB]at qm hst;obtain⟨S3,Qo⟩:=ai (fA p.1 ((p.2.zip is).take k));rw[<-Qo]at hst xA hP;obtain⟨W8,uG⟩:=ai (wr.alloc (.cells #[bs it.path,it.kind,it.mode,it.uid,it.gid,it.mtime,bs it.data] 72));obtain⟨b9,Fu⟩:=ai wr.heap.size;have E8:Ext wr W8:=by rw[uG];exact (Ext.refl _).alloc _
       have B8:Has W8 b9 (.cells #[bs it.path,it.kind,it.mode,it.uid,it.gid,it.mtime,bs it.data] 72):=by rw[uG,Fu];exact Has.new _ _
       have P8:=hP.ext E8;have O8:=hO.ext E8;have qm':=(E8.cell abw).trans qm;have qz':gm<W8.heap.size:=by have:=E8.size;omega
       have qQ:=zH hst;have Qs:=zH P8;have Lw:=zH O8;have Qj:=zH (hE.trans E8);have r5:=aA B8 5 rfl;have rz:=B8.lt;have Vb:=zH xA;clear hst hP hO hE hit bB Qo P8 O8 B8 xA qm Ry hkz;go_upto_region 23 with fail;rw[<-uG,<-Fu];clear uG Fu q0 q1 q2 q3 q4 q5 q6 yx abw
       by_cases kR:no=0
       case pos =>
        have t1:(no != 0)=false:=by simpa using kR
        have hD:Hid (fA p.1 ((p.2.zip is).take (k+1))=S3):=by show _=_;rw[qQ.o];unfold qL;rw[ac (fun q=>q kR)]
        clear kR;go_wp2_with fail;go_roundw
        case rel=>exact⟨k+1,g,by go_num,by omega,by rw[hD.o];exact Qs.o.mono (by omega),Lw.o,Qj.o⟩
        case measure=>simp[intOf];omega
       case neg =>
        have t1:(no != 0)=true:=by simpa using kR
        have hD:Hid (fA p.1 ((p.2.zip is).take (k+1))=di S3 0 0 0 (.iD no it.mtime)):=by show _=_;rw[qQ.o];unfold qL;rw[af kR];rfl
        have hDr:=(Ext.refl W8).drew;have KC:=zH ((Qs.o.ext hDr).iD Vb.o (by omega) no it.mtime);have Jg:=zH hDr;clear kR hDr;go_upto_region 24 with fail;go_still_tail 8,(by kernel_rfl);change wpList _ _ _ _ _ W8.drew;go_wp2_with fail;refine KC.o.mono ?_;rintro e Rg ⟨rfl,Vh⟩;have Dt:Ext W1 Rg:=Vh.after (Qs.o.ext Jg.o) (Qj.o.trans Jg.o) zL;have hoff:=(Qs.o.ext Jg.o).Bt (Lw.o.ext Jg.o) (by decide) (by decide) (by decide) (by decide);obtain⟨g11,Bz,LG,LH⟩:=Vh;have Vi:=(Lw.o.ext Jg.o).only LH hoff;have Iy:=zH LG;have Fz:=zH Vi;have Iz:=zH Dt;clear r5 rz KC Bz LH hoff LG Vi Dt qm' qz';go_wp2_with fail;go_roundw
        case rel=>exact⟨k+1,g11,by go_num,by omega,by rw[hD.o];exact Iy.o.mono (by omega),Fz.o,Iz.o⟩
        case measure=>simp[intOf];omega
      case neg =>
       have q7:(p.2.zip is).take k=p.2.zip is:=lw (by have:=hzl.o;omega);rw[q7,<-Pu.o]at hP;have HP:=zH hP;have HE:=zH hE;have KW:=zH hP.ae2;clear q7 hP hE hO;go_wp2_with fail;refine KW.o.mono ?_;rintro e w9 ⟨⟨v9,rfl⟩,P9,o9⟩;have E9:Ext W1 w9:=o9.after HE.o (fun x hx=>by have:=(HP.o.dJ x hx).1;omega);have HP9:=zH P9;clear P9 o9 KW;go_wp2;go_ret;exact⟨b,B,g,rfl,by have:=E1.size;omega,HP9.o,E1.trans E9⟩
end Go.Proofs.YtpibnfdolojpcaaGreat
