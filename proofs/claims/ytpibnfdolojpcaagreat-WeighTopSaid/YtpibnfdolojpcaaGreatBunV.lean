import Derived.Test.YtpibnfdolojpcaaGreatBunN
import Derived.Test.YtpibnfdolojpcaaGreatBunS
import Derived.Test.YtpibnfdolojpcaaGreatBunL
import Derived.Test.YtpibnfdolojpcaaGreatBunO
set_option maxHeartbeats 16000000
set_option maxRecDepth 100000
namespace Go.Proofs.YtpibnfdolojpcaaGreat
structure RwD where
 path:List UInt8
 kind:Int
 mode:Int
 uid:Int
 gid:Int
 mtime:Int
 ctime:Int
 dev:Int
 first:Int
 data:List UInt8
def underN (s n:List UInt8):List UInt8:=cutN s++47::n
theorem underN_len (s n:List UInt8):(underN s n).length≤s.length+1+n.length:=by
 unfold underN;have:=cutN_len s;rw [List.length_append,List.length_cons];omega
def firstN (nos:List Int) (no:Int):Nat:=nos.findIdx (· == no)
abbrev TodoD:=List UInt8×Int
def rowF (S:TreeD) (nos:List Int) (x:TodoD):RwD:=
 let n:=getN S.nodes (overF S.devs x.2)
 ⟨x.1,n.kind,n.mode,n.uid,n.gid,n.mtime,n.ctime,n.dev,firstN nos n.no,n.data⟩
def kidsF (S:TreeD) (x:TodoD):List TodoD:=(getN S.nodes (overF S.devs x.2)).ents.map fun y=>(underN x.1 y.1,y.2)
inductive BelowR (S:TreeD):List TodoD→List Int→List RwD→Prop
 | nil (nos:List Int):BelowR S [] nos []
 | none {x:TodoD} {t:List TodoD} {nos:List Int} {l:List RwD}:isN S.nodes (overF S.devs x.2)=false→BelowR S t nos l→BelowR S (x::t) nos l
 | step {x:TodoD} {t:List TodoD} {nos:List Int} {l:List RwD}:isN S.nodes (overF S.devs x.2)=true→BelowR S (kidsF S x++t) (nos++[overF S.devs x.2]) l→BelowR S (x::t) nos (rowF S nos x::l)
def wtT (S:TreeD) (r:Int→Nat) (c:Nat) (l:List TodoD):Nat:=(l.map fun x=>wtN S r c (overF S.devs x.2)).sum
theorem wt_kids {c:Nat} {S:TreeD} (h:Tre c S) (hn:NoEnts S) (hl:ListUp S) {r:Int→Nat} (hr:Rank S r) (x:TodoD):wtT S r c (kidsF S x)<wtN S r c (overF S.devs x.2):=by
 obtain ⟨no,hno⟩:∃no,no=overF S.devs x.2:=⟨_,rfl⟩;unfold kidsF;rw [←hno]
 by_cases hk:(getN S.nodes no).kind=1
 ·obtain ⟨i1,i2,i3⟩:=getN_node hk
  have hrx:=hr.top no;have hs:=h.small _ i3;unfold wtT;rw [List.map_map];have hle:∀y∈(getN S.nodes no).ents,((fun x:TodoD=>wtN S r c (overF S.devs x.2))∘fun y:EntD=>(underN x.1 y.1,y.2)) y≤(c+2) ^ (S.nodes.length-r no):=by
   intro z hz;show wtN S r c (overF S.devs z.2)≤_;unfold wtN;split
   ·rename_i hk2
    obtain ⟨a1,a2⟩:=list_above h hl i3 hz hk2;rw [i2]at a1 a2;have hx1:=(h.nos.2 _ i3).1;rw [i2]at hx1;have h0:overF S.devs z.2≠0:=by
     intro e;rw[e]at hk2;have:=(getN_node hk2).1;rw [h.nos.zero (.inl (by decide))]at this;cases this
    have:=hr.step (overF S.devs z.2) h0 (by rw[a1];omega) (by rw[a1];exact Ne.symm a2);rw [a1]at this;exact Nat.pow_le_pow_right (by omega) (by omega)
   ·exact Nat.pow_pos (by omega)
  have h1:=sum_le _ _ _ hle;have h2:wtN S r c no=(c+2) ^ (S.nodes.length-r no)*(c+2):=by
   unfold wtN;rw [if_pos hk,show S.nodes.length+1-r no=(S.nodes.length-r no)+1 by omega,Nat.pow_succ]
  rw [h2];have h3:0<(c+2) ^ (S.nodes.length-r no):=Nat.pow_pos (by omega)
  generalize (c+2) ^ (S.nodes.length-r no)=P at *
  have h4:(getN S.nodes no).ents.length*P≤c*P:=Nat.mul_le_mul_right P hs;have h5:P*(c+2)=c*P+2*P:=by rw[Nat.mul_add,Nat.mul_comm P c,Nat.mul_comm P 2]
  refine Nat.lt_of_le_of_lt h1 ?_;omega
 ·have:(getN S.nodes no).ents=[]:=by
   cases hi:isN S.nodes no
   ·rw[(isN_false hi).1];rfl
   ·exact hn _ (isN_true hi).2.2 hk
  rw [this];exact wt_pos S r c no
theorem below_ends {c:Nat} {S:TreeD} (h:Tre c S) (hn:NoEnts S) (hl:ListUp S) (t:List TodoD) (nos:List Int):∃l,BelowR S t nos l:=by
 obtain ⟨r,hr⟩:=h.rank;have key : ∀n t nos,wtT S r c t≤n→∃l,BelowR S t nos l:=by
  intro n
  induction n with
  | zero =>
   intro t nos ht
   cases t with
   | nil=>exact⟨_,.nil _⟩
   | cons x t =>
    have:=wt_pos S r c (overF S.devs x.2);unfold wtT at ht;rw [List.map_cons,List.sum_cons]at ht;omega
  | succ n ih =>
   intro t nos ht
   cases t with
   | nil=>exact⟨_,.nil _⟩
   | cons x t =>
    have hp:=wt_pos S r c (overF S.devs x.2);unfold wtT at ht;rw [List.map_cons,List.sum_cons]at ht
    cases hi:isN S.nodes (overF S.devs x.2)
    ·obtain ⟨l,hd⟩:=ih t nos (by unfold wtT;omega)
     exact ⟨_,.none hi hd⟩
    ·have hw:=wt_kids h hn hl hr x
     obtain ⟨l,hd⟩:=ih (kidsF S x++t) (nos++[overF S.devs x.2]) (by
      unfold wtT at hw⊢;rw [List.map_append,List.sum_append];omega)
     exact ⟨_,.step hi hd⟩
 exact key _ t nos (Nat.le_refl _)
theorem root_dev {c:Nat} {S:TreeD} (h:Tre c S) {j k:Nat} (hj:j<S.devs.length) (hk:k<S.devs.length) (e:S.devs[j].root=S.devs[k].root):j=k:=by
 obtain ⟨m,hm,m1,_,m3⟩:=h.rootsIn j hj;obtain ⟨n,hn,n1,_,n3⟩:=h.rootsIn k hk;have:=node_eq h.nos hm hn (by rw[m1,n1,e]);rw [this,n3]at m3;omega
theorem over_once {c:Nat} {S:TreeD} (h:Tre c S) (k:Kids S) {m:NodeD} (hm:m∈S.nodes) {x y:EntD} (hx:x∈m.ents) (hy:y∈m.ents) (hk:(getN S.nodes (overF S.devs x.2)).kind=1) (e:overF S.devs x.2=overF S.devs y.2):x=y:=by
 have px:=(h.pos _ hm x hx).1;have py:=(h.pos _ hm y hy).1;obtain ⟨_,kx,_⟩:=h.kin m hm x hx;obtain ⟨_,ky,_⟩:=h.kin m hm y hy;rcases overF_cases h.mounts (show 0<x.2 by omega) with e1|⟨i,hi,e1,e2⟩
 ·rcases overF_cases h.mounts (show 0<y.2 by omega) with f1|⟨j,hj,f1,f2⟩
  ·rw [e1]at hk
   obtain ⟨_,i2,i3⟩:=getN_node hk;exact k.once m hm x hx y hy _ i3 i2 hk (by rw[←e1,←f1,e])
  ·have:=kx _ (List.getElem_mem hj)
   exact absurd (by rw[←e1,e,f2]) this
 ·rcases overF_cases h.mounts (show 0<y.2 by omega) with f1|⟨j,hj,f1,f2⟩
  ·have:=ky _ (List.getElem_mem hi)
   exact absurd (by rw[←f1,←e,e2]) this
  ·have hij:=root_dev h hi hj (by rw[←e2,←f2,e])
   have:i=j:=by omega
   subst this;obtain ⟨q,hq,q1,q2,_⟩:=h.overs i hi;exact k.once m hm x hx y hy q hq (by rw[q1,e1]) q2 (by rw[←e1,←f1])
theorem below_count {c:Nat} {S:TreeD} (h:Tre c S) (hn:NoEnts S) (k:Kids S) {r:Int→Nat} (hr:Rank S r) (x0:Int) {t:List TodoD} {nos:List Int} {l:List RwD} (hd:BelowR S t nos l) :
  ∀ E : List Int,E.Nodup→(∀y∈E,(getN S.nodes y).kind=1∧r x0≤r y∧(y=x0∨aboveF S y∈E)) →
   (∀z∈t,(getN S.nodes (overF S.devs z.2)).kind=1→overF S.devs z.2∉E∧r x0≤r (overF S.devs z.2)∧(overF S.devs z.2=x0∨aboveF S (overF S.devs z.2)∈E)) →
   t.Pairwise (fun a b=>(getN S.nodes (overF S.devs a.2)).kind=1→(getN S.nodes (overF S.devs b.2)).kind=1→overF S.devs a.2≠overF S.devs b.2) →
   l.length+(E.map fun y=>(getN S.nodes y).ents.length).sum≤t.length+entsN S:=by
 induction hd with
 | nil =>
  intro E h1 h2 _ _;have:=sum_nodup S.nodes (fun n=>n.ents.length) E h1 (fun y hy=>⟨_,(getN_node (h2 y hy).1).2.2,(getN_node (h2 y hy).1).2.1⟩) h.nos.1;unfold entsN;simp only[List.length_nil];omega
 | none _ _ ih =>
  intro E h1 h2 h3 h4;rw [List.pairwise_cons]at h4;have:=ih E h1 h2 (fun z hz=>h3 z (List.mem_cons_of_mem _ hz)) h4.2;rw [List.length_cons];omega
 | @step x t nos l hi hd ih =>
  intro E h1 h2 h3 h4;rw [List.pairwise_cons]at h4;obtain ⟨X,hX⟩:∃X,X=overF S.devs x.2:=⟨_,rfl⟩;have hlen:(kidsF S x).length=(getN S.nodes X).ents.length:=by unfold kidsF;rw[List.length_map,hX]
  by_cases hx:(getN S.nodes X).kind=1
  ·obtain ⟨x1,x2,x3⟩:=h3 x (List.mem_cons_self ..) (by rw[←hX];exact hx)
   rw [←hX]at x1 x2 x3;obtain ⟨iX,nX,mX⟩:=getN_node hx;have hX1:=(h.nos.2 _ mX).1;rw [nX]at hX1;have hch:∀y∈(getN S.nodes X).ents,(getN S.nodes (overF S.devs y.2)).kind=1→aboveF S (overF S.devs y.2)=X∧r X<r (overF S.devs y.2)∧overF S.devs y.2≠x0∧overF S.devs y.2∉X::E:=by
    intro y hy hk;obtain ⟨a1,a2⟩:=list_above h k.up mX hy hk;rw [nX]at a1 a2;have h0:overF S.devs y.2≠0:=by
     intro e;rw[e]at hk;have:=(getN_node hk).1;rw [h.nos.zero (.inl (by decide))]at this;cases this
    have hlt:=hr.step (overF S.devs y.2) h0 (by rw[a1];omega) (by rw[a1];exact Ne.symm a2);rw [a1]at hlt;have hne:overF S.devs y.2≠x0:=fun e=>by rw[e]at hlt;omega
    refine ⟨a1,hlt,hne,fun hm=>?_⟩;rcases List.mem_cons.1 hm with e|hm
    ·exact a2 e
    ·rcases (h2 _ hm).2.2 with e|e
     ·exact hne e
     ·rw[a1]at e;exact x1 e
   have := ih (X::E) (List.nodup_cons.2 ⟨x1,h1⟩)
    (fun y hy=>by
     rcases List.mem_cons.1 hy with rfl|hy
     ·exact⟨hx,x2,x3.imp id (List.mem_cons_of_mem _)⟩
     ·obtain ⟨a1,a2,a3⟩:=h2 y hy
      exact ⟨a1,a2,a3.imp id (List.mem_cons_of_mem _)⟩)
    (fun z hz hk=>by
     rcases List.mem_append.1 hz with hz|hz
     ·unfold kidsF at hz
      rw [←hX,List.mem_map]at hz;obtain ⟨y,hy,rfl⟩:=hz;obtain ⟨c1,c2,c3,c4⟩:=hch y hy hk;exact ⟨c4,by show r x0≤r (overF S.devs y.2);omega,.inr (by show aboveF S (overF S.devs y.2)∈_;rw[c1];exact List.mem_cons_self ..)⟩
     ·obtain ⟨a1,a2,a3⟩:=h3 z (List.mem_cons_of_mem _ hz) hk
      refine ⟨fun hm=>?_,a2,a3.imp id (List.mem_cons_of_mem _)⟩;rcases List.mem_cons.1 hm with e|hm
      ·exact h4.1 z hz (by rw[←hX];exact hx) hk (by rw[←hX];exact e.symm)
      ·exact a1 hm)
    (List.pairwise_append.2 ⟨?_,h4.2,fun a ha b hb ka kb e=>?_⟩)
   ·rw [List.map_cons,List.sum_cons,List.length_append,hlen]at this
    simp only[List.length_cons];omega
   ·unfold kidsF
    rw [←hX,List.pairwise_map];refine List.Pairwise.imp_of_mem ?_ (h.rise _ mX);intro a b ha hb hab ka _ e;have e1:=over_once h k mX ha hb ka e;rw [e1,bl_irrefl]at hab;cases hab
   ·unfold kidsF at ha
    rw [←hX,List.mem_map]at ha;obtain ⟨y,hy,rfl⟩:=ha;obtain ⟨c1,c2,c3,c4⟩:=hch y hy ka;have e':overF S.devs y.2=overF S.devs b.2:=e;rcases (h3 b (List.mem_cons_of_mem _ hb) kb).2.2 with e1|e1
    ·exact c3 (e'.trans e1)
    ·rw[←e',c1]at e1;exact x1 e1
  ·have hke:kidsF S x=[]:=by
    unfold kidsF;rw [←hX,hn _ (isN_true (show isN S.nodes X=true by rw[hX];exact hi)).2.2 hx];rfl
   rw [hke]at ih;have:=ih E h1 h2 (fun z hz=>h3 z (List.mem_cons_of_mem _ hz)) h4.2;rw [List.nil_append]at this;simp only[List.length_cons];omega
theorem below_len {c:Nat} {S:TreeD} (h:Tre c S) (hn:NoEnts S) (k:Kids S) {x:TodoD} {l:List RwD} (hd:BelowR S [x] [] l):l.length≤1+entsN S:=by
 obtain ⟨r,hr⟩:=h.rank;have:=below_count h hn k hr (overF S.devs x.2) hd [] List.nodup_nil (fun y hy=>by cases hy) (fun z hz _=>by rw[List.mem_singleton]at hz;subst hz;exact⟨by simp,Nat.le_refl _,.inl rfl⟩) (List.pairwise_singleton _ _);simpa using this
def PathOk (S:TreeD) (r:Int→Nat) (x:TodoD):Prop:=x.1.length≤300*(S.nodes.length+2)∧((getN S.nodes (overF S.devs x.2)).kind=1→x.1.length≤300*(r (overF S.devs x.2)+1))
theorem pathOk_kids {c:Nat} {S:TreeD} (h:Tre c S) (hn:NoEnts S) (hl:ListUp S) {r:Int→Nat} (hr:Rank S r) {x:TodoD} (hx:PathOk S r x):∀y∈kidsF S x,PathOk S r y:=by
 intro y hy;unfold kidsF at hy;rw [List.mem_map]at hy;obtain ⟨z,hz,rfl⟩:=hy;obtain ⟨X,hX⟩:∃X,X=overF S.devs x.2:=⟨_,rfl⟩;rw [←hX]at hz;unfold PathOk at hx;rw [←hX]at hx;have hk:(getN S.nodes X).kind=1:=by
  rcases Decidable.em ((getN S.nodes X).kind=1) with hk|hk
  ·exact hk
  ·exfalso
   cases hi:isN S.nodes X
   ·rw[(isN_false hi).1]at hz;cases hz
   ·rw[hn _ (isN_true hi).2.2 hk]at hz;cases hz
 obtain ⟨iX,nX,mX⟩:=getN_node hk;have hx2:=hx.2 hk;have hnm:=(h.names _ mX z hz).2;have hlen:=underN_len x.1 z.1;have htop:=hr.top X;refine ⟨by show (underN x.1 z.1).length≤_;omega,fun hk2=>?_⟩;obtain ⟨a1,a2⟩:=list_above h hl mX hz hk2;rw [nX]at a1 a2;have hX1:=(h.nos.2 _ mX).1;rw [nX]at hX1;have h0:overF S.devs z.2≠0:=by
  intro e;have hk3:(getN S.nodes (overF S.devs z.2)).kind=1:=hk2;rw [e]at hk3;have:=(getN_node hk3).1;rw [h.nos.zero (.inl (by decide))]at this;cases this
 have hlt:=hr.step (overF S.devs z.2) h0 (by rw[a1];omega) (by rw[a1];exact Ne.symm a2);rw [a1]at hlt;show (underN x.1 z.1).length≤300*(r (overF S.devs z.2)+1);omega
open Go.ChangeShapes Go.WideShapes Go.ChangeAt Go.RowKit
theorem rcut_any (l:List UInt8) (w:World) (hlen:l.length≤1000000):Calls Tryz.prog 168 #[.string (bs l)] w (Ret w (.string (bs (cutN l)))):=by
 go_enter Tryz.func168,Tryz.ntmps168;go_wp2_with fail;go_loopw [0] (fun u wr=>∃m:List UInt8,u=.string (bs m)∧m.length≤l.length∧Hid (cutN m=cutN l)∧wr=w) (fun u _=>(strOf u).size)
 case atStart=>exact⟨l,rfl,Nat.le_refl _,rfl,rfl⟩
 case round =>
  obtain ⟨m,rfl,hm,hc,rfl⟩:=hrel;have z0:(bs m).size=m.length:=bs_size m;rcases snoc_cases m with h|⟨a,c,h⟩
  ·have HF:Hid (cutN l=m):=by show _=_;rw[←hc.out,h];rfl
   have hm0:m.length=0:=by rw[h];rfl
   clear h;go_wp2_with fail;go_ret;exact Ret.mk (ret_str (by rw[HF.out])) (Ext.refl _)
  ·have hml:m.length=a.length+1:=by rw[h];simp
   have hks:a.length<(bs m).size:=by omega
   have hg:(bs m)[a.length]=c:=by
    rw [bs_get m a.length hks (by omega)];simp [h]
   have hw1:IntKind.i64.wrap (a.length:Int)=a.length:=wrap_i64_in (by omega) (by omega)
   by_cases hcs:c=47
   ·have hs2:(((bs m)[a.length].toNat:Int) == 47)=true:=by rw[hg,hcs];rfl
    have hn:Hid (cutN a=cutN l):=by
     show _=_;rw [←hc.out,h,hcs,cutN_snoc]
    have ha:(bs m).extract 0 a.length=bs a:=by rw[bs_to,h];simp
    have hsl:=slice_to (P:=Tryz.prog) Tryz.underlying9 (bs m) (a.length:Int) a.length rfl (by omega) (bs a) ha;have za:(bs a).size=a.length:=bs_size a;clear hg hcs h ha;go_wp2_with fail;go_roundw
    case rel=>exact⟨a,rfl,by omega,hn,by first|trivial|rfl⟩
    case measure=>simp[strOf];omega
   ·have HF:Hid (cutN l=m):=by show _=_;rw[←hc.out,h];exact cutN_stop hcs
    have hs2:(((bs m)[a.length].toNat:Int) == 47)=false:=by
     rw [hg];exact (u8_eq (c:=c) (d:=47)).trans (beq_eq_false_iff_ne.2 hcs)
    clear hg hcs h;go_wp2_with fail;go_ret;exact Ret.mk (ret_str (by rw[HF.out])) (Ext.refl _)
theorem rbelow_any (a b:List UInt8) (w:World) (ha:a.length≤100000) (hb:b.length≤100000):Calls Tryz.prog 130 #[.string (bs a),.string (bs b)] w (Ret w (.string (bs (underN a b)))):=by
 have hcl:=cutN_len a;have hf:Hid (underN a b=cutN a++47::b):=rfl;obtain ⟨C,hC⟩:∃C,C=cutN a:=⟨_,rfl⟩;rw [←hC]at hcl hf;have z1:(bs C).size=C.length:=bs_size C;have z2:(bs b).size=b.length:=bs_size b;have z3:(bs (C++[47])).size=C.length+1:=by rw[bs_size];simp
 have c1:bs C++(⟨#[47]⟩:ByteArray)=bs (C++[47]):=bs_append C [47];have c2:bs (C++[47])++bs b=bs (C++47::b):=by rw[bs_append];simp
 have hb1:¬9223372036854775807<C.length+1:=by omega
 have hb2:¬9223372036854775807<C.length+1+b.length:=by omega
 have HC:=zH hC;clear hC;go_enter Tryz.func130,Tryz.ntmps130;go_wp2_with fail;refine (rcut_any a _ (by omega)).mono ?_;rintro e w1 ⟨rfl,hE1⟩;rw [←HC.out];go_wp2_with fail;go_ret;exact Ret.mk (ret_str (by rw[hf.out])) hE1
def rowR:RowK RwD:=⟨79,86,10,96,.agg #[.string ⟨#[]⟩,.int .i64 0,.int .i64 0,.int .i64 0,.int .i64 0,.int .i64 0,.int .i64 0,.int .i64 0,.int .i64 0,.string ⟨#[]⟩],
 fun x=>[.string (bs x.path),.int .i64 x.kind,.int .i64 x.mode,.int .i64 x.uid,.int .i64 x.gid,.int .i64 x.mtime,.int .i64 x.ctime,.int .i64 x.dev,.int .i64 x.first,.string (bs x.data)],by decide,Tryz.underlying79,by kernel_rfl,rfl,fun _=>rfl,fun x u hu=>by
 simp only[List.mem_cons,List.not_mem_nil,or_false]at hu;rcases hu with rfl|rfl|rfl|rfl|rfl|rfl|rfl|rfl|rfl|rfl<;>rfl,by decide⟩
theorem firstN_cons (a:Int) (l:List Int) (no:Int):firstN (a::l) no=if (a == no)=true then 0 else firstN l no+1:=by
 unfold firstN;rw [List.findIdx_cons]
 cases a == no<;>rfl
def fromN (nos:List Int) (no:Int) (p:Nat):Nat:=p+firstN (nos.drop p) no
theorem fromN_end (nos:List Int) (no:Int):fromN nos no nos.length=nos.length:=by unfold fromN;rw[List.drop_length];rfl
theorem fromN_step {nos:List Int} {no:Int} {p:Nat} (hp:p<nos.length):fromN nos no p=if (nos[p] == no)=true then p else fromN nos no (p+1):=by
 unfold fromN;rw [List.drop_eq_getElem_cons hp,firstN_cons];split<;>omega
theorem fromN_zero (nos:List Int) (no:Int):fromN nos no 0=firstN nos no:=by unfold fromN;rw[List.drop_zero,Nat.zero_add]
theorem hasTag_only {w w':World} {b:Nat} {t:TypeId} {L:List Nat} (h:HasTag w b t) (o:Only L w w') (hn:b∉L):HasTag w' b t:=by
 obtain ⟨cs,f,e⟩:=h;have hb:b<w.heap.size:=by
  rcases Nat.lt_or_ge b w.heap.size with h'|h'
  ·exact h'
  ·simp[Array.getElem?_eq_none h']at e
 exact ⟨cs,f,(o.block b hb hn).trans e⟩
def TodoAt (w:World) (A:Option Addr) (l:List TodoD):Prop:=l=[]∨∃b o,A=some ⟨b,o,none⟩∧b<w.heap.size∧HasTag w b 153∧∀k,(h:k<l.length)→w.cell? ⟨b,o+k*2,none⟩=some (.string (bs l[k].1))∧w.cell? ⟨b,o+k*2+1,none⟩=some (.int .i64 l[k].2)
theorem TodoAt.only {w w':World} {A:Option Addr} {l:List TodoD} {L:List Nat} (h:TodoAt w A l) (o:Only L w w') (hn:∀x∈L,¬HasTag w x 153):TodoAt w' A l:=by
 rcases h with h|⟨b,f,hA,hb,ht,hc⟩
 ·exact .inl h
 ·have hnb:b∉L:=fun hx=>hn b hx ht
  refine .inr ⟨b,f,hA,by have:=o.size;omega,hasTag_only ht o hnb,fun k hk=>?_⟩;have hcell:∀i,w'.cell? ⟨b,i,none⟩=w.cell? ⟨b,i,none⟩:=fun i=>cell_same (o.block b hb hnb) i
  rw [hcell,hcell];exact hc k hk
theorem TodoAt.ext {w w':World} {A:Option Addr} {l:List TodoD} (h:TodoAt w A l) (k:Ext w w'):TodoAt w' A l:=h.only (Only.of_ext (L:=[]) k) (by simp)
theorem OwnG.noEnt {α:Type} {R:RowK α} {w:World} {base:Nat} {v:Value} {l:List α} (k:OwnG R w base v l) (h1:R.t≠153):∀x∈v.ownBlock.toList,¬HasTag w x 153:=by
 intro x hx;have hx:=Option.mem_toList.1 hx;rintro ⟨cs,fr,e⟩;obtain ⟨cs2,fr2,e2⟩:=k.tag hx;rw [e2]at e;injection e with e;injection e with _ e;exact h1 e
theorem OwnG.apart {α β:Type} {R:RowK α} {Q:RowK β} {w:World} {base base2:Nat} {v u:Value} {l:List α} {m:List β} (h:OwnG R w base v l) (k:OwnG Q w base2 u m) (hne:R.t≠Q.t):∀g,v.ownBlock=some g→g∉u.ownBlock.toList:=by
 intro g hg hm;obtain ⟨cs,fr,e⟩:=h.tag hg;obtain ⟨cs2,fr2,e2⟩:=k.tag (Option.mem_toList.1 hm);rw [e2]at e;injection e with e;injection e with _ e;exact hne e.symm
theorem OwnG.todo {w:World} {base:Nat} {v:Value} {l:List TodoD} (h:OwnG rowE w base v l):∃A cap,v=.slice A l.length cap∧l.length≤cap∧TodoAt w A l:=by
 rcases h.cases with⟨rfl,rfl⟩|⟨g,cap,cur,rfl,_,h3,h4,_,h6⟩
 ·exact⟨none,0,rfl,Nat.le_refl _,.inl rfl⟩
 ·refine ⟨_,cap,rfl,h4,.inr ⟨g,0,rfl,h3.lt,⟨_,_,h3⟩,fun k hk=>?_⟩⟩
  rw [Nat.zero_add];exact ⟨h6 k hk 0 (by decide),h6 k hk 1 (by decide)⟩
theorem rbelow22 {c : Nat} (B:Nat) (f:GhF) (S:TreeD) (X:Xtra) (no:Int) (path:List UInt8) (w:World) (F:FAt w B f S X) (T:Tre c S) (hE:NoEnts S) (hK:Kids S) (hc:c≤900) (hl:S.last≤300) (rows:List RwD) (hB:BelowR S [(path,no)] [] rows) (hlen:rows.length≤1000)
  {r:Int→Nat} (hr:Rank S r) (hp:PathOk S r (path,no)) :
  Calls Tryz.prog 79 #[.pointer (some ⟨f.bF,0,none⟩),.int .i64 no,.string (bs path)] w (fun e w'=>∃v,e=.returned v∧OwnG rowR w' w.heap.size v rows∧Ext w w'):=by
 have hnl:S.nodes.length≤300:=by have:=T.count;omega
 have hBw:B≤w.heap.size:=by have h1:=(F.apart f.bF (by simp[GhF.list])).1;have h2:=F.lt.1;omega
 have KO:Hid (∀(u:World) (n:Int),Ext w u→Calls Tryz.prog 84 #[.pointer (some ⟨f.bF,0,none⟩),.int .i64 n] u (Ret u (.int .i64 (overF S.devs n)))):=fun u n hu=>rover_any B f S X n u (F.ext hu) (by have:=T.eight;omega)
 have KG:Hid (∀(u:World) (n:Int),Ext w u→Calls Tryz.prog 30 #[.pointer (some ⟨f.bF,0,none⟩),.int .i64 n] u (GetF u B S.nodes n)):=fun u n hu=>rget_any B f S X n u (F.ext hu) (by omega) T.nos
 obtain ⟨W1,hW1⟩:∃W,W=w.alloc (.cells #[.string (bs path),.int .i64 no] 153):=⟨_,rfl⟩;obtain ⟨b1,hb1⟩:∃b,b=w.heap.size:=⟨_,rfl⟩;have E1:Ext w W1:=by rw[hW1];exact (Ext.refl _).alloc _
 have B1:Has W1 b1 (.cells #[.string (bs path),.int .i64 no] 153):=by rw[hW1,hb1];exact Has.new _ _
 have T1:Hid (TodoAt W1 (some ⟨b1,0,none⟩) [(path,no)]):=.inr ⟨b1,0,rfl,B1.lt,⟨_,_,B1⟩,fun k hk=>by
  have:k=0:=by simpa using hk
  subst this;exact ⟨B1.cell 0,B1.cell 1⟩⟩
 have HB:=zH hB;have HP:=zH hp;have HT:=zH T;have HNE:=zH hE;have HK:=zH hK;have HR:=zH hr;have HLEN:=zH hlen;clear F hB hp T hE hK hr hlen B1;go_enter Tryz.func79,Tryz.ntmps79;go_upto_region 4 with fail;rw [←hW1,←hb1];clear hW1 hb1;go_loopg [7,8,9] (wtT S r c [(path,no)]) (fun m vo vn vt wr=>∃(l0:List RwD) (nos:List Int) (t:List TodoD) (A:Option Addr) (cap:Nat),vt=.slice A t.length cap∧t.length≤cap∧t.length≤1+nos.length*1000∧TodoAt wr A t∧OwnG rowR wr w.heap.size vo l0∧OwnG rowI wr w.heap.size vn nos∧l0.length=nos.length∧Ext w wr∧(∀x∈t,PathOk S r x)∧m=wtT S r c t∧∃l1,BelowR S t nos l1∧rows=l0++l1)
 case atStart=>exact⟨[],[],[(path,no)],_,1,rfl,Nat.le_refl _,by simp,T1.out,OwnG.nil _ _ _,OwnG.nil _ _ _,rfl,E1,fun x hx=>by rw[List.mem_singleton]at hx;subst hx;exact HP.out,rfl,rows,HB.out,rfl⟩
 case round =>
  clear T1;obtain ⟨V,hV⟩:∃V,V=wr:=⟨_,rfl⟩;subst hV;obtain ⟨l0,nos,t,A,cap,rfl,hcap,htl,hT,hO,hN,hln,hE,hPO,hm,l1,hBl,hrows⟩:=hrel;obtain ⟨Ao,capo,rfl,_,_,_,_⟩:=hO.at_;obtain ⟨An,capn,rfl,_,_,hnat,_⟩:=hN.at_;have hn0:nos.length≤1000:=by have:=HLEN.out;rw[hrows,List.length_append]at this;omega
  cases t with
  | nil =>
   have hf:Hid (rows=l0):=by show _=_;cases hBl;rw[hrows,List.append_nil]
   have HO:=zH hO;have HE:=zH hE;obtain ⟨no',hno'⟩:∃n,n=l0.length:=⟨_,rfl⟩;rw [←hno']at HO⊢;clear hcap htl hT hO hN hln hE hPO hm hBl hrows hnat hno';simp only[List.length_nil];go_wp2_with fail;go_ret;exact ⟨_,rfl,by rw[hf.out];exact HO.out,HE.out⟩
  | cons x t' =>
   obtain ⟨gt,ot,rfl,hgt,htag,hcell⟩:∃b o,A=some ⟨b,o,none⟩∧b<V.heap.size∧HasTag V b 153∧∀k,(h:k<(x::t').length)→V.cell? ⟨b,o+k*2,none⟩=some (.string (bs (x::t')[k].1))∧V.cell? ⟨b,o+k*2+1,none⟩=some (.int .i64 (x::t')[k].2):=by
    rcases hT with h|h
    ·cases h
    ·exact h
   have q0:V.cell? ⟨gt,ot,none⟩=some (.string (bs x.1)):=(hcell 0 (Nat.succ_pos _)).1;have q1:V.cell? ⟨gt,ot+1,none⟩=some (.int .i64 x.2):=(hcell 0 (Nat.succ_pos _)).2;obtain ⟨T,hTT⟩:∃T,T=t'.length:=⟨_,rfl⟩;have e2:(x::t').length=T+1:=by rw[hTT];rfl
   rw [e2]at hcap htl⊢;obtain ⟨ox,hoxc⟩:∃ox,(cap=1∧ox=ot∨cap≠1∧ox=ot+2):=by
    by_cases hcp:cap=1
    ·exact⟨_,.inl ⟨hcp,rfl⟩⟩
    ·exact⟨_,.inr ⟨hcp,rfl⟩⟩
   have hso:(if cap=1 then (some ⟨gt,ot,none⟩:Option Addr) else some ⟨gt,ot+2,none⟩)=some ⟨gt,ox,none⟩:=by
    rcases hoxc with⟨h1,h2⟩|⟨h1,h2⟩
    ·rw[if_pos h1,h2]
    ·rw[if_neg h1,h2]
   have hT':TodoAt V (some ⟨gt,ox,none⟩) t':=by
    rcases hoxc with⟨h1,h2⟩|⟨h1,h2⟩
    ·left
     cases t' with
     | nil=>rfl
     | cons y t''=>exfalso;rw[hTT,List.length_cons]at hcap;omega
    ·refine .inr ⟨gt,ox,rfl,hgt,htag,fun k hk=>?_⟩
     have:=hcell (k+1) (by simpa using hk);rw [show ot+(k+1)*2=ot+2+k*2 by omega]at this;rw [h2];simpa using this
   have hTc:T+1≤cap:=hcap;have hpx:=hPO x (List.mem_cons_self ..);have HPO:=zH (fun y (hy:y∈t')=>hPO y (List.mem_cons_of_mem _ hy));have HPX:=zH hpx;have HBL:=zH hBl;have HRW:=zH hrows;have HM:=zH hm;have HO:=zH hO;have HN:=zH hN;have HLN:=zH hln;have HE:=zH hE;have HT':=zH hT';have HTT:=zH hTT;have HTAG:=zH htag;have HNAT:=zH hnat;obtain ⟨nn,hnn⟩:∃n,n=nos.length:=⟨_,rfl⟩;obtain ⟨nl,hnl'⟩:∃n,n=l0.length:=⟨_,rfl⟩;rw [←hnn,←hnl']at HLN;rw [←hnn]at HN htl hn0⊢;rw [←hnl']at HO⊢;have HNN:=zH hnn;have htlx:=zH htl;have HNL:=zH hnl';have hll:nl=nn:=HLN.out;obtain ⟨W4,hW4⟩:∃W,W=V.alloc (.cells #[.string (bs x.1),.int .i64 x.2] 153):=⟨_,rfl⟩;obtain ⟨b10,hb10⟩:∃b,b=V.heap.size:=⟨_,rfl⟩;have E4:Ext V W4:=by rw[hW4];exact (Ext.refl _).alloc _
   have X4:Has W4 b10 (.cells #[.string (bs x.1),.int .i64 x.2] 153):=by rw[hW4,hb10];exact Has.new _ _
   clear hPO hpx hBl hrows hm hO hN hln hE hT' hTT htag hnat hcell hnn hnl' hcap e2 hll htl;go_upto_region 7 with fail;rw [←hW4,←hb10];clear hW4 hb10 q0 q1 hgt;have y1:=X4.cell 1;have yz:=X4.lt;simp only[gA,gB,gC]at y1;have HX4:=zH X4;clear X4;obtain ⟨X,hX⟩:∃X,X=overF S.devs x.2:=⟨_,rfl⟩;have KO4:=KO.out W4 x.2 (HE.out.trans E4);rw [←hX]at KO4;have HKO4:=zH KO4;have HX:=zH hX;clear hX KO4;go_wp2_with fail;refine HKO4.out.mono ?_;rintro e w5 ⟨rfl,b5⟩;go_wp2_with fail;refine (KG.out w5 X ((HE.out.trans E4).trans b5)).mono ?_;rintro e w6 ⟨A6,c6,rfl,ok6,b6⟩;obtain ⟨n,hn⟩:∃n,n=getN S.nodes X:=⟨_,rfl⟩;rw [←hn]at ok6⊢;have HNo:=zH hn;clear y1 yz hn HKO4;obtain ⟨W7,hW7⟩:∃W,W=w6.alloc (.cells #[.int .i64 n.no,.int .i64 n.dev,.int .i64 n.kind,.int .i64 n.mode,.int .i64 n.uid,.int .i64 n.gid,.int .i64 n.mtime,.int .i64 n.ctime,.int .i64 n.links,.int .i64 n.up,.string (bs n.data),.slice A6 n.ents.length c6] 66):=⟨_,rfl⟩;obtain ⟨b11,hb11⟩:∃b,b=w6.heap.size:=⟨_,rfl⟩;have N7:Has W7 b11 (.cells #[.int .i64 n.no,.int .i64 n.dev,.int .i64 n.kind,.int .i64 n.mode,.int .i64 n.uid,.int .i64 n.gid,.int .i64 n.mtime,.int .i64 n.ctime,.int .i64 n.links,.int .i64 n.up,.string (bs n.data),.slice A6 n.ents.length c6] 66):=by rw[hW7,hb11];exact Has.new _ _
   have E7:Ext V W7:=by rw[hW7];exact ((E4.trans b5).trans b6).alloc _
   have E47:Ext W4 W7:=by rw[hW7];exact (b5.trans b6).alloc _
   have ok7:NodeOk W7 B n A6 c6:=ok6.ext (by rw[hW7];exact (Ext.refl _).alloc _);go_upto_region 8 with fail;rw [←hW7,←hb11];clear hW7 hb11 ok6 b5 b6;have HOK:=zH ok7;have HN7:=zH N7;obtain ⟨n0,n1,n2,n3,n4,n5,n6,n7,n8,n9,n10,n11⟩:=N7.node12;have nz:=N7.lt;clear ok7 N7
   cases hi:isN S.nodes X with
   | false =>
    have hno:n.no=0:=by rw[HNo.out,(isN_false hi).1];rfl
    have t0:(n.no == 0)=true:=by rw[hno];rfl
    obtain ⟨hB2⟩:Nonempty (BelowR S t' nos l1):=by
     have h0:=HBL.out
     cases h0 with
     | none _ h=>exact⟨h⟩
     | step h _=>rw[←HX.out,hi]at h;cases h
    have HB2:=zH hB2;clear hno hi hB2;go_wp2_with fail;go_roundg (wtT S r c t')
    case measure =>
     rw [HM.out];have:=wt_pos S r c (overF S.devs x.2);unfold wtT;rw [List.map_cons,List.sum_cons];omega
    case rel=>exact⟨l0,nos,t',some ⟨gt,ox,none⟩,cap-1,by rw[HTT.out],by have:=HTT.out;omega,by have:=htlx.out;have:=HTT.out;have:=HNN.out;omega,HT'.out.ext E7,HO.out.ext E7,HN.out.ext E7,by rw[←HNL.out,←HNN.out];exact HLN.out,HE.out.trans E7,HPO.out,rfl,l1,HB2.out,HRW.out⟩
   | true =>
    have hno:n.no=X:=by rw[HNo.out];exact (isN_true hi).2.1
    have hX0:X≠0:=by have:=(HT.out.nos.2 _ (isN_true hi).2.2).1;rw[(isN_true hi).2.1]at this;omega
    have t0:(n.no == 0)=false:=by rw[hno];simpa using hX0
    have hnol:n.ents.length≤1000:=by rw[HNo.out];have:=HT.out.small _ (isN_true hi).2.2;omega
    obtain ⟨l2,hl2,hB2⟩:∃l2,l1=rowF S nos x::l2∧BelowR S (kidsF S x++t') (nos++[X]) l2:=by
     have h0:=HBL.out
     cases h0 with
     | none h _=>rw[←HX.out,hi]at h;cases h
     | step _ h=>exact⟨_,rfl,by rw[HX.out];exact h⟩
    have HNO:=zH hno;have HB2:=zH hB2;have HL2:=zH hl2;have HNOL:=zH hnol;clear hno hX0 hl2 hB2 hi hnol;have p0:(0:Int)≤(nn:Int):=Int.natCast_nonneg _;have w1w:IntKind.i64.wrap ((nn:Int)-1)=(nn:Int)-1:=IntWalk.i64_in _ (by omega);go_wp2_with fail;go_loopw [12,13] (fun vf vi wr=>∃p:Nat,vi=.int .i64 ((p:Int)-1)∧p≤nn∧vf=.int .i64 (fromN nos X p:Nat)∧Ext W7 wr) (fun _ vi _=>(intOf vi+1).toNat)
    case atStart=>exact⟨nn,rfl,Nat.le_refl _,by rw[HNN.out,fromN_end,←HNN.out];rw[←HLN.out],Ext.refl _⟩
    case round =>
     obtain ⟨p,hvi,hp,rfl,hE2⟩:=hrel;have E27:Ext V wr:=E7.trans hE2;have HE27:=zH E27;have HE2:=zH hE2;rcases p with _|p
     case succ =>
      have hvi':u13=.int .i64 (p:Int):=by rw[hvi];simp
      subst hvi';have hpl:p<nos.length:=by have:=HNN.out;omega
      obtain ⟨gn,rfl,hgn,qn⟩:∃gn,An=some ⟨gn,0,none⟩∧gn<wr.heap.size∧wr.cell? ⟨gn,p,none⟩=some (.int .i64 nos[p]):=by
       rcases (HN.out.ext E27).cases with⟨_,h2⟩|⟨gm,cap,cur,h2,_,h3,_,_,h4⟩
       ·rw[h2]at hpl;cases hpl
       ·injection h2 with h2
        have:=h4 p hpl 0 (by decide);exact ⟨gm,h2,h3.lt,by simpa [rowI]using this⟩
      have hst:=fromN_step (no:=X) hpl;obtain ⟨y,hy⟩:∃y,y=nos[p]:=⟨_,rfl⟩;rw [←hy]at qn hst;have HST:=zH hst;have k0:=(hE2.cell nz).trans n0;have kz:b11<wr.heap.size:=by have:=hE2.size;omega
      have q0:(0:Int)≤(p:Int):=Int.natCast_nonneg _;have w2w:IntKind.i64.wrap ((p:Int)-1)=(p:Int)-1:=IntWalk.i64_in _ (by omega);have hpn:(p:Int)<nn:=by omega
      by_cases hyx:y=n.no
      ·have t1:(y == n.no)=true:=by simpa using hyx
       have hF:Hid (fromN nos X p=p):=by show _=_;rw[HST.out,if_pos (by rw[←HNO.out];exact t1)]
       clear hst hy hyx hvi E27 hE2 n0 n1 n2 n3 n4 n5 n6 n7 n8 n9 n10 n11 nz hpl;go_upto_region 13 with fail;go_quiet (fail);have EQ:=zH (HE2.out.drewN nq);go_wp2_with fail;go_roundw
       case rel=>exact⟨p,rfl,by omega,by rw[hF.out],EQ.out⟩
       case measure=>simp[intOf]
      ·have t1:(y == n.no)=false:=by simpa using hyx
       have hF:Hid (fromN nos X p=fromN nos X (p+1)):=by show _=_;rw[HST.out,if_neg (by rw[←HNO.out,t1];decide)]
       clear hst hy hyx hvi E27 hE2 n0 n1 n2 n3 n4 n5 n6 n7 n8 n9 n10 n11 nz hpl;go_upto_region 13 with fail;go_quiet (fail);have EQ:=zH (HE2.out.drewN nq);go_wp2_with fail;go_roundw
       case rel=>exact⟨p,rfl,by omega,by rw[hF.out],EQ.out⟩
       case measure=>simp[intOf]
     case zero =>
      have hvi':u13=.int .i64 (-1):=hvi;subst hvi';have hwr2:w.heap.size≤wr.heap.size:=(HE.out.trans E27).size;obtain ⟨row,hrow⟩:∃r,r=rowF S nos x:=⟨_,rfl⟩;have hrow2:row=⟨x.1,n.kind,n.mode,n.uid,n.gid,n.mtime,n.ctime,n.dev,((firstN nos X:Nat):Int),n.data⟩:=by
       rw [hrow];unfold rowF;rw [←HX.out,←HNo.out];dsimp only;rw [HNO.out]
      obtain ⟨fi,hfi⟩:∃i:Int,i=((firstN nos X:Nat):Int):=⟨_,rfl⟩;rw [←hfi]at hrow2;have hfi2:((fromN nos X 0:Nat):Int)=fi:=by rw[hfi,fromN_zero]
      rw [hfi2];have HROW:=zH hrow;have HROW2:=zH hrow2;obtain ⟨v8,w8,hr8,hO8,hg8,hb8⟩:=app_g rowI wr (HN.out.ext E27) hwr2 n.no (by have:=HNN.out;omega);have E28:Ext w w8:=((HE.out.trans E27).alloc _).grown hg8 (fun g hv=>((HN.out.ext E27).lt hv).1);have o8:Only (Value.slice An nn capn).ownBlock.toList wr w8:=(Only.allocN _ _ _).then (Only.of_grownBy hg8 (fun g hv=>Option.mem_toList.2 hv));have hN2:=HN.out.ext E27;have R8:OwnG rowR w8 w.heap.size (.slice Ao nl capo) l0:=(HO.out.ext E27).only o8 (fun g hv hm=>(HO.out.ext E27).apart hN2 (by decide) g hv hm);have T8:TodoAt w8 (some ⟨gt,ox,none⟩) t':=(HT'.out.ext E27).only o8 (hN2.noEnt (by decide));have X8:Has w8 b10 (.cells #[.string (bs x.1),.int .i64 x.2] 153):=o8.has ((HX4.out.ext E47).ext hE2) (fun hm=>hN2.noEnt (by decide) _ hm ⟨_,_,(HX4.out.ext E47).ext hE2⟩);have N8:Has w8 b11 (.cells #[.int .i64 n.no,.int .i64 n.dev,.int .i64 n.kind,.int .i64 n.mode,.int .i64 n.uid,.int .i64 n.gid,.int .i64 n.mtime,.int .i64 n.ctime,.int .i64 n.links,.int .i64 n.up,.string (bs n.data),.slice A6 n.ents.length c6] 66):=o8.has (HN7.out.ext hE2) (hN2.notHas (HN7.out.ext hE2) (by decide));have ok8:NodeOk w8 B n A6 c6:=(HOK.out.ext hE2).only o8 (hN2.free2 hBw (by decide) (by decide)).apart;have hbase8:w.heap.size≤w8.heap.size:=E28.size;obtain ⟨v9,w9,hr9,hO9,hg9,_⟩:=app_g rowR w8 R8 hbase8 ⟨x.1,n.kind,n.mode,n.uid,n.gid,n.mtime,n.ctime,n.dev,fi,n.data⟩ (by have:=HNL.out;have:=HLN.out;omega);have E29:Ext w w9:=(E28.alloc _).grown hg9 (fun g hv=>(R8.lt hv).1);have o9:Only (Value.slice Ao nl capo).ownBlock.toList w8 w9:=(Only.allocN _ _ _).then (Only.of_grownBy hg9 (fun g hv=>Option.mem_toList.2 hv));have O9:OwnG rowI w9 w.heap.size v8 (nos++[n.no]):=hO8.only o9 (fun g hv hm=>hO8.apart R8 (by decide) g hv hm);have T9:TodoAt w9 (some ⟨gt,ox,none⟩) t':=T8.only o9 (R8.noEnt (by decide));have X9:Has w9 b10 (.cells #[.string (bs x.1),.int .i64 x.2] 153):=o9.has X8 (R8.notHas X8 (by decide));have N9:Has w9 b11 (.cells #[.int .i64 n.no,.int .i64 n.dev,.int .i64 n.kind,.int .i64 n.mode,.int .i64 n.uid,.int .i64 n.gid,.int .i64 n.mtime,.int .i64 n.ctime,.int .i64 n.links,.int .i64 n.up,.string (bs n.data),.slice A6 n.ents.length c6] 66):=o9.has N8 (R8.notHas N8 (by decide))
      have ok9:NodeOk w9 B n A6 c6:=ok8.only o9 (R8.free2 hBw (by decide) (by decide)).apart;have hO9':OwnG rowR w9 w.heap.size v9 (l0++[rowF S nos x]):=by rw[←HROW.out,HROW2.out];exact hO9
      have k0:=(hE2.cell nz).trans n0;have kz:b11<wr.heap.size:=by have:=hE2.size;omega
      have HR8:=zH hr8;have HR9:=zH hr9;have HN8:=zH N8;have HX8:=zH X8;have HO9:=zH O9;have HRR9:=zH hO9';have HT9:=zH T9;have HX9:=zH X9;have HN9:=zH N9;have HOK9:=zH ok9;have HE9:=zH E29;clear hvi E27 hE2 hrow hrow2 hfi hfi2 hr8 hO8 hg8 hb8 E28 o8 hN2 R8 T8 X8 N8 ok8 hr9 hO9 hg9 E29 o9 O9 T9 X9 N9 ok9 hO9' n0 n1 n2 n3 n4 n5 n6 n7 n8 n9 n10 n11 nz hbase8 hwr2 w1w;go_upto_region 16 with (at_builtin;refine Lib.wpList_append_run _ rfl _ _ 124 124 rfl _ _ rfl rfl _ _ HR8.out ?_);clear k0 kz;obtain ⟨n0,n1,n2,n3,n4,n5,n6,n7,n8,n9,n10,n11⟩:=HN8.out.node12;have nz:=HN8.out.lt;have y0:=HX8.out.cell 0;have yz:=HX8.out.lt;simp only[gA,gB]at y0;go_upto_region 17 with (at_builtin;refine Lib.wpList_append_run _ rfl _ _ 79 79 rfl _ _ rfl rfl _ _ HR9.out ?_);clear n0 n1 n2 n3 n4 n5 n6 n7 n8 n9 n10 n11 nz y0 yz;obtain ⟨m,hm⟩:∃m,m=n.ents.length:=⟨_,rfl⟩;have HMM:=zH hm;have hml:m≤1000:=by rw[hm];exact HNOL.out
      have hKF:kidsF S x=n.ents.map fun y=>(underN x.1 y.1,y.2):=by unfold kidsF;rw[←HX.out,←HNo.out]
      have HKF:=zH hKF;have hkl:(kidsF S x).length=m:=by rw[hKF,List.length_map,hm]
      have HKL:=zH hkl;have hpl:x.1.length≤100000:=by have:=HPX.out.1;omega
      have hnm:∀y∈n.ents,y.1.length≤100000:=fun y hy=>by
       rw [HNo.out]at hy
       cases hi2:isN S.nodes X
       ·rw[(isN_false hi2).1]at hy;cases hy
       ·have:=(HT.out.names _ (isN_true hi2).2.2 y hy).2;omega
      have HNM:=zH hnm;clear hKF hkl hnm hm;go_wp2_with fail;go_loopw [14,15] (fun vin vi wr=>∃k:Nat,vi=.int .i64 k∧k≤m∧OwnG rowE wr w9.heap.size vin ((kidsF S x).take k)∧Ext w9 wr) (fun _ vi _=>m-(intOf vi).toNat)
      case atStart=>exact⟨0,rfl,Nat.zero_le _,OwnG.nil _ _ _,Ext.refl _⟩
      case round =>
       obtain ⟨k,rfl,hk,hO,hE3⟩:=hrel;have k0:(0:Int)≤(k:Int):=Int.natCast_nonneg _;have z11:w9.cell? ⟨b11,11,none⟩=some (.slice A6 m c6):=by rw[HMM.out];exact HN9.out.node12.2.2.2.2.2.2.2.2.2.2.2
       have zz:=HN9.out.lt
       by_cases hlt:(k:Int)<m
       case pos =>
        have hkl:k<n.ents.length:=by have:=HMM.out;omega
        obtain ⟨be,oe,rfl,hbe,ea,eb⟩:=(HOK9.out.ents.ents).lt0 hkl;have htk:(kidsF S x).take (k+1)=(kidsF S x).take k++[(underN x.1 n.ents[k].1,n.ents[k].2)]:=by
         have hk2:k<(kidsF S x).length:=by rw[HKL.out];omega
         rw [List.take_succ_eq_append_getElem hk2]
         congr 2
         have:=HKF.out;simp only[this,List.getElem_map]
        have hyl:=HNM.out n.ents[k] (List.getElem_mem hkl);obtain ⟨y,hy⟩:∃y,y=n.ents[k]:=⟨_,rfl⟩;rw [←hy]at ea eb htk hyl;obtain ⟨yn,yo⟩:=y;have ea':w9.cell? ⟨be,oe+k*2,none⟩=some (.string (bs yn)):=ea;have eb':w9.cell? ⟨be,oe+k*2+1,none⟩=some (.int .i64 yo):=eb;have HTK:=zH htk;have w2w:IntKind.i64.wrap ((k:Int)+1)=(k:Int)+1:=IntWalk.i64_in _ (by omega);have KB:=zH (fun (u:World)=>rbelow_any x.1 yn u hpl hyl);have y0:=HX9.out.cell 0;have yz:=HX9.out.lt;simp only[gA,gB]at y0;have KS:Hid (∀w',Ext w9 w'→(Ext w9 w'∧w'.cell? ⟨b10,0,none⟩=some (.string (bs x.1))∧w'.cell? ⟨b11,11,none⟩=some (.slice (some ⟨be,oe,none⟩) m c6)∧w'.cell? ⟨be,oe+k*2,none⟩=some (.string (bs yn))∧w'.cell? ⟨be,oe+k*2+1,none⟩=some (.int .i64 yo))):=fun w' h'=>⟨h',(h'.cell yz).trans y0,(h'.cell zz).trans z11,(h'.cell hbe).trans ea',(h'.cell hbe).trans eb'⟩
        have HO3:=zH hO;have HE3:=zH hE3;have HWR:=zH ((Ext.refl wr).drew);have hll:((kidsF S x).take k).length≤2000000:=by have:=List.length_take_le k (kidsF S x);omega
        have hW1:Ext w9 wr.drew:=hE3.drew;have z11w:=(hE3.cell zz).trans z11;have zzw:b11<wr.heap.size:=by have:=hE3.size;omega
        clear htk hO hE3 hy ea eb ea' eb' y0 yz z11 zz hyl hkl hbe;go_upto_region 21 with fail;clear z11w zzw;go_region_held3 (fun w'=>Ext w9 w'∧w'.cell? ⟨b10,0,none⟩=some (.string (bs x.1))∧w'.cell? ⟨b11,11,none⟩=some (.slice (some ⟨be,oe,none⟩) m c6)∧w'.cell? ⟨be,oe+k*2,none⟩=some (.string (bs yn))∧w'.cell? ⟨be,oe+k*2+1,none⟩=some (.int .i64 yo))
         ((first|exact KS.out _ hW1|exact KS.out _ (hW1.trans hbd)|exact KS.out _ ((hW1.trans hbd).alloc _)|exact KS.out _ hE9))
         ((first|(go_at_call 130;refine (KB.out _).mono ?_;rintro e wd ⟨rfl,hbd⟩)|(refine step_append_ent _ (by rfl) _ _ 64 (by rfl) _ _ (by rfl) (by rfl) (app_g rowE wd ((HO3.out.ext HWR.out).ext hbd) (hW1.trans hbd).size (underN x.1 yn,yo) hll) ?_;rintro v13 w13 ⟨hO13,hg13,_⟩;have hE9:Ext w9 w13:=((hW1.trans hbd).alloc _).grown hg13 (fun g hv=>(((HO3.out.ext HWR.out).ext hbd).lt hv).1))))
        have HO13:=zH hO13;clear hO13 hg13;go_wp2_with fail;go_roundw
        case rel=>exact⟨k+1,by go_num,by omega,by rw[HTK.out];exact HO13.out,hE9⟩
        case measure=>simp[intOf];omega
       case neg =>
        have hkm:(kidsF S x).take k=kidsF S x:=List.take_of_length_le (by rw[HKL.out];omega);rw [hkm]at hO;have hT3:=HT9.out.ext hE3;have hcells:∀i,(h:i<t'.length)→∀j,j<rowE.k→wr.cell? ⟨gt,ox+i*rowE.k+j,none⟩=(rowE.enc t'[i])[j]?:=by
         intro i hi j hj;rcases hT3 with h|⟨b,o,hA,_,_,hc⟩
         ·rw[h]at hi;cases hi
         ·injection hA with hA
          injection hA with h1 h2;subst h1 h2;have:=hc i hi;have hj2:j<2:=hj;have hj3:j=0∨j=1:=by omega
          rcases hj3 with rfl|rfl
          ·exact this.1
          ·exact this.2
        obtain ⟨Ai,ci,rfl,_,_,_,_⟩:=hO.at_;obtain ⟨v14,w14,hr14,hO14,hg14,_⟩:=app_gs rowE wr hO hE3.size t' gt ox (cap-1) hcells (by have:=HKL.out;omega) (by have:=HTT.out;have:=htlx.out;omega);rw [←HTT.out]at hr14;have E14:Ext w9 w14:=hE3.grown hg14 (fun g hv=>(hO.lt hv).1);obtain ⟨A14,c14,rfl,hc14,hT14⟩:=hO14.todo;have HR14:=zH hr14;have HT14:=zH hT14;have HE14:=zH E14;have z11w:=(hE3.cell zz).trans z11;have zzw:b11<wr.heap.size:=by have:=hE3.size;omega
        have hlen14:(kidsF S x++t').length≤c14:=hc14;have HL14:=zH hlen14;clear hkm hO hT3 hcells hr14 hO14 hg14 E14 hT14 hE3 z11 zz hc14 hlen14;go_wp2_with (at_builtin;refine Lib.wpList_append_run _ rfl _ _ 64 64 rfl _ _ rfl rfl _ _ HR14.out ?_);go_roundg (wtT S r c (kidsF S x++t'))
        case measure =>
         rw [HM.out];have:=wt_kids HT.out HNE.out HK.out.up HR.out x;unfold wtT at this⊢;rw [List.map_append,List.sum_append,List.map_cons,List.sum_cons];omega
        case rel =>
         refine ⟨l0++[rowF S nos x],nos++[n.no],kidsF S x++t',A14,c14,by rw[List.length_append],HL14.out,?_,HT14.out,HRR9.out.ext HE14.out,HO9.out.ext HE14.out,?_,HE9.out.trans HE14.out,?_,rfl,l2,?_,?_⟩
         ·have:=HKL.out;have:=HTT.out;have:=htlx.out;have:=HNN.out
          rw [List.length_append,List.length_append,List.length_singleton];omega
         ·rw[List.length_append,List.length_append,←HNL.out,←HNN.out,HLN.out];rfl
         ·intro y hy
          rcases List.mem_append.1 hy with hy|hy
          ·exact pathOk_kids HT.out HNE.out HK.out.up HR.out HPX.out y hy
          ·exact HPO.out y hy
         ·rw[HNO.out];exact HB2.out
         ·rw[HRW.out,HL2.out,List.append_assoc];rfl
theorem plant_rows {S:TreeD} (h:PlE 140 S):∃rows r,BelowR S [([47],1)] [] rows∧rows.length≤200∧Rank S r∧PathOk S r ([47],1):=by
 obtain ⟨rows,hB⟩:=below_ends h.plt.tre h.plt.noe h.plt.kids.up [([47],1)] [];obtain ⟨r,hr⟩:=h.plt.tre.rank;refine ⟨rows,r,hB,?_,hr,?_,fun _=>?_⟩
 ·have:=below_len h.plt.tre h.plt.noe h.plt.kids hB
  have:=h.ens;omega
 ·show ([47]:List UInt8).length≤_
  simp only[List.length_cons,List.length_nil];omega
 ·show ([47]:List UInt8).length≤_
  simp only[List.length_cons,List.length_nil];omega
theorem rrows_any {w:World} {B:Nat} {f:GhF} {s:SysD} (h:RS w B f s) (k:PlE 140 s.t) (rows:List RwD) (hB:BelowR s.t [([47],1)] [] rows) (hl:rows.length≤200) {r:Int→Nat} (hr:Rank s.t r) (hp:PathOk s.t r ([47],1)) :
  Calls Tryz.prog 39 #[.pointer (some ⟨f.bF,0,none⟩)] w (fun e w'=>∃v,e=.returned v∧OwnG rowR w' w.heap.size v rows∧Ext w w'):=by
 obtain ⟨X,F⟩:=h.fat;have KB:=zH (rbelow22 B f s.t X 1 [47] w F k.plt.tre k.plt.noe k.plt.kids (by omega) (by have:=k.plt.last;omega) rows hB (by omega) hr hp);clear F h k hB hl hr hp;go_enter Tryz.func39,Tryz.ntmps39;go_wp2_with fail;refine KB.out.mono ?_;rintro e w1 ⟨v,rfl,hO,hE⟩;have HO:=zH hO;clear hO;go_wp2_with fail;go_ret;exact ⟨v,rfl,HO.out,hE⟩
end Go.Proofs.YtpibnfdolojpcaaGreat
