import Derived.Test.YtpibnfdolojpcaaGreatBunL
import Derived.Test.YtpibnfdolojpcaaGreatBunN
import Derived.Test.YtpibnfdolojpcaaGreatBunI
import Derived.Test.YtpibnfdolojpcaaGreatBunS
import Derived.Test.YtpibnfdolojpcaaGreatBunR
import Derived.Test.YtpibnfdolojpcaaGreatBunV
import Derived.Test.YtpibnfdolojpcaaGreatBunC
import Derived.Test.YtpibnfdolojpcaaGreatBunU
import Derived.OpenShut
set_option maxHeartbeats 16000000
set_option maxRecDepth 100000
namespace Go.Proofs.YtpibnfdolojpcaaGreat
open Go.ChangeShapes Go.WideShapes Go.ChangeAt Go.RowKit
def seekG (S:TreeD) (cu cg:Int) (fol:Bool):Nat→Int→List (List UInt8)→Nat→Bool→Option (FndD×Int)
 | 0,_,_,_,_=>none
 | _+1,at_,[],_,_=>some (⟨0,[],at_,true⟩,0)
 | n + 1,at_,p::l,h,m =>
  if stepE S cu cg at_ p≠0 then some (fndZ,stepE S cu cg at_ p)
  else if p=[46,46] then seekG S cu cg fol n (aboveF S at_) l h m
  else if isN S.nodes (stepN S at_ p)=false then (if l=[] then some (⟨at_,p,0,m⟩,0) else some (fndZ,5))
  else if (getN S.nodes (stepN S at_ p)).kind=3∧(l≠[]∨m=true∨fol=true) then
   (if 8<h+1 then some (fndZ,12) else if (getN S.nodes (stepN S at_ p)).data=[] then some (fndZ,5)
    else seekG S cu cg fol n (if (getN S.nodes (stepN S at_ p)).data.head?=some 47 then 1 else at_) (partsN (getN S.nodes (stepN S at_ p)).data++l) (h+1) (m || (l.isEmpty&&slashB (getN S.nodes (stepN S at_ p)).data)))
  else if (getN S.nodes (stepN S at_ p)).kind≠1∧(l≠[]∨m=true) then some (fndZ,9)
  else if l=[] then some (⟨at_,p,stepN S at_ p,m⟩,0)
  else seekG S cu cg fol n (stepN S at_ p) l h m
theorem seekG_eq {S:TreeD} {cu cg:Int} {fol:Bool} {r:FndD×Int}:∀(n:Nat) (at_:Int) (l:List (List UInt8)) (h:Nat) (m:Bool),seekG S cu cg fol n at_ l h m=some r→seekF S cu cg fol at_ l h m=r
 | 0,_,_,_,_,k=>by cases k
 | n+1,at_,[],h,m,k=>by rw[seek_nil];unfold seekG at k;injection k
 | n + 1, at_, p::l,h,m,k=>by
  unfold seekG at k;rw [seekF];split at k
  ·rename_i c1;rw[if_pos c1];injection k
  ·rename_i c1
   rw [if_neg c1];split at k
   ·rename_i c2;rw[if_pos c2];exact seekG_eq n _ _ _ _ k
   ·rename_i c2
    rw [if_neg c2];split at k
    ·rename_i c3
     rw [if_pos c3];split at k
     ·rename_i c4;rw[if_pos c4];injection k
     ·rename_i c4;rw[if_neg c4];injection k
    ·rename_i c3
     rw [if_neg c3];split at k
     ·rename_i c4
      rw [if_pos c4];split at k
      ·rename_i c5;rw[dif_pos c5];injection k
      ·rename_i c5
       rw [dif_neg c5];split at k
       ·rename_i c6;rw[if_pos c6];injection k
       ·rename_i c6;rw[if_neg c6];exact seekG_eq n _ _ _ _ k
     ·rename_i c4
      rw [if_neg c4];split at k
      ·rename_i c5;rw[if_pos c5];injection k
      ·rename_i c5
       rw [if_neg c5];split at k
       ·rename_i c6;rw[if_pos c6];injection k
       ·rename_i c6;rw[if_neg c6];exact seekG_eq n _ _ _ _ k
def ex15A:ItemD:=⟨0,[100],1,448,0,0,[],0⟩
def ex15B:ItemD:=⟨0,[108],3,0,0,0,[100,47],0⟩
def ex15C:ItemD:=⟨1,[120],2,0,0,0,[],0⟩
def b15:TreeD:=growAll (firstT 99 99) [ex15A,ex15B,ex15C]
def pathG (S:TreeD) (cu cg:Int) (p:List UInt8) (fol:Bool):Option (FndD×Int):=if pathN p=0 then seekG S cu cg fol 40 1 (partsN p) 0 (slashB p) else some (fndZ,pathN p)
theorem pathG_eq {S:TreeD} {cu cg:Int} {p:List UInt8} {fol:Bool} {r:FndD×Int} (h:pathG S cu cg p fol=some r):pathF S cu cg p fol=r:=by
 unfold pathG at h;unfold pathF;split
 ·rename_i h1;rw[if_pos h1]at h;exact seekG_eq _ _ _ _ _ h
 ·rename_i h1;rw[if_neg h1]at h;injection h
def mntG (S:TreeD) (m:MntD):Option TreeD:=
 match pathG S 0 0 m.path false with
 | none=>none
 | some r=>some (if r.2≠0 then S
  else if r.1.no=0 then (if chgE S 0 0 0 (.mkdir r.1.dir r.1.name 493)=0 then mountT (chgT S 0 0 0 (.mkdir r.1.dir r.1.name 493)) (chgN S 0 0 0 (.mkdir r.1.dir r.1.name 493)) m.b m.n else chgT S 0 0 0 (.mkdir r.1.dir r.1.name 493))
  else mountT S r.1.no m.b m.n)
theorem mntG_eq {S T:TreeD} {m:MntD} (h:mntG S m=some T):mntT S m=T:=by
 unfold mntG at h;split at h
 ·cases h
 ·rename_i r hr
  injection h with h;have hp:mntP S m=r:=pathG_eq hr;unfold mntT mntC;rw [hp];exact h
def mntsG (S:TreeD):List MntD→Option TreeD
 | []=>some S
 | m::l=>if topB m=true then mntsG S l else match mntG S m with|none=>none|some T=>mntsG T l
theorem mntsG_eq {S T:TreeD} {l:List MntD} (h:mntsG S l=some T):mntsT S l=T:=by
 induction l generalizing S with
 | nil=>injection h
 | cons m l ih =>
  unfold mntsG at h;unfold mntsT;rw [List.foldl_cons];split at h
  ·rename_i h1;rw[if_pos h1];exact ih h
  ·rename_i h1
   rw [if_neg h1];split at h
   ·cases h
   ·rename_i T1 h2;rw[mntG_eq h2];exact ih h
def itmG (S:TreeD) (it:ItmD):Option (TreeD×Int):=
 match pathG S 0 0 it.path false,(if it.kind=4 then pathG S 0 0 it.data false else some (fndZ,1)) with
 | some r,some y =>
  let c:Option Chg:=if r.2≠0 then none else if r.1.no≠0 then none
   else if it.kind=1 then some (.mkdir r.1.dir r.1.name 493)
   else if it.kind=2 then some (.create r.1.dir r.1.name 420 it.data)
   else if it.kind=3 then some (.symlink r.1.dir r.1.name it.data)
   else if it.kind=4 then (if y.2=0 then some (.link y.1.no r.1.dir r.1.name) else none)
   else none
  let T:=match c with|some x=>chgT S 0 0 0 x|none=>S
  let n:=match c with|some x=>chgN S 0 0 0 x|none=>if r.2=0∧r.1.no≠0∧it.kind=1∧(getN S.nodes r.1.no).kind=1 then r.1.no else 0
  some (dressT T n it,n)
 | _,_=>none
theorem itmG_eq {S:TreeD} {it:ItmD} {r:TreeD×Int} (h:itmG S it=some r):dressT (itmT S it) (itmN S it) it=r.1∧itmN S it=r.2:=by
 unfold itmG at h;split at h
 case h_2=>cases h
 rename_i r1 y h1 h2;have hp:itmP S it=r1:=pathG_eq h1;have hc:itmC S it=(if r1.2≠0 then none else if r1.1.no≠0 then none
   else if it.kind=1 then some (.mkdir r1.1.dir r1.1.name 493)
   else if it.kind=2 then some (.create r1.1.dir r1.1.name 420 it.data)
   else if it.kind=3 then some (.symlink r1.1.dir r1.1.name it.data)
   else if it.kind=4 then (if y.2=0 then some (.link y.1.no r1.1.dir r1.1.name) else none)
   else none):=by
  unfold itmC;rw [hp]
  by_cases h4:it.kind=4
  ·rw [if_pos h4]at h2
   have hl:itmL S it=y:=pathG_eq h2;rw [hl]
  ·rw[if_neg h4,if_neg h4]
 injection h with h;unfold itmT itmN;rw [hc,hp,←h];exact ⟨rfl,rfl⟩
def itemsG (S:TreeD) (ns:List Int):List ItmD→Option (TreeD×List Int)
 | []=>some (S,ns)
 | it::l=>match itmG S it with|none=>none|some r=>itemsG r.1 (ns++[r.2]) l
theorem itemsG_eq {S:TreeD} {ns:List Int} {l:List ItmD} {r:TreeD×List Int} (h:itemsG S ns l=some r):itemsS (S,ns) l=r:=by
 induction l generalizing S ns with
 | nil=>injection h
 | cons it l ih =>
  unfold itemsG at h;unfold itemsS;rw [List.foldl_cons];split at h
  ·cases h
  ·rename_i r1 h1
   obtain ⟨k1,k2⟩:=itmG_eq h1;have:itemS (S,ns) it=(r1.1,ns++[r1.2]):=by unfold itemS;rw[k1,k2]
   rw [this];exact ih h
def plantG (ms:List MntD) (is:List ItmD):Option TreeD:=
 match mntsG (seed0 ms) ms with
 | none=>none
 | some T=>match itemsG T [] is with|none=>none|some r=>some (timesT r.1 (r.2.zip is))
theorem plantG_eq {ms:List MntD} {is:List ItmD} {T:TreeD} (h:plantG ms is=some T):plantT ms is=T:=by
 unfold plantG at h;split at h
 ·cases h
 ·rename_i T1 h1
  split at h
  ·cases h
  ·rename_i r h2
   injection h with h;unfold plantT seed2;rw [mntsG_eq h1,itemsG_eq h2,h]
def downG (S:TreeD) (cu cg:Int):Nat→List SpotD→Option (List SpotD×SpotD×Int)
 | 0,_=>none
 | _+1,[]=>some ([],spotZ,0)
 | n+1,x::t=>if intoE S cu cg x≠0 then some ([],x,intoE S cu cg x) else
  match downG S cu cg n (intoL S cu cg x++t) with|none=>none|some r=>some (x::r.1,r.2)
theorem downG_eq {S:TreeD} {cu cg:Int}:∀{n:Nat} {t:List SpotD} {r:List SpotD×SpotD×Int},downG S cu cg n t=some r→DownR S cu cg t r.1 r.2.1 r.2.2
 | 0,_,_,h=>by cases h
 | n+1,[],r,h=>by injection h with h;subst h;exact .nil
 | n + 1,x::t,r,h=>by
  unfold downG at h;split at h
  ·rename_i h1;injection h with h;subst h;exact .bad h1
  ·rename_i h1
   split at h
   ·cases h
   ·rename_i r1 h2;injection h with h;subst h;exact .step (Decidable.not_not.1 h1) (downG_eq h2)
theorem map0_inj {a b:List SpotD} (h:a.map (fun y=>(y,(0:Int)))=b.map (fun y=>(y,(0:Int)))):a=b:=by
 have:=congrArg (List.map Prod.fst) h;have e:(Prod.fst∘fun y:SpotD=>(y,(0:Int)))=id:=rfl;rw [List.map_map,List.map_map,e,List.map_id,List.map_id]at this;exact this
theorem map0_mem {l:List SpotD} {y:SpotD×Int} (h:y∈l.map (fun y=>(y,(0:Int)))):y.2=0:=by
 obtain ⟨z,_,rfl⟩:=List.mem_map.1 h;rfl
theorem told_zero0 (l:List SpotD) (b:SpotD):told l b 0=l.map (fun x=>(x,0)):=by unfold told;rw[if_pos rfl,List.append_nil]
theorem told_eq {l lst:List SpotD} {b:SpotD} {e:Int} (h:told l b e=lst.map (fun y=>(y,(0:Int)))):e=0∧lst=l:=by
 have he:e=0:=by
  rcases Decidable.em (e=0) with he|he
  ·exact he
  ·have hm:(b,e)∈told l b e:=by unfold told;rw[if_neg he];simp
   rw [h]at hm;exact absurd (map0_mem hm) he
 subst he;rw [told_zero0]at h;exact ⟨rfl,(map0_inj h).symm⟩
theorem r24_full {l lst:List SpotD} {b x:SpotD} {e0 e:Int} {m:Nat} (h:R24 (told l b e0) m lst x e) (hl:l.length+1<m) (hb:e0=0→b=spotZ):lst=l∧x=b∧e=e0:=by
 rcases h with⟨h1,h2,rfl,rfl⟩|⟨h1,h2,h3⟩|⟨h1,h2,rfl,rfl⟩
 ·obtain ⟨k1,k2⟩:=told_eq h1
  exact ⟨k2,(hb k1).symm,k1.symm⟩
 ·obtain ⟨k1,_,k3⟩:=told_last h1 h2
  injection k1 with k1 k2;exact ⟨map0_inj k3,k1,k2⟩
 ·have:=h1.length_le
  have:=told_len l b e0;rw [List.length_map]at *;omega
theorem r24_up0 {L lst:List SpotD} {x:SpotD} {e:Int} {m:Nat} (h:R24 (L.map fun y=>(y,0)) m lst x e) (hl:L.length<m):lst=L∧x=spotZ∧e=0:=by
 rcases h with⟨h1,h2,rfl,rfl⟩|⟨h1,h2,h3⟩|⟨h1,h2,rfl,rfl⟩
 ·exact⟨(map0_inj h1).symm,rfl,rfl⟩
 ·obtain ⟨t,ht⟩:=h1
  have hm:(x,e)∈L.map fun y=>(y,(0:Int)):=by rw[←ht];simp
  exact absurd (map0_mem hm) h2
 ·have:=h1.length_le
  rw [List.length_map,List.length_map]at this;omega
theorem r24_upE {q lst:List SpotD} {b x:SpotD} {e0 e:Int} {m:Nat} (h:R24 (q.map (fun y=>(y,0))++[(b,e0)]) m lst x e) (he:e0≠0) (hl:q.length+1<m):x=b∧e=e0:=by
 have h':R24 (told q b e0) m lst x e:=by unfold told;rw[if_neg he];exact h
 exact (r24_full h' hl (fun k=>absurd k he)).2
theorem upS_perm:∀(n:Nat) (w l:List SpotD),2*l.length+w.length≤n→(upS w l).Perm (w++l):=by
 intro n
 induction n with
 | zero =>
  intro w l h
  cases w with
  | nil =>
   cases l with
   | nil=>rw[upS];exact List.Perm.refl _
   | cons y l=>simp at h
  | cons x w=>simp at h
 | succ n ih =>
  intro w l h
  cases l with
  | nil =>
   cases w with
   | nil=>rw[upS];exact List.Perm.refl _
   | cons x w =>
    rw [upS];exact (ih w [] (by simp at h⊢;omega)).cons x
  | cons y l =>
   cases w with
   | nil =>
    rw [upS];exact ih [y] l (by simp at h⊢;omega)
   | cons x w =>
    rw [upS];split
    ·exact (ih w (y::l) (by simp at h⊢;omega)).cons x
    ·refine (ih (y::x::w) l (by simp at h⊢;omega)).trans ?_
     exact (List.perm_middle (a:=y) (l₁:=x::w) (l₂:=l)).symm
theorem upS_is (w l:List SpotD):(upS w l).Perm (w++l):=upS_perm _ w l (Nat.le_refl _)
def Aft:List SpotD→Prop
 | []=>True
 | y::L=>(y.depth=0∨∃z∈L,z.no=y.dir)∧Aft L
def Chn:List (SpotD×List SpotD)→Prop
 | []=>True
 | [f]=>f.1.depth=0∧∀z∈f.2,z.dir=f.1.no
 | f::g::r=>f.1.dir=g.1.no∧(∀z∈f.2,z.dir=f.1.no)∧Chn (g::r)
theorem Chn.top {f:SpotD×List SpotD} {way:List (SpotD×List SpotD)} (h:Chn (f::way)):(∀z∈f.2,z.dir=f.1.no)∧Chn way∧(f.1.depth=0∨∃g∈way,g.1.no=f.1.dir):=by
 cases way with
 | nil=>exact⟨h.2,trivial,.inl h.1⟩
 | cons g r=>exact⟨h.2.1,h.2.2,.inr ⟨g,List.mem_cons_self ..,h.1.symm⟩⟩
theorem Chn.less {x:SpotD} {l l':List SpotD} {way:List (SpotD×List SpotD)} (h:Chn ((x,l)::way)) (hl:∀z∈l',z∈l):Chn ((x,l')::way):=by
 cases way with
 | nil=>exact⟨h.1,fun z hz=>h.2 z (hl z hz)⟩
 | cons g r=>exact⟨h.1,fun z hz=>h.2.1 z (hl z hz),h.2.2⟩
theorem Chn.push {x z:SpotD} {l k:List SpotD} {way:List (SpotD×List SpotD)} (h:Chn ((x,l)::way)) (hz:z.dir=x.no) (hk:∀y∈k,y.dir=z.no):Chn ((z,k)::(x,l)::way):=⟨hz,hk,h⟩
theorem intoL_dir {S:TreeD} {cu cg:Int} {x y:SpotD} (h:y∈intoL S cu cg x):y.dir=x.no:=by
 unfold intoL at h;split at h
 ·rw [List.mem_map]at h
  obtain ⟨z,_,rfl⟩:=h;rfl
 ·cases h
theorem up_aft {S:TreeD} {cu cg:Int} {todo l:List SpotD} {b:SpotD} {e:Int} (h:DownR S cu cg todo l b e) :
  e = 0→∀(way:List (SpotD×List SpotD)),todo=way.flatMap (·.2)→WayUp way→Chn way→Aft (upS (way.map (·.1)) l):=by
 induction h with
 | nil =>
  intro _ way
  induction way with
  | nil=>intro _ _ _;simp only[List.map_nil];rw[upS];trivial
  | cons f way ih =>
   intro ht hw hc;obtain ⟨x,left⟩:=f
   cases left with
   | cons y left=>simp at ht
   | nil =>
    obtain ⟨_,c2,c3⟩:=hc.top;rw [List.map_cons,upS];refine ⟨?_,ih (by simpa using ht) hw.2.2 c2⟩;rcases c3 with c3|⟨g,hg,c3⟩
    ·exact .inl c3
    ·exact .inr ⟨g.1,(upS_is _ _).mem_iff.2 (List.mem_append_left _ (List.mem_map_of_mem hg)),c3⟩
 | bad hx=>intro he;exact absurd he hx
 | step hx hr ih0 =>
  rename_i z t l' b e;intro he way
  induction way with
  | nil=>intro ht;simp at ht
  | cons f way ih =>
   intro ht hw hc;obtain ⟨x,left⟩:=f
   cases left with
   | nil =>
    have ht2:z::t=way.flatMap (·.2):=by simpa using ht
    obtain ⟨_,c2,c3⟩:=hc.top;have hz:z.depth≤x.depth:=by
     have hm:z∈way.flatMap (·.2):=by rw[←ht2];exact List.mem_cons_self ..
     obtain ⟨g,hg,hzg⟩:=List.mem_flatMap.1 hm;have h6:=hw.2.2.left g hg z hzg;have h7:=hw.2.1 g hg;simp only at h7;omega
    rw [List.map_cons,upS,if_pos hz];refine ⟨?_,ih ht2 hw.2.2 c2⟩;rcases c3 with c3|⟨g,hg,c3⟩
    ·exact .inl c3
    ·exact .inr ⟨g.1,(upS_is _ _).mem_iff.2 (List.mem_append_left _ (List.mem_map_of_mem hg)),c3⟩
   | cons y left =>
    obtain ⟨rfl,rfl⟩:z=y∧t=left++way.flatMap (·.2):=by simpa using ht
    have hdz:z.depth=x.depth+1:=hw.1 z (List.mem_cons_self ..);have:=ih0 he ((z,intoL S cu cg z)::(x,left)::way) (by simp) ⟨fun u hu=>intoL_depth hu,fun g hg=>by
     rcases List.mem_cons.1 hg with rfl|hg
     ·simp only;omega
     ·have:=hw.2.1 g hg;simp only at this⊢;omega,fun u hu=>hw.1 u (List.mem_cons_of_mem _ hu),hw.2.1,hw.2.2⟩
     ((hc.less (fun u hu=>List.mem_cons_of_mem _ hu)).push (hc.top.1 z (List.mem_cons_self ..)) fun u hu=>intoL_dir hu)
    simp only[List.map_cons]at this⊢;rw [upS,if_neg (by omega)];exact this
def Fro:List SpotD→List SpotD→Prop
 | _,[]=>True
 | P,y::L=>(y.depth=0∨∃z∈P,z.no=y.dir)∧Fro (P++[y]) L
theorem down_fro {S:TreeD} {cu cg:Int} {todo l:List SpotD} {b:SpotD} {e:Int} (h:DownR S cu cg todo l b e):∀P,(∀y∈todo,y.depth=0∨∃z∈P,z.no=y.dir)→Fro P l:=by
 induction h with
 | nil=>intro P _;trivial
 | bad _=>intro P _;trivial
 | @step x t l b e _ _ ih =>
  intro P hP;refine ⟨hP x (List.mem_cons_self ..),ih _ fun y hy=>?_⟩;rcases List.mem_append.1 hy with hy|hy
  ·exact .inr ⟨x,by simp,(intoL_dir hy).symm⟩
  ·rcases hP y (List.mem_cons_of_mem _ hy) with h1|⟨z,hz,h1⟩
   ·exact .inl h1
   ·exact .inr ⟨z,List.mem_append_left _ hz,h1⟩
theorem down_deep {S:TreeD} {cu cg:Int} {todo l:List SpotD} {b:SpotD} {e:Int} (h:DownR S cu cg todo l b e) (d:Int):(∀y∈todo,d≤y.depth)→∀y∈l,d≤y.depth:=by
 induction h with
 | nil=>intro _ y hy;cases hy
 | bad _=>intro _ y hy;cases hy
 | @step x t l b e _ _ ih =>
  intro h1 y hy;have hx:=h1 x (List.mem_cons_self ..);rcases List.mem_cons.1 hy with rfl|hy
  ·exact hx
  ·refine ih (fun z hz=>?_) y hy
   rcases List.mem_append.1 hz with hz|hz
   ·have:=intoL_depth hz;omega
   ·exact h1 z (List.mem_cons_of_mem _ hz)
theorem into_nodup {c:Nat} {S:TreeD} (h:Tre c S) (cu cg:Int) (x:SpotD):(intoL S cu cg x).Nodup:=by
 by_cases hx:Live24 S cu cg x
 ·rw [into_live hx]
  have hr:=h.rise _ (getN_node hx.2).2.2;unfold listF;rw [List.map_map];show List.Pairwise _ _;rw [List.pairwise_map];refine hr.imp ?_;intro a b hab e;have e1:a.1=b.1:=congrArg SpotD.name e;rw [e1,bl_irrefl]at hab;cases hab
 ·rw[into_dead hx];exact List.nodup_nil
theorem down_once {c:Nat} {S:TreeD} (h:Tre c S) (k:Kids S) (cu cg:Int) (x0:Int) {t l:List SpotD} {b:SpotD} {e:Int} (hd:DownR S cu cg t l b e) :
  ∀ (E:List Int) (d:Int→Nat),(∀n∈S.nodes,n.kind=1→n.up≠n.no→d n.up<d n.no)→(∀y∈E,(getN S.nodes y).kind=1∧d x0≤d y∧(y=x0∨(getN S.nodes y).up∈E)) →
   (∀y∈t,Live24 S cu cg y→y.no∉E∧d x0≤d y.no∧(y.no=x0∨(getN S.nodes y.no).up∈E))→t.Pairwise (fun a b=>Live24 S cu cg a→Live24 S cu cg b→a.no≠b.no) →
   (∀y∈t,0≤y.depth∧(y.depth=0∨y.dir∈E))→t.Nodup→l.Nodup∧∀y∈l,y∈t∨(y.dir∉E∧y.depth≠0):=by
 induction hd with
 | nil=>intro E d _ _ _ _ _ _;exact⟨List.nodup_nil,fun y hy=>by cases hy⟩
 | bad _=>intro E d _ _ _ _ _ _;exact⟨List.nodup_nil,fun y hy=>by cases hy⟩
 | @step x t l b e h0 hd ih =>
  intro E d hdp h2 h3 h4 h5 h6;rw [List.pairwise_cons]at h4;have h6':=h6;rw [List.nodup_cons]at h6;have hx5:=h5 x (List.mem_cons_self ..)
  by_cases hx:Live24 S cu cg x
  ·obtain ⟨x1,x2,x3⟩:=h3 x (List.mem_cons_self ..) hx
   have hch:∀y∈intoL S cu cg x,Live24 S cu cg y→y.no∉x.no::E∧d x0≤d y.no∧(y.no=x0∨(getN S.nodes y.no).up∈x.no::E)∧y.no≠x0∧(getN S.nodes y.no).up=x.no:=by
    intro y hy ly;obtain ⟨c1,c2,c3,_⟩:=child_up h k hx hy ly;obtain ⟨j1,j2,j3⟩:=getN_node ly.2;have hlt:=hdp _ j3 ly.2 (by rw[c2,j2];exact Ne.symm c3);rw [c2,j2]at hlt;have hne:y.no≠x0:=fun e=>by rw[e]at hlt;omega
    refine ⟨fun hm=>?_,by omega,.inr (by rw[c2];exact List.mem_cons_self ..),hne,c2⟩;rcases List.mem_cons.1 hm with e|hm
    ·exact c3 e
    ·rcases (h2 y.no hm).2.2 with e|e
     ·exact hne e
     ·rw[c2]at e;exact x1 e
   obtain ⟨r1,r2⟩:=ih (x.no::E) d hdp
    (fun y hy=>by
     rcases List.mem_cons.1 hy with rfl|hy
     ·exact⟨hx.2,x2,x3.imp id (List.mem_cons_of_mem _)⟩
     ·obtain ⟨a1,a2,a3⟩:=h2 y hy
      exact ⟨a1,a2,a3.imp id (List.mem_cons_of_mem _)⟩)
    (fun y hy ly=>by
     rcases List.mem_append.1 hy with hy|hy
     ·obtain ⟨a1,a2,a3,_⟩:=hch y hy ly
      exact ⟨a1,a2,a3⟩
     ·obtain ⟨a1,a2,a3⟩:=h3 y (List.mem_cons_of_mem _ hy) ly
      refine ⟨fun hm=>?_,a2,a3.imp id (List.mem_cons_of_mem _)⟩;rcases List.mem_cons.1 hm with e|hm
      ·exact h4.1 y hy hx ly e.symm
      ·exact a1 hm)
    (List.pairwise_append.2 ⟨(by
     rw [into_live hx,List.pairwise_map];have hr:=h.rise _ (getN_node hx.2).2.2;unfold listF;rw [List.pairwise_map];refine List.Pairwise.imp_of_mem ?_ hr;intro a b ha hb hab la lb e;have ca:=child_up h k hx (y:=spotOf x (a.1,overF S.devs a.2)) (by rw[into_live hx];exact List.mem_map_of_mem (by unfold listF;exact List.mem_map_of_mem ha)) la;have cb:=child_up h k hx (y:=spotOf x (b.1,overF S.devs b.2)) (by rw[into_live hx];exact List.mem_map_of_mem (by unfold listF;exact List.mem_map_of_mem hb)) lb;obtain ⟨j1,j2,j3⟩:=getN_node la.2;have:=k.once _ (getN_node hx.2).2.2 _ ca.1 _ cb.1 _ j3 j2 la.2 e;have e1:a.1=b.1:=by have:=congrArg Prod.fst this;exact this
     rw [e1,bl_irrefl]at hab;cases hab),h4.2,fun a ha b hb la lb e=>by
     obtain ⟨a1,a2,a3,a4,a5⟩:=hch a ha la;rcases (h3 b (List.mem_cons_of_mem _ hb) lb).2.2 with e1|e1
     ·exact a4 (e.trans e1)
     ·rw[←e,a5]at e1;exact x1 e1⟩)
    (fun y hy=>by
     rcases List.mem_append.1 hy with hy|hy
     ·have hy2:=intoL_depth hy
      exact ⟨by omega,.inr (by rw[intoL_dir hy];exact List.mem_cons_self ..)⟩
     ·obtain ⟨a1,a2⟩:=h5 y (List.mem_cons_of_mem _ hy)
      exact ⟨a1,a2.imp id (List.mem_cons_of_mem _)⟩)
    (List.nodup_append.2 ⟨into_nodup h cu cg x,h6.2,fun a ha b hb e=>by
     subst e;have hy2:=intoL_depth ha;rcases (h5 a (List.mem_cons_of_mem _ hb)).2 with e1|e1
     ·omega
     ·rw[intoL_dir ha]at e1;exact x1 e1⟩)
   refine ⟨List.nodup_cons.2 ⟨fun hm=>?_,r1⟩,fun y hy=>?_⟩
   ·rcases r2 x hm with hm|⟨h7,h8⟩
    ·rcases List.mem_append.1 hm with hm|hm
     ·have:=intoL_depth hm;omega
     ·exact h6.1 hm
    ·rcases hx5.2 with e1|e1
     ·exact h8 e1
     ·exact h7 (List.mem_cons_of_mem _ e1)
   ·rcases List.mem_cons.1 hy with rfl|hy
    ·exact .inl (List.mem_cons_self ..)
    ·rcases r2 y hy with hm|⟨h7,h8⟩
     ·rcases List.mem_append.1 hm with hm|hm
      ·have:=intoL_depth hm
       exact .inr ⟨by rw[intoL_dir hm];exact x1,by omega⟩
      ·exact .inl (List.mem_cons_of_mem _ hm)
     ·exact .inr ⟨fun hm=>h7 (List.mem_cons_of_mem _ hm),h8⟩
  ·rw [into_dead hx,List.nil_append]at ih
   obtain ⟨r1,r2⟩:=ih E d hdp h2 (fun y hy ly=>h3 y (List.mem_cons_of_mem _ hy) ly) h4.2 (fun y hy=>h5 y (List.mem_cons_of_mem _ hy)) h6.2;refine ⟨List.nodup_cons.2 ⟨fun hm=>?_,r1⟩,fun y hy=>?_⟩
   ·rcases r2 x hm with hm|⟨h7,h8⟩
    ·exact h6.1 hm
    ·rcases hx5.2 with e1|e1
     ·exact h8 e1
     ·exact h7 e1
   ·rcases List.mem_cons.1 hy with rfl|hy
    ·exact .inl (List.mem_cons_self ..)
    ·exact (r2 y hy).imp (List.mem_cons_of_mem _) id
theorem down_nodup {c:Nat} {S:TreeD} (h:Tre c S) (k:Kids S) (cu cg:Int) {x:SpotD} {l:List SpotD} {b:SpotD} {e:Int} (hx:x.depth=0) (hd:DownR S cu cg [x] l b e):l.Nodup:=by
 obtain ⟨d,hdp⟩:=h.deep;exact (down_once h k cu cg x.no hd [] d hdp (fun y hy=>by cases hy) (fun y hy _=>by rw[List.mem_singleton]at hy;subst hy;exact⟨by simp,Nat.le_refl _,.inl rfl⟩) (List.pairwise_singleton _ _)
  (fun y hy=>by rw[List.mem_singleton]at hy;subst hy;exact⟨by omega,.inl hx⟩) (by simp)).1
theorem Fro.at_ {P l:List SpotD} (h:Fro P l):∀i,(hi:i<l.length)→l[i].depth=0∨(∃z∈P,z.no=l[i].dir)∨∃k,∃hk:k<i,l[k].no=l[i].dir:=by
 induction l generalizing P with
 | nil=>intro i hi;cases hi
 | cons y l ih =>
  intro i hi
  cases i with
  | zero =>
   rcases h.1 with h1|h1
   ·exact .inl h1
   ·exact .inr (.inl h1)
  | succ i =>
   rcases ih h.2 i (by simpa using hi) with h1|⟨z,hz,h1⟩|⟨j,hj,h1⟩
   ·exact .inl h1
   ·rcases List.mem_append.1 hz with hz|hz
    ·exact .inr (.inl ⟨z,hz,h1⟩)
    ·rw [List.mem_singleton]at hz
     subst hz;exact .inr (.inr ⟨0,by omega,h1⟩)
   ·exact .inr (.inr ⟨j+1,by omega,h1⟩)
theorem Aft.at_ {l:List SpotD} (h:Aft l):∀i,(hi:i<l.length)→l[i].depth=0∨∃j,∃hj:j<l.length,i<j∧l[j].no=l[i].dir:=by
 induction l with
 | nil=>intro i hi;cases hi
 | cons y l ih =>
  intro i hi
  cases i with
  | zero =>
   rcases h.1 with h1|⟨z,hz,h1⟩
   ·exact .inl h1
   ·obtain ⟨j,hj,rfl⟩:=List.getElem_of_mem hz
    exact .inr ⟨j+1,by simpa using hj,by omega,h1⟩
  | succ i =>
   rcases ih h.2 i (by simpa using hi) with h1|⟨j,hj,h1,h2⟩
   ·exact .inl h1
   ·exact .inr ⟨j+1,by simpa using hj,by omega,h2⟩
theorem once_is {c:Nat} {s:SysD} (h:Tre c s.t) (k:Kids s.t) {cu cg dir:Int} {nm:List UInt8} {l:List SpotD} {b:SpotD} (hd:DownT s cu cg dir nm l b 0) :
  l.Nodup∧(upS [] l).Perm l∧(∀i,(hi:i<l.length)→i=0∨∃k,∃hk:k<i,l[k].no=l[i].dir) ∧
   (∀i,(hi:i<l.length)→i≠0→∀j,(hj:j<(upS [] l).length)→(upS [] l)[j]=l[i]→∃m,∃hm:m<(upS [] l).length,j<m∧(upS [] l)[m].no=l[i].dir):=by
 rcases hd with⟨h1,_,_,h2⟩|⟨h1,hdd,h2⟩
 ·exact absurd h2.symm h1
 have hX:(firstX s cu cg dir nm).depth=0:=rfl;have hN:=down_nodup h k cu cg hX h2;have hF:=(down_fro h2 [] (fun y hy=>by rw[List.mem_singleton]at hy;subst hy;exact .inl hX)).at_;clear h1;obtain ⟨e,he⟩:∃e,e=(0:Int):=⟨_,rfl⟩;rw [←he]at h2
 cases h2 with
 | bad h3=>exact absurd he h3
 | @step _ _ l' _ _ h3 h4 =>
  have hdeep:=down_deep h4 1 (fun y hy=>by rw[List.append_nil]at hy;have:=intoL_depth hy;omega);have hA4:Aft (upS [] (firstX s cu cg dir nm::l')):=by
   rw [upS];have hw:intoL s.t cu cg (firstX s cu cg dir nm)++[]=List.flatMap (fun f:SpotD×List SpotD=>f.2) [(firstX s cu cg dir nm,intoL s.t cu cg (firstX s cu cg dir nm))]:=by simp
   exact up_aft h4 he [(firstX s cu cg dir nm,intoL s.t cu cg (firstX s cu cg dir nm))] hw ⟨fun u hu=>intoL_depth hu,fun g hg=>(by cases hg),trivial⟩ ⟨hX,fun u hu=>intoL_dir hu⟩
  have hd1:∀i,(hi:i<(firstX s cu cg dir nm::l').length)→i≠0→(firstX s cu cg dir nm::l')[i].depth≠0:=fun i hi h0=>by
   cases i with
   | zero=>exact absurd rfl h0
   | succ i =>
    have:=hdeep (l'[i]'(by simpa using hi)) (List.getElem_mem _);rw [List.getElem_cons_succ];omega
  refine ⟨hN,by simpa using upS_is [] (firstX s cu cg dir nm::l'),fun i hi=>?_,fun i hi h0 j hj e=>?_⟩
  ·rcases Decidable.em (i=0) with e|e
   ·exact .inl e
   ·rcases hF i hi with h5|⟨z,hz,_⟩|h5
    ·exact absurd h5 (hd1 i hi e)
    ·cases hz
    ·exact .inr h5
  ·rcases hA4.at_ j hj with h5|⟨m,hm,h5,h6⟩
   ·rw[e]at h5;exact absurd h5 (hd1 i hi h0)
   ·exact⟨m,hm,h5,by rw[h6,e]⟩
theorem RowAt.of_has {α:Type} {R:RowK α} {w:World} {b:Nat} {l:List α} (h:Has w b (.cells (R.cells l).toArray R.t)):RowAt R w (some ⟨b,0,none⟩) l:=.inr ⟨b,0,rfl,h.lt,fun i hi j hj=>by rw[Nat.zero_add,h.cell,List.getElem?_toArray];exact R.cells_get l i hi j hj⟩
def awkI:List ItmD:=[⟨[47,100],1,493,0,0,0,[]⟩,⟨[47,100,47,121],2,0,0,0,0,[]⟩,⟨[47,100,47,120],2,0,0,0,0,[]⟩]
def awkT:TreeD:=(plantG [] awkI).getD emptyT
theorem awk_plant:plantT [] awkI=awkT:=plantG_eq (by kernel_rfl)
def awkL:List SpotD:=[⟨1,[100],2,0⟩,⟨2,[120],4,1⟩,⟨2,[121],3,1⟩]
abbrev awkS:SysD:=⟨awkT,0,0,[],false⟩
theorem awk_first:firstX awkS 0 0 1 [100]=⟨1,[100],2,0⟩∧firstE awkS 0 0 1 [100]=0∧firstE awkS 0 0 1 [101]=5:=⟨by kernel_rfl,by kernel_rfl,by kernel_rfl⟩
theorem awk_down:DownT awkS 0 0 1 [100] awkL spotZ 0:=.inr ⟨awk_first.2.1,rfl,by
 rw [awk_first.1];exact downG_eq (n:=9) (r:=(awkL,spotZ,0)) (by kernel_rfl)⟩
theorem awk_none:DownT awkS 0 0 1 [101] [] (firstX awkS 0 0 1 [101]) 5:=.inl ⟨by rw[awk_first.2.2];decide,rfl,rfl,awk_first.2.2.symm⟩
theorem awk_up:upS [] awkL=[⟨2,[120],4,1⟩,⟨2,[121],3,1⟩,⟨1,[100],2,0⟩]:=by
 unfold awkL;rw [upS_start,upS_push (by decide),upS_pop (by decide),upS_push (by decide),upS_nil,upS_nil,upS_none]
theorem awk_sane:Sane 140 awkS:=by
 have k:Plt 140 awkT:=by rw[←awk_plant];exact (plant_ple (by decide) (by decide)).plt
 exact k.sane (Int.le_refl _) (by decide)
theorem awake24 (w:World):Calls Tryz.prog 11 #[] w (Ret w (.bool true)):=by
 obtain ⟨W1,hW1⟩:∃W,W=w.alloc (.cells (rowT.cells awkI).toArray 72):=⟨_,rfl⟩;obtain ⟨b1,hb1⟩:∃b,b=w.heap.size:=⟨_,rfl⟩;have E1:Ext w W1:=by rw[hW1];exact (Ext.refl _).alloc _
 have B1:Has W1 b1 (.cells (rowT.cells awkI).toArray 72):=by rw[hW1,hb1];exact Has.new _ _
 have KP:=Lib.hid (pplant_any none [] 0 (some ⟨b1,0,none⟩) awkI 3 W1 (.inl rfl) (RowAt.of_has (R:=rowT) B1) (by decide) (by decide) (fun m hm=>by cases hm) (by decide));have hW1':w.alloc (.cells #[.string ⟨#[47,100]⟩,.int .i64 1,.int .i64 493,.int .i64 0,.int .i64 0,.int .i64 0,.string ⟨#[]⟩,.string ⟨#[47,100,47,121]⟩,.int .i64 2,.int .i64 0,.int .i64 0,.int .i64 0,.int .i64 0,.string ⟨#[]⟩,.string ⟨#[47,100,47,120]⟩,.int .i64 2,.int .i64 0,.int .i64 0,.int .i64 0,.int .i64 0,.string ⟨#[]⟩] 72)=W1:=hW1.symm;clear hW1;go_enter Tryz.func11,Tryz.ntmps11;go_wp2_with fail;rw [←hb1];clear hW1' hb1 B1;refine KP.out.mono ?_;rintro e w2 ⟨b,B,g,rfl,hB,P2,E2⟩;rw [awk_plant]at P2;clear KP;have HP:=Lib.hid P2;have HE2:=Lib.hid (E1.trans E2);have K1:=Lib.hid (fun (u:World) (hu:Ext w2 u)=>(P2.ext hu).down24 awk_sane (by omega) 0 0 1 [100] false 99 (by decide) (by decide) (told awkL spotZ 0) (by decide) (.inl ⟨rfl,awkL,spotZ,0,awk_down,by decide,rfl⟩));obtain ⟨M,L,u1,u2,u3,u4,_⟩:=up_is awk_down;have K2:=Lib.hid (fun (u:World) (hu:Ext w2 u)=>(P2.ext hu).down24 awk_sane (by omega) 0 0 1 [100] true 99 (by decide) (by decide) L (by have:awkL.length=3:=rfl;omega) (.inr ⟨rfl,M,u1,by have:awkL.length=3:=rfl;omega⟩));have HL:=Lib.hid (u4 rfl);have K3:=Lib.hid (fun (u:World) (hu:Ext w2 u)=>(P2.ext hu).down24 awk_sane (by omega) 0 0 1 [101] false 99 (by decide) (by decide) (told [] (firstX awkS 0 0 1 [101]) 5) (by decide) (.inl ⟨rfl,[],_,5,awk_none,by decide,rfl⟩));clear P2 E1 E2 u1 u2 u3 u4;go_wp2_with fail;refine (K1.out _ (Ext.refl _)).mono ?_;rintro e w3 ⟨v3,l3,x3,e3,rfl,hR3,O3,E3⟩;obtain ⟨rfl,rfl,rfl⟩:=r24_full hR3 (by decide) (fun _=>rfl);have HO3:=Lib.hid O3;have HE3:=Lib.hid E3;obtain ⟨A3,c3,hv3,_,_,hA3,_⟩:=O3.at_;have hv3':v3=.slice A3 3 c3:=hv3;have HA3:=Lib.hid hA3;clear K1 O3 E3 hR3 hv3 hA3;subst hv3';go_wp2_with fail;have E4:=Lib.hid (HE3.out.alloc (.cells (spotC spotZ).toArray 41));refine (K2.out _ E4.out).mono ?_;rintro e w5 ⟨v5,l5,x5,e5,rfl,hR5,O5,E5⟩;rw [HL.out,awk_up]at hR5
 obtain ⟨rfl,rfl,rfl⟩:=r24_up0 hR5 (by decide);obtain ⟨A5,c5,hv5,_,_,hA5,_⟩:=O5.at_;have hv5':v5=.slice A5 3 c5:=hv5;have HA5:=Lib.hid hA5;have HE5:=Lib.hid E5;clear K2 O5 E5 hR5 hv5 hA5 HL;subst hv5';go_wp2_with fail;have E6:=Lib.hid ((E4.out.trans HE5.out).alloc (.cells (spotC spotZ).toArray 41));refine (K3.out _ E6.out).mono ?_;rintro e w7 ⟨v7,l7,x7,e7,rfl,hR7,O7,E7⟩;obtain ⟨rfl,rfl,rfl⟩:=r24_full hR7 (by decide) (fun h=>by cases h);have HE7:=Lib.hid E7;obtain ⟨X,hX⟩:∃X,X=firstX awkS 0 0 1 [101]:=⟨_,rfl⟩;rw [←hX];clear K3 O7 E7 hR7 hX;go_upto_region 7 with fail;obtain ⟨W8,hW8⟩:∃W,W=w7.alloc (.cells #[.int .i64 X.dir,.string (bs X.name),.int .i64 X.no,.int .i64 X.depth] 41):=⟨_,rfl⟩;have E78:Ext w7 W8:=by rw[hW8];exact (Ext.refl _).alloc _
 have E58:Ext w5 W8:=(((Ext.refl w5).alloc _).trans HE7.out).trans E78;have E38:Ext w3 W8:=(((Ext.refl w3).alloc _).trans HE5.out).trans E58;have Ew8:Ext w W8:=(HE2.out.trans (E6.out.trans HE7.out)).trans E78;rw [←hW8];clear hW8;obtain ⟨g3,o3,hg3,z3,a0,a1,a2,a3⟩:=(HA3.out.ext E38).at_ (k:=0) (by decide);obtain ⟨g3',o3',hg3',_,b0,b1,b2,b3⟩:=(HA3.out.ext E38).at_ (k:=1) (by decide);rw [hg3]at hg3';injection hg3' with hg3';injection hg3' with h1 h2;subst h1 h2;obtain ⟨g5,o5,hg5,z5,d0,d1,d2,d3⟩:=(HA5.out.ext E58).at_ (k:=0) (by decide);obtain ⟨g5',o5',hg5',_,f0,f1,f2,f3⟩:=(HA5.out.ext E58).at_ (k:=2) (by decide);rw [hg5]at hg5';injection hg5' with hg5';injection hg5' with h1 h2;subst h1 h2;subst hg3 hg5;have p1:W8.cell? ⟨g3,o3+1,none⟩=some (.string ⟨#[100]⟩):=a1;have p2:W8.cell? ⟨g3,o3+4+1,none⟩=some (.string ⟨#[120]⟩):=b1;have p3:W8.cell? ⟨g3,o3+4+3,none⟩=some (.int .i64 1):=b3;have p4:W8.cell? ⟨g5,o5+1,none⟩=some (.string ⟨#[120]⟩):=d1;have p5:W8.cell? ⟨g5,o5+8+1,none⟩=some (.string ⟨#[100]⟩):=f1;clear a0 a1 a2 a3 b0 b1 b2 b3 d0 d1 d2 d3 f0 f1 f2 f3 HA3 HA5 E58 E38 E78;go_wp2_with fail;go_ret;exact Ret.mk rfl Ew8
theorem below_paths {c:Nat} {S:TreeD} (h:Tre c S) (hn:NoEnts S) (hl:ListUp S) {r:Int→Nat} (hr:Rank S r) {t:List TodoD} {nos:List Int} {l:List RwD} (hd:BelowR S t nos l):(∀x∈t,PathOk S r x)→∀y∈l,y.path.length≤300*(S.nodes.length+2):=by
 induction hd with
 | nil=>intro _ y hy;cases hy
 | none _ _ ih=>intro hp y hy;exact ih (fun x hx=>hp x (List.mem_cons_of_mem _ hx)) y hy
 | @step x t nos l _ _ ih =>
  intro hp y hy;rcases List.mem_cons.1 hy with rfl|hy
  ·exact (hp x (List.mem_cons_self ..)).1
  ·refine ih (fun z hz=>?_) y hy
   rcases List.mem_append.1 hz with hz|hz
   ·exact pathOk_kids h hn hl hr (hp x (List.mem_cons_self ..)) z hz
   ·exact hp z (List.mem_cons_of_mem _ hz)
def SpotR (S:TreeD) (w:World) (e:Ending) (w':World):Prop:=∃(dir:Int) (nm:List UInt8) (is:Bool),e=.returned (.tuple #[.int .i64 dir,.string (bs nm),.bool is])∧nm.length≤255∧(is=true→nm≠[]∧∃p,(pathF S 0 0 p false).2=0∧(pathF S 0 0 p false).1.dir=dir∧(pathF S 0 0 p false).1.name=nm)∧Ext w w'
theorem spot_any {w:World} {B:Nat} {f:GhF} {s:SysD} (h:RS w B f s) (k:PlE 140 s.t) (a:Int) :
  Calls Tryz.prog 13 #[.pointer (some ⟨f.bF,0,none⟩),.int .i64 a] w (SpotR s.t w):=by
 obtain ⟨rows,r,hB,hl,hr,hp⟩:=plant_rows k;have KR:=Lib.hid (rrows_any h k rows hB hl hr hp);have hpl:=below_paths k.plt.tre k.plt.noe k.plt.kids.up hr hB (fun x hx=>by rw[List.mem_singleton]at hx;subst hx;exact hp);have hnl:s.t.nodes.length≤200:=by have:=k.plt.tre.count;have:=k.plt.last;omega
 obtain ⟨Xt,F⟩:=h.fat;have KP:Hid (∀(u:World) (p:List UInt8),Ext w u→p.length≤1000000→Calls Tryz.prog 40 #[.pointer (some ⟨f.bF,0,none⟩),.agg #[.int .i64 0,.int .i64 0],.string (bs p),.bool false] u (FndR u (pathF s.t 0 0 p false))):=fun u p hu hp=>rpath15_any B f s.t Xt 0 0 p false u (F.ext hu) k.plt.tre (by omega) (by have:=k.plt.last;omega) hp
 have HPL:=Lib.hid hpl;have HL:=Lib.hid hl;clear h F hB hl hr hp hpl;go_enter Tryz.func13,Tryz.ntmps13;go_wp2_with fail;refine KR.out.mono ?_;rintro e w1 ⟨v,rfl,hO,hE⟩;obtain ⟨A,cap,rfl,_,_,hat,_⟩:=hO.at_;obtain ⟨n,hn⟩:∃n,n=rows.length:=⟨_,rfl⟩;rw [←hn];have HN:=Lib.hid hn;have HAT:=Lib.hid hat;have HE:=Lib.hid hE;clear KR hO hE hn hat
 by_cases h2:(n:Int)<2
 case pos =>
  have t2:decide ((n:Int)<2)=true:=decide_eq_true h2;clear h2;go_wp2_with fail;refine bodyPost_ret (v:=.tuple #[.int .i64 1,.string ⟨#[110,111,110,101]⟩,.bool false]) (by simp[results,Tryz.results13,go_sem]) rfl ?_;exact ⟨1,[110,111,110,101],false,rfl,by decide,(fun h=>by cases h),HE.out⟩
 case neg =>
  have t2:decide ((n:Int)<2)=false:=decide_eq_false h2;obtain ⟨d,hd⟩:∃d,n=d+1:=⟨n-1,by omega⟩;have hd1:1≤d:=by omega
  have hdl:d≤200:=by have:=HL.out;have:=HN.out;omega
  subst hd;obtain ⟨q,hq⟩:∃q:Nat,((q:Nat):Int)=a % 18446744073709551616 % (d:Int):=⟨(a % 18446744073709551616 % (d:Int)).toNat,Int.toNat_of_nonneg (Int.emod_nonneg _ (by omega))⟩;have hqd:q<d:=by have:=Int.emod_lt_of_pos (a % 18446744073709551616) (show (0:Int)<d by omega);omega
  have y1:(IntKind.u64.wrap a).tmod (d:Int)=(q:Int):=by
   rw [wrap_u64_mod,Int.tmod_eq_emod_of_nonneg (Int.emod_nonneg _ (by decide)),hq]
  have y2:IntKind.u64.wrap (d:Int)=(d:Int):=by rw[wrap_u64_mod];omega
  have y3:IntKind.i64.wrap (((d+1:Nat):Int)-1)=(d:Int):=by rw[IntWalk.i64_in _ (by omega)];omega
  have y3':IntKind.i64.wrap ((d:Int)+1-1)=(d:Int):=by rw[IntWalk.i64_in _ (by omega)];omega
  have y4:IntKind.i64.wrap (q:Int)=(q:Int):=IntWalk.i64_in _ (by omega);obtain ⟨j,hj⟩:∃j,j=1+q:=⟨_,rfl⟩;have y5:IntKind.i64.wrap (1+(q:Int))=(j:Int):=by rw[IntWalk.i64_in _ (by omega)];omega
  have y6:(0:Int)≤(j:Int):=Int.natCast_nonneg _;have y7:(j:Int)<(d:Int)+1:=by omega
  have y8:((d:Int) == 0)=false:=by simp;omega
  have y9:(d:Int)≠0:=by omega
  have hjl:j<rows.length:=by have:=HN.out;omega
  obtain ⟨g,o,rfl,hg,hc⟩:∃b o,A=some ⟨b,o,none⟩∧b<w1.heap.size∧w1.cell? ⟨b,o+j*10,none⟩=some (.string (bs rows[j].path)):=by
   rcases HAT.out with h|⟨b,o,hA,hb,hc⟩
   ·rw[h]at hjl;cases hjl
   ·exact⟨b,o,hA,hb,hc j hjl 0 (by decide)⟩
  have hpj:=HPL.out rows[j] (List.getElem_mem hjl);obtain ⟨p,hp⟩:∃p,p=rows[j].path:=⟨_,rfl⟩;rw [←hp]at hc hpj;obtain ⟨R,hR⟩:∃R,R=pathF s.t 0 0 p false:=⟨_,rfl⟩;have KF:=KP.out w1 p HE.out (by omega);rw [←hR]at KF;have KF2:Hid (Calls Tryz.prog 40 #[.pointer (some ⟨f.bF,0,none⟩),.agg #[.int .i64 0,.int .i64 0],.string (bs p),.bool false] w1 (Ret w1 (.tuple #[.agg #[.int .i64 R.1.dir,.string (bs R.1.name),.int .i64 R.1.no,.bool R.1.slash],.int .i64 R.2]))):=KF;have HRR:=Lib.hid hR;have hnm:Hid (R.1.name.length≤255):=by show _≤_;rw[hR];exact path_name _ _ _ _ _
  clear h2 hq hqd hj hjl hp hpj KF hR hd1;go_wp2_with fail;refine KF2.out.mono ?_;rintro e w2 ⟨rfl,b2⟩;go_upto_region 5 with fail;obtain ⟨W3,hW3⟩:∃W,W=w2.alloc (.cells #[.int .i64 R.1.dir,.string (bs R.1.name),.int .i64 R.1.no,.bool R.1.slash] 82):=⟨_,rfl⟩;obtain ⟨b8,hb8⟩:∃b,b=w2.heap.size:=⟨_,rfl⟩;have E3:Ext w1 W3:=by rw[hW3];exact b2.alloc _
  have X3:Has W3 b8 (.cells #[.int .i64 R.1.dir,.string (bs R.1.name),.int .i64 R.1.no,.bool R.1.slash] 82):=by rw[hW3,hb8];exact Has.new _ _
  rw [←hW3,←hb8];clear hW3 hb8 b2 hc y1 y2 y3 y3' y4 y5 y6 y7 y8 y9 hg t2 KF2;have x0:=X3.cell 0;have x1:=X3.cell 1;have xz:=X3.lt;simp only[List.getElem?_toArray,List.getElem?_cons_zero,List.getElem?_cons_succ]at x0 x1;obtain ⟨t0,_,_,t3⟩:=txt_tests (p:=R.1.name);obtain ⟨P,hP⟩:∃P,P=bs R.1.name:=⟨_,rfl⟩;rw [←hP]at x1 t0 t3;have HPP:=Lib.hid hP;clear hP X3;have fin:Hid (∀(is:Bool) (u:World),Ext W3 u→(is=true→R.2=0∧R.1.name≠[])→SpotR s.t w (.returned (.tuple #[.int .i64 R.1.dir,.string P,.bool is])) u):=by
   show ∀_ _,_;intro is u hu hi;refine ⟨R.1.dir,R.1.name,is,by rw[HPP.out],hnm.out,fun his=>?_,HE.out.trans (E3.trans hu)⟩;obtain ⟨h5,h6⟩:=hi his;exact ⟨h6,p,by rw[←HRR.out];exact h5,by rw[←HRR.out],by rw[←HRR.out]⟩
  by_cases h5:R.2=0
  case neg =>
   have t5:(R.2 == 0)=false:=by simpa using h5
   clear h5;go_quiet (fail);go_wp2_with fail;go_ret3;exact fin.out false _ ((Ext.refl _).drewN nq) (fun h=>by cases h)
  case pos =>
   have t5:(R.2 == 0)=true:=by simpa using h5
   have H5:=Lib.hid h5
   by_cases h6:R.1.name=[]
   ·have t6:(R.1.name == [])=true:=by rw[h6];rfl
    rw [t6]at t0 t3;clear h5 h6 t6;go_quiet (fail);go_wp2_with fail;go_ret3;exact fin.out false _ ((Ext.refl _).drewN nq) (fun h=>by cases h)
   ·have t6:(R.1.name == [])=false:=by simpa using h6
    have H6:=Lib.hid h6;rw [t6]at t0 t3;clear h5 h6 t6;go_quiet (fail);go_wp2_with fail;go_ret3;exact fin.out true _ ((Ext.refl _).drewN nq) (fun _=>⟨H5.out,H6.out⟩)
theorem CaseAt.ext {w w':World} {x:CaseD} {cs:Array Value} (h:CaseAt w x cs) (E:Ext w w'):CaseAt w' x cs:=by
 obtain ⟨Am,cm,Ai,ci,Ap,cp,h0,h1,h2,h3,h4⟩:=h;exact ⟨Am,cm,Ai,ci,Ap,cp,h0,h1.ext E,h2.ext E,h3.ext E,h4⟩
theorem CaseAt.cells {w:World} {x:CaseD} {cs:Array Value} (h:CaseAt w x cs):∃Am cm Ai ci Ap cp,cs=#[.slice Am x.ms.length cm,.slice Ai x.is.length ci,.int .i64 x.uid,.int .i64 x.gid,.int .i64 x.at_,.int .i64 x.to_,.string (bs x.name),.slice Ap x.plan.length cp,.bool x.keep]:=by
 obtain ⟨Am,cm,Ai,ci,Ap,cp,h0,_⟩:=h;exact ⟨Am,cm,Ai,ci,Ap,cp,h0⟩
theorem planted_sane {x:CaseD} (h:FewX x):PlE 140 (plantT x.ms x.is)∧Sane 140 ⟨plantT x.ms x.is,0,0,x.plan,false⟩:=by
 have k:=plant_ple h.1.1.1 h.1.1.2;refine ⟨k,k.plt.tre,k.plt.noe,k.plt.last,Int.le_refl _,by show (0:Int)≤_;omega,?_⟩;have:=h.2.2;show x.plan.length≤1000;omega
theorem OwnP.lies {w:World} {base:Nat} {v:Value} {l:List SpotD} (h:OwnP w base v l):∃A cap,v=.slice A l.length cap∧SpotsAt w A l∧l.length≤cap:=by
 obtain ⟨A,cap,h1,h2,_,h3,_⟩:=h.at_;exact ⟨A,cap,h1,h3,h2⟩
theorem walkOnce_any (x : CaseD) (cs:Array Value) (w:World) (h:CaseAt w x cs):Calls Tryz.prog 3 #[.agg cs] w (Ret w (.bool true)):=by
 obtain ⟨W1,hW1⟩:∃W,W=w.alloc (.cells cs 30):=⟨_,rfl⟩;obtain ⟨b1,hb1⟩:∃b,b=w.heap.size:=⟨_,rfl⟩;have E1:Ext w W1:=by rw[hW1];exact (Ext.refl _).alloc _
 have B1:Has W1 b1 (.cells cs 30):=by rw[hW1,hb1];exact Has.new _ _
 have KF:=Lib.hid (few24_any x cs W1 (h.ext E1));have KB:=Lib.hid (fun (hF:FewX x) (u:World) (hu:Ext W1 u)=>both_any x cs u ((h.ext E1).ext hu) hF);obtain ⟨Am,cm,Ai,ci,Ap,cp,rfl⟩:=h.cells;obtain ⟨nm,hnm⟩:∃n,n=x.ms.length:=⟨_,rfl⟩;obtain ⟨ni,hni⟩:∃n,n=x.is.length:=⟨_,rfl⟩;obtain ⟨np,hnp⟩:∃n,n=x.plan.length:=⟨_,rfl⟩;obtain ⟨Pn,hPn⟩:∃P,P=bs x.name:=⟨_,rfl⟩;rw [←hnm,←hni,←hnp,←hPn]at hW1 B1 KF KB⊢;have HPN:=Lib.hid hPn;have HB1:=Lib.hid B1;have c0:=B1.cell 0;have c1:=B1.cell 1;have c2:=B1.cell 2;have c3:=B1.cell 3;have c4:=B1.cell 4;have c5:=B1.cell 5;have c6:=B1.cell 6;have c7:=B1.cell 7;have c8:=B1.cell 8;have cz:=B1.lt;simp only[List.getElem?_toArray,List.getElem?_cons_zero,List.getElem?_cons_succ]at c0 c1 c2 c3 c4 c5 c6 c7 c8;clear hnm hni hnp hPn B1 h;go_enter Tryz.func3,Tryz.ntmps3;go_upto_region 1 with fail;rw [←hW1,←hb1];clear hW1 hb1;go_wp2_with fail;refine KF.out.mono ?_;rintro e w2 ⟨h2,E2⟩;clear KF;rcases h2 with⟨rfl,hF⟩|rfl
 case inr =>
  go_wp2_with fail;refine (awake24 _).mono ?_;rintro e wz ⟨rfl,bz⟩;go_wp2_with fail;go_ret;exact Ret.mk rfl ((E1.trans E2).trans bz)
 have HF:=Lib.hid hF;have KB2:=Lib.hid (KB.out hF w2 E2);have B2:=HB1.out.ext E2;clear hF KB c0 c1 c2 c3 c4 c5 c6 c7 c8 cz;have c0:=B2.cell 0;have c1:=B2.cell 1;have c2:=B2.cell 2;have c3:=B2.cell 3;have c4:=B2.cell 4;have c5:=B2.cell 5;have c6:=B2.cell 6;have c7:=B2.cell 7;have c8:=B2.cell 8;have cz:=B2.lt;simp only[List.getElem?_toArray,List.getElem?_cons_zero,List.getElem?_cons_succ]at c0 c1 c2 c3 c4 c5 c6 c7 c8;clear B2;go_wp2_with fail;refine KB2.out.mono ?_;rintro e w4 ⟨B,b,g,f,rfl,hB,hP,hR,E4⟩;obtain ⟨hpl,hs⟩:=planted_sane HF.out;obtain ⟨s,hs0⟩:∃s:SysD,s=⟨plantT x.ms x.is,0,0,x.plan,false⟩:=⟨_,rfl⟩;have hst:s.t=plantT x.ms x.is:=by rw[hs0]
 rw [←hs0]at hP hR hs;rw [←hst]at hpl;have E14:Ext W1 w4:=E2.trans E4;have HE14:=Lib.hid E14;have HP:=Lib.hid hP;have HR:=Lib.hid hR;have HS:=Lib.hid hs;have HPL:=Lib.hid hpl;have B4:=HB1.out.ext E14;have HB4:=Lib.hid B4;have KS:=Lib.hid (spot_any hR hpl x.at_);clear hB hs0 hst hP hR hs hpl KB2 E2 E4 E14 c0 c1 c2 c3 c4 c5 c6 c7 c8 cz;have c4:=B4.cell 4;have cz:=B4.lt;simp only[List.getElem?_toArray,List.getElem?_cons_zero,List.getElem?_cons_succ]at c4;clear B4;go_wp2_with fail;refine KS.out.mono ?_;rintro e w5 ⟨dir,nm0,is,rfl,_,_,E5⟩;clear KS c4 cz
 cases is with
 | false =>
  go_wp2_with fail;refine (awake24 _).mono ?_;rintro e wz ⟨rfl,bz⟩;go_wp2_with fail;go_ret;exact Ret.mk rfl (E1.trans (HE14.out.trans (E5.trans bz)))
 | true =>
  have E6:=E5;clear E5;obtain ⟨l,b0,e0,hT,hll⟩:=down_is HS.out.tre HPL.out.plt.kids x.uid x.gid dir nm0;have hl141:l.length≤141:=by have:=HPL.out.ens;omega
  have hspz:Hid (e0=0→b0=spotZ):=by
   show _→_;intro he;rcases hT with⟨h1,_,_,h2⟩|⟨_,_,h2⟩
   ·exact absurd (h2.symm.trans he) h1
   ·exact h2.err he
  have ONCE:Hid (e0=0→l.Nodup∧(upS [] l).Perm l∧(∀i,(hi:i<l.length)→i=0∨∃k,∃hk:k<i,l[k].no=l[i].dir) ∧
   (∀i,(hi:i<l.length)→i≠0→∀j,(hj:j<(upS [] l).length)→(upS [] l)[j]=l[i]→∃m,∃hm:m<(upS [] l).length,j<m∧(upS [] l)[m].no=l[i].dir)):=by
   show _→_;intro he;have hT':=hT;rw [he]at hT';exact once_is HS.out.tre HPL.out.plt.kids hT'
  obtain ⟨M,L,u1,u2,u3,u4,u5⟩:=up_is hT;have KD:=Lib.hid (fun (u:World) (hu:Ext w4 u)=>(HP.out.ext hu).down24 HS.out (by omega) x.uid x.gid dir nm0 false 1000 (by decide) (by decide) (told l b0 e0) (by have:=told_len l b0 e0;omega) (.inl ⟨rfl,l,b0,e0,hT,by omega,rfl⟩));have KU:=Lib.hid (fun (u:World) (hu:Ext w4 u)=>(HP.out.ext hu).down24 HS.out (by omega) x.uid x.gid dir nm0 true 1000 (by decide) (by decide) L (by omega) (.inr ⟨rfl,M,u1,by omega⟩));have HU0:=Lib.hid u4;have HUE:Hid (e0≠0→∃q:List SpotD,L=q.map (fun x=>(x,0))++[(b0,e0)]∧q.length≤143):=by
   show _→_;intro he;obtain ⟨q,hq⟩:=u5 he;have:=congrArg List.length hq;rw [List.length_append,List.length_map,List.length_singleton]at this;exact ⟨q,hq,by omega⟩
  have HUL:=Lib.hid (upS_is [] l).length_eq;obtain ⟨n,hn⟩:∃n,n=l.length:=⟨_,rfl⟩;have HN:=Lib.hid hn;have hn141:n≤141:=by omega
  clear hll hT u1 u2 u3 u4 u5 hn;have B6:=HB4.out.ext E6;have c2:=B6.cell 2;have c3:=B6.cell 3;have cz:=B6.lt;simp only[List.getElem?_toArray,List.getElem?_cons_zero,List.getElem?_cons_succ]at c2 c3;clear B6;go_wp2_with fail;refine (KD.out _ E6).mono ?_;rintro e w9 ⟨v1,l1,x1,e1,rfl,hR1,O9,E9⟩;obtain ⟨k1,k2,k3⟩:=r24_full hR1 (by omega) hspz.out;have k1:=k1.symm;have k2:=k2.symm;have k3:=k3.symm;subst k1;subst k2;subst k3;obtain ⟨A1,c1,hv1,hA1,_⟩:=O9.lies;rw [←HN.out]at hv1;subst hv1;have HA1:=Lib.hid hA1;clear O9 hA1 hR1 c2 c3 cz;go_upto_region 10 with fail;obtain ⟨W10,hW10⟩:∃W,W=w9.alloc (.cells #[.int .i64 b0.dir,.string (bs b0.name),.int .i64 b0.no,.int .i64 b0.depth] 41):=⟨_,rfl⟩;have E910:Ext w9 W10:=by rw[hW10];exact (Ext.refl _).alloc _
  have HE10:=Lib.hid (E6.trans (E9.trans E910));have HE910:=Lib.hid E910;rw [←hW10];clear hW10 E9 E910 E6;have B8:=HB4.out.ext HE10.out;have c2:=B8.cell 2;have c3:=B8.cell 3;have cz:=B8.lt;simp only[List.getElem?_toArray,List.getElem?_cons_zero,List.getElem?_cons_succ]at c2 c3;clear B8;go_wp2_with fail;refine (KU.out W10 HE10.out).mono ?_;rintro e w16 ⟨v4,l4,x4,e4,rfl,hR4,O16,E16⟩;clear c2 c3 cz;go_upto_region 11 with fail;obtain ⟨A4,c4',hv4,hA4,_⟩:=O16.lies;obtain ⟨W17,hW17⟩:∃W,W=w16.alloc (.cells #[.int .i64 x4.dir,.string (bs x4.name),.int .i64 x4.no,.int .i64 x4.depth] 41):=⟨_,rfl⟩;have E1617:Ext w16 W17:=by rw[hW17];exact (Ext.refl _).alloc _
  rw [←hW17];clear hW17;have HE1017:=Lib.hid (E16.trans E1617);have HA4:=Lib.hid (hA4.ext E1617);have HA1':=Lib.hid ((HA1.out.ext HE910.out).ext HE1017.out);have Ew17:=Lib.hid (E1.trans (HE14.out.trans (HE10.out.trans HE1017.out)));clear O16 hA4 E16 E1617
  by_cases he0:e0=0
  case neg =>
   have t0:(e0 != 0)=true:=by simpa using he0
   obtain ⟨q5,hq5,hq5l⟩:=HUE.out he0;rw [hq5]at hR4;obtain ⟨g1,g2⟩:=r24_upE hR4 he0 (by omega);subst g1;subst g2;clear hR4 hq5 he0 hv4;go_wp2_with fail;refine (awake24 _).mono ?_;rintro e wz ⟨rfl,bz⟩;go_wp2_with fail;go_ret;exact Ret.mk rfl (Ew17.out.trans bz)
  case pos =>
   have t0:(e0 != 0)=false:=by simpa using he0
   rw [HU0.out he0]at hR4;obtain ⟨g1,g2,g3⟩:=r24_up0 hR4 (by have:=HUL.out;simp only[List.nil_append]at this;omega);subst g1;obtain ⟨o1,o2,o3,o4⟩:=ONCE.out he0;obtain ⟨m,hm⟩:∃m,m=upS [] l:=⟨_,rfl⟩;rw [←hm]at o2 o4 hv4;have HA4:Hid (SpotsAt W17 A4 m):=by rw[hm];exact HA4
   have hml:m.length=n:=by rw[o2.length_eq,HN.out]
   rw [hml]at hv4;subst hv4;subst he0;subst g3;have HM:=Lib.hid hml;have H1:=Lib.hid o1;have H2:=Lib.hid o2;have H3:=Lib.hid o3;have H4:=Lib.hid o4;clear hR4 g2 hm hml o1 o2 o3 o4 KU KD HU0 HUE HUL ONCE t0;go_wp2_with fail;go_loopw [16] (fun vi wr=>∃i:Nat,vi=.int .i64 i∧i≤n∧Ext W17 wr) (fun vi _=>n-(intOf vi).toNat)
   case atStart=>exact⟨0,rfl,Nat.zero_le _,Ext.refl _⟩
   case round =>
    obtain ⟨i,rfl,hi,hE⟩:=hrel;obtain ⟨V,hV⟩:∃V,V=wr:=⟨_,rfl⟩;subst hV;have i0:(0:Int)≤(i:Int):=Int.natCast_nonneg _;have HE:=Lib.hid hE;clear hE
    by_cases hlt:(i:Int)<n
    case neg =>
     go_wp2_with fail;refine (awake24 _).mono ?_;rintro e wz ⟨rfl,bz⟩;go_wp2_with fail;go_ret;exact Ret.mk rfl (Ew17.out.trans (HE.out.trans bz))
    case pos =>
     have hil:i<l.length:=by have:=HN.out;omega
     obtain ⟨y,hy⟩:∃y,y=l[i]:=⟨_,rfl⟩;obtain ⟨p,hp,hpm⟩:∃p,∃hp:p<m.length,m[p]=y:=by
      have:y∈m:=H2.out.mem_iff.mpr (by rw[hy];exact List.getElem_mem hil);exact List.mem_iff_getElem.mp this
     have hun:∀q,(hq:q<m.length)→m[q]=y→q=p:=fun q hq he=>by
      have nd:m.Nodup:=H2.out.nodup_iff.mpr H1.out;exact (List.getElem_inj nd).mp (he.trans hpm.symm)
     have F1:Hid (i=0∨∃k,∃hk:k<i,l[k].no=y.dir):=by show _∨_;rw[hy];exact H3.out i hil
     have F2:Hid (i≠0→∃q,∃hq:q<m.length,p<q∧m[q].no=y.dir):=by show _→_;rw[hy];exact fun h0=>H4.out i hil h0 p hp (by rw[hpm,hy])
     have HUN:=Lib.hid hun;have HPM:=Lib.hid hpm;have HY:=Lib.hid hy;have hpn:p<n:=by rw[←HM.out];exact hp
     obtain ⟨ba,oa,rfl,hba,p0,p1,p2,p3⟩:=(HA1'.out.ext HE.out).at_ hil;rw [←hy]at p0 p1 p2 p3;obtain ⟨P,hP⟩:∃P,P=bs y.name:=⟨_,rfl⟩;rw [←hP]at p1;have HP1:=Lib.hid hP;clear hun hpm hy hP;have w1w:IntKind.i64.wrap ((i:Int)+1)=(i:Int)+1:=IntWalk.i64_in _ (by omega);go_wp2_with fail;go_loopw [17,18,19,20] (fun vu vd vc vk wq=>∃(k:Nat) (u d:Bool) (c:Int),vk=.int .i64 k∧k≤n∧vu=.bool u∧vd=.bool d∧vc=.int .i64 c∧Hid (c=if p<k then 1 else 0)∧Hid (i=0→u=true)∧Hid (∀q,(hq:q<l.length)→q<k→q<i→l[q].no=y.dir→u=true)∧Hid (i=0∨p<k→d=true)∧Ext V wq) (fun _ _ _ vk _=>n-(intOf vk).toNat)
     case atStart =>
      refine ⟨0,(i:Int) == 0,(i:Int) == 0,0,rfl,Nat.zero_le _,rfl,rfl,rfl,by show _=_;rw[if_neg (Nat.not_lt_zero p)],?_,?_,?_,Ext.refl _⟩
      ·exact fun h=>by subst h;rfl
      ·exact fun q _ h=>absurd h (Nat.not_lt_zero q)
      ·rintro (h|h)
       ·subst h;rfl
       ·exact absurd h (Nat.not_lt_zero p)
     case round =>
      obtain ⟨k,u,d,c,rfl,hk,rfl,rfl,rfl,hc,hu0,hu1,hd,hEk⟩:=hrel;obtain ⟨U,hU⟩:∃U,U=wr:=⟨_,rfl⟩;subst hU;have k0:(0:Int)≤(k:Int):=Int.natCast_nonneg _;have HEk:=Lib.hid hEk;clear hEk
      by_cases hlt2:(k:Int)<n
      case neg =>
       have hkn:k=n:=by omega
       have hu:u=true:=by
        rcases F1.out with h|⟨q,hq,he⟩
        ·exact hu0.out h
        ·exact hu1.out q (by omega) (by omega) hq he
       have hd':d=true:=hd.out (.inr (by omega));subst hu;subst hd';have hc1:c=1:=by rw[hc.out,if_pos (by omega)]
       subst hc1;clear hc hkn hu0 hu1 hd;go_wp2_with fail;go_roundw
       case rel=>exact⟨i+1,by go_num,by omega,HE.out.trans HEk.out⟩
       case measure=>simp[intOf];omega
      case pos =>
       have hkm:k<m.length:=by have:=HM.out;omega
       have hkl:k<l.length:=by have:=HN.out;omega
       have w2w:IntKind.i64.wrap ((k:Int)+1)=(k:Int)+1:=IntWalk.i64_in _ (by omega);have Ek:=HEk.out;have p0':=(Ek.cell hba).trans p0;have p1':=(Ek.cell hba).trans p1;have p2':=(Ek.cell hba).trans p2;have p3':=(Ek.cell hba).trans p3;have hba':ba<U.heap.size:=by have:=Ek.size;omega
       obtain ⟨b1',o1',hA',hb1',g0,g1,g2,g3⟩:=((HA1'.out.ext HE.out).ext Ek).at_ hkl;injection hA' with hA';injection hA' with hA1 hA2;subst hA1;subst hA2;obtain ⟨z,hz⟩:∃z,z=l[k].no:=⟨_,rfl⟩;rw [←hz]at g2;have HZ:=Lib.hid hz;have KP:Hid (∀wc,Ext U wc→ba<wc.heap.size∧wc.cell? ⟨ba,oa+i*4,none⟩=some (.int .i64 y.dir)∧wc.cell? ⟨ba,oa+i*4+1,none⟩=some (.string P)∧wc.cell? ⟨ba,oa+i*4+2,none⟩=some (.int .i64 y.no)∧wc.cell? ⟨ba,oa+i*4+3,none⟩=some (.int .i64 y.depth)):=fun wc hw=>⟨by have:=hw.size;omega,(hw.cell hba').trans p0',(hw.cell hba').trans p1',(hw.cell hba').trans p2',(hw.cell hba').trans p3'⟩
       clear p1' p2' p3' g0 g1 g3 hz Ek;go_upto_region 22 with fail;go_cut [17] (fun v wc=>∃u':Bool,v=.bool u'∧Hid (i=0→u'=true)∧Hid (∀q,(hq:q<l.length)→q<k+1→q<i→l[q].no=y.dir→u'=true)∧Ext U wc)
       case first =>
        cases u with
        | true =>
         go_quiet (fail);go_wp2_with fail;go_meet;exact ⟨true,rfl,fun _=>rfl,fun _ _ _ _ _=>rfl,(Ext.refl _).drewN nq⟩
        | false =>
         by_cases hki:(k:Int)<i
         ·by_cases hzy:z=y.dir
          ·have t1:(z == y.dir)=true:=by simpa using hzy
           clear hzy;go_quiet (fail);go_wp2_with fail;go_meet;exact ⟨true,rfl,fun _=>rfl,fun _ _ _ _ _=>rfl,(Ext.refl _).drewN nq⟩
          ·have t1:(z == y.dir)=false:=by simpa using hzy
           have HZY:=Lib.hid hzy;clear hzy;go_quiet (fail);go_wp2_with fail;go_meet;refine ⟨false,rfl,hu0,fun q hq h1 h2 h3=>?_,(Ext.refl _).drewN nq⟩;rcases Nat.lt_or_ge q k with h|h
           ·exact hu1.out q hq h h2 h3
           ·have:q=k:=by omega
            subst this;exact absurd (HZ.out.trans h3) HZY.out
         ·go_quiet (fail)
          go_wp2_with fail;go_meet;exact ⟨false,rfl,hu0,fun q hq h1 h2 h3=>hu1.out q hq (by omega) h2 h3,(Ext.refl _).drewN nq⟩
       case rest =>
        obtain ⟨u',rfl,hu0',hu1',hEc⟩:=hcut;clear hu0 hu1 p0' g2 hb1' hba';obtain ⟨hbc,p0',p1',p2',p3'⟩:=KP.out wc hEc;obtain ⟨bb,ob,rfl,hbb,g0,g1,g2,g3⟩:=(((HA4.out.ext HE.out).ext HEk.out).ext hEc).at_ hkm;obtain ⟨x9,hx9⟩:∃x,x=m[k]:=⟨_,rfl⟩;rw [←hx9]at g0 g1 g2 g3;have HX9:=Lib.hid hx9;have HUc:=Lib.hid hEc;have HEc:=Lib.hid (HEk.out.trans hEc);clear hx9 hEc
        by_cases hxy:x9=y
        case neg =>
         have hfour : (x9.dir == y.dir)=false∨((x9.dir == y.dir)=true∧(((bs x9.name).toList == P.toList)=false∨(((bs x9.name).toList == P.toList)=true∧((x9.no == y.no)=false∨((x9.no == y.no)=true∧(x9.depth == y.depth)=false))))):=by
          cases t1:(x9.dir == y.dir)
          ·exact .inl rfl
          ·refine .inr ⟨rfl,?_⟩
           cases t2:((bs x9.name).toList == P.toList)
           ·exact .inl rfl
           ·refine .inr ⟨rfl,?_⟩
            cases t3:(x9.no == y.no)
            ·exact .inl rfl
            ·refine .inr ⟨rfl,?_⟩
             cases t4:(x9.depth == y.depth)
             ·rfl
             ·exfalso
              refine hxy ?_;have a1:x9.dir=y.dir:=by simpa using t1
              have a2:(bs x9.name).toList=(bs y.name).toList:=by rw[←HP1.out];simpa using t2
              have a3:x9.no=y.no:=by simpa using t3
              have a4:x9.depth=y.depth:=by simpa using t4
              rw [ByteArray.toList_eq,ByteArray.toList_eq,bs_list,bs_list]at a2
              cases x9;cases y
              simp_all
         have hkp:k≠p:=by
          rintro rfl;exact hxy (HX9.out.trans HPM.out)
         clear hxy;go_upto_region 23 with fail;go_cut [123] (fun v w2=>v=.bool false∧Ext wc w2)
         case first =>
          rcases hfour with t1|⟨t1,t2|⟨t2,t3|⟨t3,t4⟩⟩⟩
          all_goals
           go_quiet (fail);go_wp2_with fail;go_meet;exact ⟨rfl,(Ext.refl _).drewN nq⟩
         case rest =>
          obtain ⟨rfl,hE2⟩:=hcut;have hE3:=HEc.out.trans hE2;clear p0' p1' p2' p3' g0 g1 g2 g3 hbb hbc hfour hE2;go_wp2_with fail;go_roundw
          case rel =>
           refine ⟨k+1,u',d,c,by go_num,by omega,rfl,rfl,rfl,?_,hu0',hu1',?_,hE3⟩
           ·show _=_
            rw [hc.out]
            by_cases h1:p<k
            ·rw[if_pos h1,if_pos (by omega)]
            ·rw[if_neg h1,if_neg (by omega)]
           ·rintro (h|h)
            ·exact hd.out (.inl h)
            ·exact hd.out (.inr (by omega))
          case measure=>simp[intOf];omega
        case pos =>
         have hkp:k=p:=HUN.out k hkm (HX9.out.symm.trans hxy);have hc0:c=0:=by rw[hc.out,if_neg (by omega)]
         have HKP:=Lib.hid hkp;subst hc0;subst hxy;clear hkp;rw [←HP1.out]at g1;clear hc;go_upto_region 23 with fail;obtain ⟨WB,hWB⟩:∃V,V=wc:=⟨_,rfl⟩;subst hWB;go_cut [123] (fun v w2=>v=.bool true∧Ext WB w2)
         case first =>
          go_quiet (fail);go_wp2_with fail;go_meet;exact ⟨rfl,(Ext.refl _).drewN nq⟩
         case rest =>
          obtain ⟨rfl,hE2⟩:=hcut;obtain ⟨WC,hWC⟩:∃V,V=wc:=⟨_,rfl⟩;subst hWC;have hEc2:=HEc.out.trans hE2;have hUc2:=HUc.out.trans hE2;have HEc:=Lib.hid hEc2;have HUc:=Lib.hid hUc2;clear g0 g1 g2 g3 hbb hbc p0' p1' p2' p3' hE2 hEc2 hUc2;go_wp2_with fail;go_loopw [18,21] (fun vd vj wq=>∃(j:Nat) (d':Bool),vj=.int .i64 j∧j≤n∧vd=.bool d'∧Hid (i=0→d'=true)∧Hid (∀q,(hq:q<m.length)→p<q→q<j→m[q].no=x9.dir→d'=true)∧Ext WC wq) (fun _ vj _=>n-(intOf vj).toNat)
          case atStart=>exact⟨k+1,d,by go_num,by omega,rfl,fun h=>hd.out (.inl h),fun q _ h1 h2=>absurd h2 (by have:=HKP.out;omega),Ext.refl _⟩
          case round =>
           obtain ⟨j,d',rfl,hj,rfl,hd0,hd1,hEj⟩:=hrel;have j0:(0:Int)≤(j:Int):=Int.natCast_nonneg _;have HEj:=Lib.hid hEj;clear hEj
           by_cases hlt3:(j:Int)<n
           case neg =>
            have hd':d'=true:=by
             by_cases h0:i=0
             ·exact hd0.out h0
             ·obtain ⟨q,hq,h1,h2⟩:=F2.out h0
              exact hd1.out q hq h1 (by have:=HM.out;omega) h2
            subst hd';clear hd0 hd1;go_wp2_with fail;go_roundw
            case rel =>
             refine ⟨k+1,u',true,1,by go_num,by omega,rfl,rfl,rfl,?_,hu0',hu1',fun _=>rfl,HEc.out.trans HEj.out⟩;show _=_;rw [if_pos (by have:=HKP.out;omega)]
            case measure=>simp[intOf];omega
           case pos =>
            have hjm:j<m.length:=by have:=HM.out;omega
            have w3w:IntKind.i64.wrap ((j:Int)+1)=(j:Int)+1:=IntWalk.i64_in _ (by omega)
            cases d' with
            | true =>
             clear hd0 hd1;go_upto_region 28 with fail;go_quiet (fail);have EQ:=Lib.hid ((Ext.refl wr).drewN nq);go_wp2_with fail;go_roundw
             case rel=>exact⟨j+1,true,by go_num,by omega,rfl,fun _=>rfl,fun _ _ _ _ _=>rfl,HEj.out.trans EQ.out⟩
             case measure=>simp[intOf];omega
            | false =>
             obtain ⟨bj,oj,hAj,hbj,_,_,g2,_⟩:=((((HA4.out.ext HE.out).ext HEc.out)).ext HEj.out).at_ hjm;injection hAj with hAj;injection hAj with hAj1 hAj2;subst hAj1;subst hAj2;obtain ⟨hbc,p0',_,_,_⟩:=KP.out wr (HUc.out.trans HEj.out);obtain ⟨z2,hz2⟩:∃z,z=m[j].no:=⟨_,rfl⟩;rw [←hz2]at g2;have HZ2:=Lib.hid hz2;clear hz2
             by_cases hzy:z2=x9.dir
             ·have t1:(z2 == x9.dir)=true:=by simpa using hzy
              clear hzy hd0 hd1;go_upto_region 28 with fail;go_quiet (fail);have EQ:=Lib.hid ((Ext.refl wr).drewN nq);go_wp2_with fail;go_roundw
              case rel=>exact⟨j+1,true,by go_num,by omega,rfl,fun _=>rfl,fun _ _ _ _ _=>rfl,HEj.out.trans EQ.out⟩
              case measure=>simp[intOf];omega
             ·have t1:(z2 == x9.dir)=false:=by simpa using hzy
              have HZY:=Lib.hid hzy;clear hzy;go_upto_region 28 with fail;go_quiet (fail);have EQ:=Lib.hid ((Ext.refl wr).drewN nq);go_wp2_with fail;go_roundw
              case rel =>
               refine ⟨j+1,false,by go_num,by omega,rfl,hd0,fun q hq h1 h2 h3=>?_,HEj.out.trans EQ.out⟩;rcases Nat.lt_or_ge q j with h|h
               ·exact hd1.out q hq h1 h h3
               ·have:q=j:=by omega
                subst this;exact absurd (HZ2.out.trans h3) HZY.out
              case measure=>simp[intOf];omega
theorem walkOnce_walk {H:Type} {enc:TypeId×Value→H} (W:World) (base:Nat) (v0:Value) (d0:DataW H) (p0:List MemPlace)
  (k0:Value.okWide Tryz.prog W .any base 30 v0) (h0:DataW.Trod enc Tryz.prog W 0 (fun _=>true) true 30 v0 d0 p0)
  : Calls Tryz.prog 3 #[v0] W (Ret W (.bool true)):=by
 obtain ⟨x,cs,rfl,hx⟩:=open_Case k0 h0;exact walkOnce_any x cs W hx
end Go.Proofs.YtpibnfdolojpcaaGreat
