import Derived.Test.YtpibnfdolojpcaaGreatBunL
import Derived.Test.YtpibnfdolojpcaaGreatBunN
import Derived.Test.YtpibnfdolojpcaaGreatBunI
import Derived.Test.YtpibnfdolojpcaaGreatBunS
import Derived.Test.YtpibnfdolojpcaaGreatBunR
import Derived.Test.YtpibnfdolojpcaaGreatBunV
import Derived.Test.YtpibnfdolojpcaaGreatBunC
import Derived.Test.YtpibnfdolojpcaaGreatBunU
import Derived.Test.YtpibnfdolojpcaaGreatBunQ
import Derived.OpenShut
set_option maxHeartbeats 16000000
set_option maxRecDepth 100000
namespace Go.Proofs.YtpibnfdolojpcaaGreat
open Go.ChangeShapes Go.WideShapes Go.ChangeAt Go.RowKit
def seekG (S:TreeD) (cu cg:Int) (fol:Bool):Nat→Int→List (List UInt8)→Nat→Bool→Option (FndD×Int)
 | 0,_,_,_,_=>none
 | _+1,at_,[],_,_=>some (⟨0,[],at_,true⟩,0)
 | n + 1,at_,p::l,h,m =>
  if stepE S cu cg at_ p≠0 then some (fndZ,stepE S cu cg at_ p)
  else if p=[46,46] then seekG S cu cg fol n (aboveF S at_) l h m
  else if isN S.nodes (stepN S at_ p)=false then (if l=[] then some (⟨at_,p,0,m⟩,0) else some (fndZ,5))
  else if (getN S.nodes (stepN S at_ p)).kind=3∧(l≠[]∨m=true∨fol=true) then
   (if 8<h+1 then some (fndZ,12) else if (getN S.nodes (stepN S at_ p)).data=[] then some (fndZ,5)
    else seekG S cu cg fol n (if (getN S.nodes (stepN S at_ p)).data.head?=some 47 then 1 else at_) (partsN (getN S.nodes (stepN S at_ p)).data++l) (h+1) (m || (l.isEmpty&&slashB (getN S.nodes (stepN S at_ p)).data)))
  else if (getN S.nodes (stepN S at_ p)).kind≠1∧(l≠[]∨m=true) then some (fndZ,9)
  else if l=[] then some (⟨at_,p,stepN S at_ p,m⟩,0)
  else seekG S cu cg fol n (stepN S at_ p) l h m
theorem seekG_eq {S:TreeD} {cu cg:Int} {fol:Bool} {r:FndD×Int}:∀(n:Nat) (at_:Int) (l:List (List UInt8)) (h:Nat) (m:Bool),seekG S cu cg fol n at_ l h m=some r→seekF S cu cg fol at_ l h m=r
 | 0,_,_,_,_,k=>by cases k
 | n+1,at_,[],h,m,k=>by rw[seek_nil];unfold seekG at k;injection k
 | n + 1, at_, p::l,h,m,k=>by
  unfold seekG at k;rw [seekF];split at k
  ·rename_i c1;rw[if_pos c1];injection k
  ·rename_i c1
   rw [if_neg c1];split at k
   ·rename_i c2;rw[if_pos c2];exact seekG_eq n _ _ _ _ k
   ·rename_i c2
    rw [if_neg c2];split at k
    ·rename_i c3
     rw [if_pos c3];split at k
     ·rename_i c4;rw[if_pos c4];injection k
     ·rename_i c4;rw[if_neg c4];injection k
    ·rename_i c3
     rw [if_neg c3];split at k
     ·rename_i c4
      rw [if_pos c4];split at k
      ·rename_i c5;rw[dif_pos c5];injection k
      ·rename_i c5
       rw [dif_neg c5];split at k
       ·rename_i c6;rw[if_pos c6];injection k
       ·rename_i c6;rw[if_neg c6];exact seekG_eq n _ _ _ _ k
     ·rename_i c4
      rw [if_neg c4];split at k
      ·rename_i c5;rw[if_pos c5];injection k
      ·rename_i c5
       rw [if_neg c5];split at k
       ·rename_i c6;rw[if_pos c6];injection k
       ·rename_i c6;rw[if_neg c6];exact seekG_eq n _ _ _ _ k
def ex15A:ItemD:=⟨0,[100],1,448,0,0,[],0⟩
def ex15B:ItemD:=⟨0,[108],3,0,0,0,[100,47],0⟩
def ex15C:ItemD:=⟨1,[120],2,0,0,0,[],0⟩
def b15:TreeD:=growAll (firstT 99 99) [ex15A,ex15B,ex15C]
def pathG (S:TreeD) (cu cg:Int) (p:List UInt8) (fol:Bool):Option (FndD×Int):=if pathN p=0 then seekG S cu cg fol 40 1 (partsN p) 0 (slashB p) else some (fndZ,pathN p)
theorem pathG_eq {S:TreeD} {cu cg:Int} {p:List UInt8} {fol:Bool} {r:FndD×Int} (h:pathG S cu cg p fol=some r):pathF S cu cg p fol=r:=by
 unfold pathG at h;unfold pathF;split
 ·rename_i h1;rw[if_pos h1]at h;exact seekG_eq _ _ _ _ _ h
 ·rename_i h1;rw[if_neg h1]at h;injection h
def mntG (S:TreeD) (m:MntD):Option TreeD:=
 match pathG S 0 0 m.path false with
 | none=>none
 | some r=>some (if r.2≠0 then S
  else if r.1.no=0 then (if chgE S 0 0 0 (.mkdir r.1.dir r.1.name 493)=0 then mountT (chgT S 0 0 0 (.mkdir r.1.dir r.1.name 493)) (chgN S 0 0 0 (.mkdir r.1.dir r.1.name 493)) m.b m.n else chgT S 0 0 0 (.mkdir r.1.dir r.1.name 493))
  else mountT S r.1.no m.b m.n)
theorem mntG_eq {S T:TreeD} {m:MntD} (h:mntG S m=some T):mntT S m=T:=by
 unfold mntG at h;split at h
 ·cases h
 ·rename_i r hr
  injection h with h;have hp:mntP S m=r:=pathG_eq hr;unfold mntT mntC;rw [hp];exact h
def mntsG (S:TreeD):List MntD→Option TreeD
 | []=>some S
 | m::l=>if topB m=true then mntsG S l else match mntG S m with|none=>none|some T=>mntsG T l
theorem mntsG_eq {S T:TreeD} {l:List MntD} (h:mntsG S l=some T):mntsT S l=T:=by
 induction l generalizing S with
 | nil=>injection h
 | cons m l ih =>
  unfold mntsG at h;unfold mntsT;rw [List.foldl_cons];split at h
  ·rename_i h1;rw[if_pos h1];exact ih h
  ·rename_i h1
   rw [if_neg h1];split at h
   ·cases h
   ·rename_i T1 h2;rw[mntG_eq h2];exact ih h
def itmG (S:TreeD) (it:ItmD):Option (TreeD×Int):=
 match pathG S 0 0 it.path false,(if it.kind=4 then pathG S 0 0 it.data false else some (fndZ,1)) with
 | some r,some y =>
  let c:Option Chg:=if r.2≠0 then none else if r.1.no≠0 then none
   else if it.kind=1 then some (.mkdir r.1.dir r.1.name 493)
   else if it.kind=2 then some (.create r.1.dir r.1.name 420 it.data)
   else if it.kind=3 then some (.symlink r.1.dir r.1.name it.data)
   else if it.kind=4 then (if y.2=0 then some (.link y.1.no r.1.dir r.1.name) else none)
   else none
  let T:=match c with|some x=>chgT S 0 0 0 x|none=>S
  let n:=match c with|some x=>chgN S 0 0 0 x|none=>if r.2=0∧r.1.no≠0∧it.kind=1∧(getN S.nodes r.1.no).kind=1 then r.1.no else 0
  some (dressT T n it,n)
 | _,_=>none
theorem itmG_eq {S:TreeD} {it:ItmD} {r:TreeD×Int} (h:itmG S it=some r):dressT (itmT S it) (itmN S it) it=r.1∧itmN S it=r.2:=by
 unfold itmG at h;split at h
 case h_2=>cases h
 rename_i r1 y h1 h2;have hp:itmP S it=r1:=pathG_eq h1;have hc:itmC S it=(if r1.2≠0 then none else if r1.1.no≠0 then none
   else if it.kind=1 then some (.mkdir r1.1.dir r1.1.name 493)
   else if it.kind=2 then some (.create r1.1.dir r1.1.name 420 it.data)
   else if it.kind=3 then some (.symlink r1.1.dir r1.1.name it.data)
   else if it.kind=4 then (if y.2=0 then some (.link y.1.no r1.1.dir r1.1.name) else none)
   else none):=by
  unfold itmC;rw [hp]
  by_cases h4:it.kind=4
  ·rw [if_pos h4]at h2
   have hl:itmL S it=y:=pathG_eq h2;rw [hl]
  ·rw[if_neg h4,if_neg h4]
 injection h with h;unfold itmT itmN;rw [hc,hp,←h];exact ⟨rfl,rfl⟩
def itemsG (S:TreeD) (ns:List Int):List ItmD→Option (TreeD×List Int)
 | []=>some (S,ns)
 | it::l=>match itmG S it with|none=>none|some r=>itemsG r.1 (ns++[r.2]) l
theorem itemsG_eq {S:TreeD} {ns:List Int} {l:List ItmD} {r:TreeD×List Int} (h:itemsG S ns l=some r):itemsS (S,ns) l=r:=by
 induction l generalizing S ns with
 | nil=>injection h
 | cons it l ih =>
  unfold itemsG at h;unfold itemsS;rw [List.foldl_cons];split at h
  ·cases h
  ·rename_i r1 h1
   obtain ⟨k1,k2⟩:=itmG_eq h1;have:itemS (S,ns) it=(r1.1,ns++[r1.2]):=by unfold itemS;rw[k1,k2]
   rw [this];exact ih h
def plantG (ms:List MntD) (is:List ItmD):Option TreeD:=
 match mntsG (seed0 ms) ms with
 | none=>none
 | some T=>match itemsG T [] is with|none=>none|some r=>some (timesT r.1 (r.2.zip is))
theorem plantG_eq {ms:List MntD} {is:List ItmD} {T:TreeD} (h:plantG ms is=some T):plantT ms is=T:=by
 unfold plantG at h;split at h
 ·cases h
 ·rename_i T1 h1
  split at h
  ·cases h
  ·rename_i r h2
   injection h with h;unfold plantT seed2;rw [mntsG_eq h1,itemsG_eq h2,h]
def downG (S:TreeD) (cu cg:Int):Nat→List SpotD→Option (List SpotD×SpotD×Int)
 | 0,_=>none
 | _+1,[]=>some ([],spotZ,0)
 | n+1,x::t=>if intoE S cu cg x≠0 then some ([],x,intoE S cu cg x) else
  match downG S cu cg n (intoL S cu cg x++t) with|none=>none|some r=>some (x::r.1,r.2)
theorem downG_eq {S:TreeD} {cu cg:Int}:∀{n:Nat} {t:List SpotD} {r:List SpotD×SpotD×Int},downG S cu cg n t=some r→DownR S cu cg t r.1 r.2.1 r.2.2
 | 0,_,_,h=>by cases h
 | n+1,[],r,h=>by injection h with h;subst h;exact .nil
 | n + 1,x::t,r,h=>by
  unfold downG at h;split at h
  ·rename_i h1;injection h with h;subst h;exact .bad h1
  ·rename_i h1
   split at h
   ·cases h
   ·rename_i r1 h2;injection h with h;subst h;exact .step (Decidable.not_not.1 h1) (downG_eq h2)
theorem map0_inj {a b:List SpotD} (h:a.map (fun y=>(y,(0:Int)))=b.map (fun y=>(y,(0:Int)))):a=b:=by
 have:=congrArg (List.map Prod.fst) h;have e:(Prod.fst∘fun y:SpotD=>(y,(0:Int)))=id:=rfl;rw [List.map_map,List.map_map,e,List.map_id,List.map_id]at this;exact this
theorem map0_mem {l:List SpotD} {y:SpotD×Int} (h:y∈l.map (fun y=>(y,(0:Int)))):y.2=0:=by
 obtain ⟨z,_,rfl⟩:=List.mem_map.1 h;rfl
theorem told_zero0 (l:List SpotD) (b:SpotD):told l b 0=l.map (fun x=>(x,0)):=by unfold told;rw[if_pos rfl,List.append_nil]
theorem told_eq {l lst:List SpotD} {b:SpotD} {e:Int} (h:told l b e=lst.map (fun y=>(y,(0:Int)))):e=0∧lst=l:=by
 have he:e=0:=by
  rcases Decidable.em (e=0) with he|he
  ·exact he
  ·have hm:(b,e)∈told l b e:=by unfold told;rw[if_neg he];simp
   rw [h]at hm;exact absurd (map0_mem hm) he
 subst he;rw [told_zero0]at h;exact ⟨rfl,(map0_inj h).symm⟩
theorem r24_full {l lst:List SpotD} {b x:SpotD} {e0 e:Int} {m:Nat} (h:R24 (told l b e0) m lst x e) (hl:l.length+1<m) (hb:e0=0→b=spotZ):lst=l∧x=b∧e=e0:=by
 rcases h with⟨h1,h2,rfl,rfl⟩|⟨h1,h2,h3⟩|⟨h1,h2,rfl,rfl⟩
 ·obtain ⟨k1,k2⟩:=told_eq h1
  exact ⟨k2,(hb k1).symm,k1.symm⟩
 ·obtain ⟨k1,_,k3⟩:=told_last h1 h2
  injection k1 with k1 k2;exact ⟨map0_inj k3,k1,k2⟩
 ·have:=h1.length_le
  have:=told_len l b e0;rw [List.length_map]at *;omega
theorem r24_first {l lst:List SpotD} {b x:SpotD} {e0 e:Int} {m:Nat} (h:R24 (told l b e0) m lst x e):lst=l.take m:=by
 rcases h with⟨h1,h2,rfl,rfl⟩|⟨h1,h2,h3⟩|⟨h1,h2,rfl,rfl⟩
 ·obtain ⟨_,k2⟩:=told_eq h1
  rw [←k2,List.take_of_length_le (by omega)]
 ·obtain ⟨_,_,k3⟩:=told_last h1 h2
  rw [←map0_inj k3,List.take_of_length_le (by omega)]
 ·have hml:m≤l.length:=by
   rcases Decidable.em (e0=0) with he|he
   ·subst he
    rw [told_zero0]at h1;have:=h1.length_le;rw [List.length_map,List.length_map]at this;omega
   ·have:=h1.length_le
    have h5:=told_len l b e0;rw [List.length_map]at this;rcases Nat.lt_or_ge l.length m with hlt|hge
    ·exfalso
     have hlen:(lst.map fun y=>(y,(0:Int))).length=(told l b e0).length:=by rw[List.length_map];omega
     have:=h1.eq_of_length hlen;exact he (told_eq this.symm).1
    ·exact hge
  have hp:lst.map (fun y=>(y,(0:Int))) <+: l.map (fun y=>(y,(0:Int))):=by
   refine List.prefix_of_prefix_length_le h1 ?_ (by rw[List.length_map,List.length_map];omega);unfold told;exact List.prefix_append _ _
  have h6:=List.prefix_iff_eq_take.1 hp;rw [List.length_map,←List.map_take,h2]at h6;exact map0_inj h6
theorem r24_up0 {L lst:List SpotD} {x:SpotD} {e:Int} {m:Nat} (h:R24 (L.map fun y=>(y,0)) m lst x e) (hl:L.length<m):lst=L∧x=spotZ∧e=0:=by
 rcases h with⟨h1,h2,rfl,rfl⟩|⟨h1,h2,h3⟩|⟨h1,h2,rfl,rfl⟩
 ·exact⟨(map0_inj h1).symm,rfl,rfl⟩
 ·obtain ⟨t,ht⟩:=h1
  have hm:(x,e)∈L.map fun y=>(y,(0:Int)):=by rw[←ht];simp
  exact absurd (map0_mem hm) h2
 ·have:=h1.length_le
  rw [List.length_map,List.length_map]at this;omega
theorem r24_upE {q lst:List SpotD} {b x:SpotD} {e0 e:Int} {m:Nat} (h:R24 (q.map (fun y=>(y,0))++[(b,e0)]) m lst x e) (he:e0≠0) (hl:q.length+1<m):x=b∧e=e0:=by
 have h':R24 (told q b e0) m lst x e:=by unfold told;rw[if_neg he];exact h
 exact (r24_full h' hl (fun k=>absurd k he)).2
theorem upS_perm:∀(n:Nat) (w l:List SpotD),2*l.length+w.length≤n→(upS w l).Perm (w++l):=by
 intro n
 induction n with
 | zero =>
  intro w l h
  cases w with
  | nil =>
   cases l with
   | nil=>rw[upS];exact List.Perm.refl _
   | cons y l=>simp at h
  | cons x w=>simp at h
 | succ n ih =>
  intro w l h
  cases l with
  | nil =>
   cases w with
   | nil=>rw[upS];exact List.Perm.refl _
   | cons x w =>
    rw [upS];exact (ih w [] (by simp at h⊢;omega)).cons x
  | cons y l =>
   cases w with
   | nil =>
    rw [upS];exact ih [y] l (by simp at h⊢;omega)
   | cons x w =>
    rw [upS];split
    ·exact (ih w (y::l) (by simp at h⊢;omega)).cons x
    ·refine (ih (y::x::w) l (by simp at h⊢;omega)).trans ?_
     exact (List.perm_middle (a:=y) (l₁:=x::w) (l₂:=l)).symm
theorem upS_is (w l:List SpotD):(upS w l).Perm (w++l):=upS_perm _ w l (Nat.le_refl _)
theorem RowAt.of_has {α:Type} {R:RowK α} {w:World} {b:Nat} {l:List α} (h:Has w b (.cells (R.cells l).toArray R.t)):RowAt R w (some ⟨b,0,none⟩) l:=.inr ⟨b,0,rfl,h.lt,fun i hi j hj=>by rw[Nat.zero_add,h.cell,gA];exact R.cells_get l i hi j hj⟩
def awkI:List ItmD:=[⟨[47,100],1,493,0,0,0,[]⟩,⟨[47,100,47,121],2,0,0,0,0,[]⟩,⟨[47,100,47,120],2,0,0,0,0,[]⟩]
def awkT:TreeD:=(plantG [] awkI).getD emptyT
theorem awk_plant:plantT [] awkI=awkT:=plantG_eq (by kernel_rfl)
def awkL:List SpotD:=[⟨1,[100],2,0⟩,⟨2,[120],4,1⟩,⟨2,[121],3,1⟩]
abbrev awkS:SysD:=⟨awkT,0,0,[],false⟩
theorem awk_first:firstX awkS 0 0 1 [100]=⟨1,[100],2,0⟩∧firstE awkS 0 0 1 [100]=0∧firstE awkS 0 0 1 [101]=5:=⟨by kernel_rfl,by kernel_rfl,by kernel_rfl⟩
theorem awk_down:DownT awkS 0 0 1 [100] awkL spotZ 0:=.inr ⟨awk_first.2.1,rfl,by
 rw [awk_first.1];exact downG_eq (n:=9) (r:=(awkL,spotZ,0)) (by kernel_rfl)⟩
theorem awk_none:DownT awkS 0 0 1 [101] [] (firstX awkS 0 0 1 [101]) 5:=.inl ⟨by rw[awk_first.2.2];decide,rfl,rfl,awk_first.2.2.symm⟩
theorem awk_up:upS [] awkL=[⟨2,[120],4,1⟩,⟨2,[121],3,1⟩,⟨1,[100],2,0⟩]:=by
 unfold awkL;rw [upS_start,upS_push (by decide),upS_pop (by decide),upS_push (by decide),upS_nil,upS_nil,upS_none]
theorem awk_sane:Sane 140 awkS:=by
 have k:Plt 140 awkT:=by rw[←awk_plant];exact (plant_ple (by decide) (by decide)).plt
 exact k.sane (Int.le_refl _) (by decide)
theorem awake24 (w:World):Calls Tryz.prog 11 #[] w (Ret w (.bool true)):=by
 obtain ⟨W1,hW1⟩:∃W,W=w.alloc (.cells (rowT.cells awkI).toArray 72):=⟨_,rfl⟩;obtain ⟨b1,hb1⟩:∃b,b=w.heap.size:=⟨_,rfl⟩;have E1:Ext w W1:=by rw[hW1];exact (Ext.refl _).alloc _
 have B1:Has W1 b1 (.cells (rowT.cells awkI).toArray 72):=by rw[hW1,hb1];exact Has.new _ _
 have KP:=zH (pplant_any none [] 0 (some ⟨b1,0,none⟩) awkI 3 W1 (.inl rfl) (RowAt.of_has (R:=rowT) B1) (by decide) (by decide) (fun m hm=>by cases hm) (by decide));have hW1':w.alloc (.cells #[.string ⟨#[47,100]⟩,.int .i64 1,.int .i64 493,.int .i64 0,.int .i64 0,.int .i64 0,.string ⟨#[]⟩,.string ⟨#[47,100,47,121]⟩,.int .i64 2,.int .i64 0,.int .i64 0,.int .i64 0,.int .i64 0,.string ⟨#[]⟩,.string ⟨#[47,100,47,120]⟩,.int .i64 2,.int .i64 0,.int .i64 0,.int .i64 0,.int .i64 0,.string ⟨#[]⟩] 72)=W1:=hW1.symm;clear hW1;go_enter Tryz.func11,Tryz.ntmps11;go_wp2_with fail;rw [←hb1];clear hW1' hb1 B1;refine KP.out.mono ?_;rintro e w2 ⟨b,B,g,rfl,hB,P2,E2⟩;rw [awk_plant]at P2;clear KP;have HP:=zH P2;have HE2:=zH (E1.trans E2);have K1:=zH (fun (u:World) (hu:Ext w2 u)=>(P2.ext hu).down24 awk_sane (by omega) 0 0 1 [100] false 99 (by decide) (by decide) (told awkL spotZ 0) (by decide) (.inl ⟨rfl,awkL,spotZ,0,awk_down,by decide,rfl⟩));obtain ⟨M,L,u1,u2,u3,u4,_⟩:=up_is awk_down;have K2:=zH (fun (u:World) (hu:Ext w2 u)=>(P2.ext hu).down24 awk_sane (by omega) 0 0 1 [100] true 99 (by decide) (by decide) L (by have:awkL.length=3:=rfl;omega) (.inr ⟨rfl,M,u1,by have:awkL.length=3:=rfl;omega⟩));have HL:=zH (u4 rfl);have K3:=zH (fun (u:World) (hu:Ext w2 u)=>(P2.ext hu).down24 awk_sane (by omega) 0 0 1 [101] false 99 (by decide) (by decide) (told [] (firstX awkS 0 0 1 [101]) 5) (by decide) (.inl ⟨rfl,[],_,5,awk_none,by decide,rfl⟩));clear P2 E1 E2 u1 u2 u3 u4;go_wp2_with fail;refine (K1.out _ (Ext.refl _)).mono ?_;rintro e w3 ⟨v3,l3,x3,e3,rfl,hR3,O3,E3⟩;obtain ⟨rfl,rfl,rfl⟩:=r24_full hR3 (by decide) (fun _=>rfl);have HO3:=zH O3;have HE3:=zH E3;obtain ⟨A3,c3,hv3,_,_,hA3,_⟩:=O3.at_;have hv3':v3=.slice A3 3 c3:=hv3;have HA3:=zH hA3;clear K1 O3 E3 hR3 hv3 hA3;subst hv3';go_wp2_with fail;have E4:=zH (HE3.out.alloc (.cells (spotC spotZ).toArray 41));refine (K2.out _ E4.out).mono ?_;rintro e w5 ⟨v5,l5,x5,e5,rfl,hR5,O5,E5⟩;rw [HL.out,awk_up]at hR5
 obtain ⟨rfl,rfl,rfl⟩:=r24_up0 hR5 (by decide);obtain ⟨A5,c5,hv5,_,_,hA5,_⟩:=O5.at_;have hv5':v5=.slice A5 3 c5:=hv5;have HA5:=zH hA5;have HE5:=zH E5;clear K2 O5 E5 hR5 hv5 hA5 HL;subst hv5';go_wp2_with fail;have E6:=zH ((E4.out.trans HE5.out).alloc (.cells (spotC spotZ).toArray 41));refine (K3.out _ E6.out).mono ?_;rintro e w7 ⟨v7,l7,x7,e7,rfl,hR7,O7,E7⟩;obtain ⟨rfl,rfl,rfl⟩:=r24_full hR7 (by decide) (fun h=>by cases h);have HE7:=zH E7;obtain ⟨X,hX⟩:∃X,X=firstX awkS 0 0 1 [101]:=⟨_,rfl⟩;rw [←hX];clear K3 O7 E7 hR7 hX;go_upto_region 7 with fail;obtain ⟨W8,hW8⟩:∃W,W=w7.alloc (.cells #[.int .i64 X.dir,.string (bs X.name),.int .i64 X.no,.int .i64 X.depth] 41):=⟨_,rfl⟩;have E78:Ext w7 W8:=by rw[hW8];exact (Ext.refl _).alloc _
 have E58:Ext w5 W8:=(((Ext.refl w5).alloc _).trans HE7.out).trans E78;have E38:Ext w3 W8:=(((Ext.refl w3).alloc _).trans HE5.out).trans E58;have Ew8:Ext w W8:=(HE2.out.trans (E6.out.trans HE7.out)).trans E78;rw [←hW8];clear hW8;obtain ⟨g3,o3,hg3,z3,a0,a1,a2,a3⟩:=(HA3.out.ext E38).at_ (k:=0) (by decide);obtain ⟨g3',o3',hg3',_,b0,b1,b2,b3⟩:=(HA3.out.ext E38).at_ (k:=1) (by decide);rw [hg3]at hg3';injection hg3' with hg3';injection hg3' with h1 h2;subst h1 h2;obtain ⟨g5,o5,hg5,z5,d0,d1,d2,d3⟩:=(HA5.out.ext E58).at_ (k:=0) (by decide);obtain ⟨g5',o5',hg5',_,f0,f1,f2,f3⟩:=(HA5.out.ext E58).at_ (k:=2) (by decide);rw [hg5]at hg5';injection hg5' with hg5';injection hg5' with h1 h2;subst h1 h2;subst hg3 hg5;have p1:W8.cell? ⟨g3,o3+1,none⟩=some (.string ⟨#[100]⟩):=a1;have p2:W8.cell? ⟨g3,o3+4+1,none⟩=some (.string ⟨#[120]⟩):=b1;have p3:W8.cell? ⟨g3,o3+4+3,none⟩=some (.int .i64 1):=b3;have p4:W8.cell? ⟨g5,o5+1,none⟩=some (.string ⟨#[120]⟩):=d1;have p5:W8.cell? ⟨g5,o5+8+1,none⟩=some (.string ⟨#[100]⟩):=f1;clear a0 a1 a2 a3 b0 b1 b2 b3 d0 d1 d2 d3 f0 f1 f2 f3 HA3 HA5 E58 E38 E78;go_wp2_with fail;go_ret;exact Ret.mk rfl Ew8
theorem below_paths {c:Nat} {S:TreeD} (h:Tre c S) (hn:NoEnts S) (hl:ListUp S) {r:Int→Nat} (hr:Rank S r) {t:List TodoD} {nos:List Int} {l:List RwD} (hd:BelowR S t nos l):(∀x∈t,PathOk S r x)→∀y∈l,y.path.length≤300*(S.nodes.length+2):=by
 induction hd with
 | nil=>intro _ y hy;cases hy
 | none _ _ ih=>intro hp y hy;exact ih (fun x hx=>hp x (List.mem_cons_of_mem _ hx)) y hy
 | @step x t nos l _ _ ih =>
  intro hp y hy;rcases List.mem_cons.1 hy with rfl|hy
  ·exact (hp x (List.mem_cons_self ..)).1
  ·refine ih (fun z hz=>?_) y hy
   rcases List.mem_append.1 hz with hz|hz
   ·exact pathOk_kids h hn hl hr (hp x (List.mem_cons_self ..)) z hz
   ·exact hp z (List.mem_cons_of_mem _ hz)
def SpotR (S:TreeD) (w:World) (e:Ending) (w':World):Prop:=∃(dir:Int) (nm:List UInt8) (is:Bool),e=.returned (.tuple #[.int .i64 dir,.string (bs nm),.bool is])∧nm.length≤255∧(is=true→nm≠[]∧∃p,(pathF S 0 0 p false).2=0∧(pathF S 0 0 p false).1.dir=dir∧(pathF S 0 0 p false).1.name=nm)∧Ext w w'
theorem spot_any {w:World} {B:Nat} {f:GhF} {s:SysD} (h:RS w B f s) (k:PlE 140 s.t) (a:Int) :
  Calls Tryz.prog 13 #[.pointer (some ⟨f.bF,0,none⟩),.int .i64 a] w (SpotR s.t w):=by
 obtain ⟨rows,r,hB,hl,hr,hp⟩:=plant_rows k;have KR:=zH (rrows_any h k rows hB hl hr hp);have hpl:=below_paths k.plt.tre k.plt.noe k.plt.kids.up hr hB (fun x hx=>by rw[List.mem_singleton]at hx;subst hx;exact hp);have hnl:s.t.nodes.length≤200:=by have:=k.plt.tre.count;have:=k.plt.last;omega
 obtain ⟨Xt,F⟩:=h.fat;have KP:Hid (∀(u:World) (p:List UInt8),Ext w u→p.length≤1000000→Calls Tryz.prog 40 #[.pointer (some ⟨f.bF,0,none⟩),.agg #[.int .i64 0,.int .i64 0],.string (bs p),.bool false] u (FndR u (pathF s.t 0 0 p false))):=fun u p hu hp=>rpath15_any B f s.t Xt 0 0 p false u (F.ext hu) k.plt.tre (by omega) (by have:=k.plt.last;omega) hp
 have HPL:=zH hpl;have HL:=zH hl;clear h F hB hl hr hp hpl;go_enter Tryz.func13,Tryz.ntmps13;go_wp2_with fail;refine KR.out.mono ?_;rintro e w1 ⟨v,rfl,hO,hE⟩;obtain ⟨A,cap,rfl,_,_,hat,_⟩:=hO.at_;obtain ⟨n,hn⟩:∃n,n=rows.length:=⟨_,rfl⟩;rw [←hn];have HN:=zH hn;have HAT:=zH hat;have HE:=zH hE;clear KR hO hE hn hat
 by_cases h2:(n:Int)<2
 case pos =>
  have t2:decide ((n:Int)<2)=true:=decide_eq_true h2;clear h2;go_wp2_with fail;refine bodyPost_ret (v:=.tuple #[.int .i64 1,.string ⟨#[110,111,110,101]⟩,.bool false]) (by simp[results,Tryz.results13,go_sem]) rfl ?_;exact ⟨1,[110,111,110,101],false,rfl,by decide,(fun h=>by cases h),HE.out⟩
 case neg =>
  have t2:decide ((n:Int)<2)=false:=decide_eq_false h2;obtain ⟨d,hd⟩:∃d,n=d+1:=⟨n-1,by omega⟩;have hd1:1≤d:=by omega
  have hdl:d≤200:=by have:=HL.out;have:=HN.out;omega
  subst hd;obtain ⟨q,hq⟩:∃q:Nat,((q:Nat):Int)=a % 18446744073709551616 % (d:Int):=⟨(a % 18446744073709551616 % (d:Int)).toNat,Int.toNat_of_nonneg (Int.emod_nonneg _ (by omega))⟩;have hqd:q<d:=by have:=Int.emod_lt_of_pos (a % 18446744073709551616) (show (0:Int)<d by omega);omega
  have y1:(IntKind.u64.wrap a).tmod (d:Int)=(q:Int):=by
   rw [wrap_u64_mod,Int.tmod_eq_emod_of_nonneg (Int.emod_nonneg _ (by decide)),hq]
  have y2:IntKind.u64.wrap (d:Int)=(d:Int):=by rw[wrap_u64_mod];omega
  have y3:IntKind.i64.wrap (((d+1:Nat):Int)-1)=(d:Int):=by rw[IntWalk.i64_in _ (by omega)];omega
  have y3':IntKind.i64.wrap ((d:Int)+1-1)=(d:Int):=by rw[IntWalk.i64_in _ (by omega)];omega
  have y4:IntKind.i64.wrap (q:Int)=(q:Int):=IntWalk.i64_in _ (by omega);obtain ⟨j,hj⟩:∃j,j=1+q:=⟨_,rfl⟩;have y5:IntKind.i64.wrap (1+(q:Int))=(j:Int):=by rw[IntWalk.i64_in _ (by omega)];omega
  have y6:(0:Int)≤(j:Int):=Int.natCast_nonneg _;have y7:(j:Int)<(d:Int)+1:=by omega
  have y8:((d:Int) == 0)=false:=by simp;omega
  have y9:(d:Int)≠0:=by omega
  have hjl:j<rows.length:=by have:=HN.out;omega
  obtain ⟨g,o,rfl,hg,hc⟩:∃b o,A=some ⟨b,o,none⟩∧b<w1.heap.size∧w1.cell? ⟨b,o+j*10,none⟩=some (.string (bs rows[j].path)):=by
   rcases HAT.out with h|⟨b,o,hA,hb,hc⟩
   ·rw[h]at hjl;cases hjl
   ·exact⟨b,o,hA,hb,hc j hjl 0 (by decide)⟩
  have hpj:=HPL.out rows[j] (List.getElem_mem hjl);obtain ⟨p,hp⟩:∃p,p=rows[j].path:=⟨_,rfl⟩;rw [←hp]at hc hpj;obtain ⟨R,hR⟩:∃R,R=pathF s.t 0 0 p false:=⟨_,rfl⟩;have KF:=KP.out w1 p HE.out (by omega);rw [←hR]at KF;have KF2:Hid (Calls Tryz.prog 40 #[.pointer (some ⟨f.bF,0,none⟩),.agg #[.int .i64 0,.int .i64 0],.string (bs p),.bool false] w1 (Ret w1 (.tuple #[.agg #[.int .i64 R.1.dir,.string (bs R.1.name),.int .i64 R.1.no,.bool R.1.slash],.int .i64 R.2]))):=KF;have HRR:=zH hR;have hnm:Hid (R.1.name.length≤255):=by show _≤_;rw[hR];exact path_name _ _ _ _ _
  clear h2 hq hqd hj hjl hp hpj KF hR hd1;go_wp2_with fail;refine KF2.out.mono ?_;rintro e w2 ⟨rfl,b2⟩;go_upto_region 5 with fail;obtain ⟨W3,hW3⟩:∃W,W=w2.alloc (.cells #[.int .i64 R.1.dir,.string (bs R.1.name),.int .i64 R.1.no,.bool R.1.slash] 82):=⟨_,rfl⟩;obtain ⟨b8,hb8⟩:∃b,b=w2.heap.size:=⟨_,rfl⟩;have E3:Ext w1 W3:=by rw[hW3];exact b2.alloc _
  have X3:Has W3 b8 (.cells #[.int .i64 R.1.dir,.string (bs R.1.name),.int .i64 R.1.no,.bool R.1.slash] 82):=by rw[hW3,hb8];exact Has.new _ _
  rw [←hW3,←hb8];clear hW3 hb8 b2 hc y1 y2 y3 y3' y4 y5 y6 y7 y8 y9 hg t2 KF2;have x0:=X3.cell 0;have x1:=X3.cell 1;have xz:=X3.lt;simp only[gA,gB,gC]at x0 x1;obtain ⟨t0,_,_,t3⟩:=txt_tests (p:=R.1.name);obtain ⟨P,hP⟩:∃P,P=bs R.1.name:=⟨_,rfl⟩;rw [←hP]at x1 t0 t3;have HPP:=zH hP;clear hP X3;have fin:Hid (∀(is:Bool) (u:World),Ext W3 u→(is=true→R.2=0∧R.1.name≠[])→SpotR s.t w (.returned (.tuple #[.int .i64 R.1.dir,.string P,.bool is])) u):=by
   show ∀_ _,_;intro is u hu hi;refine ⟨R.1.dir,R.1.name,is,by rw[HPP.out],hnm.out,fun his=>?_,HE.out.trans (E3.trans hu)⟩;obtain ⟨h5,h6⟩:=hi his;exact ⟨h6,p,by rw[←HRR.out];exact h5,by rw[←HRR.out],by rw[←HRR.out]⟩
  by_cases h5:R.2=0
  case neg =>
   have t5:(R.2 == 0)=false:=by simpa using h5
   clear h5;go_quiet (fail);go_wp2_with fail;go_ret3;exact fin.out false _ ((Ext.refl _).drewN nq) (fun h=>by cases h)
  case pos =>
   have t5:(R.2 == 0)=true:=by simpa using h5
   have H5:=zH h5
   by_cases h6:R.1.name=[]
   ·have t6:(R.1.name == [])=true:=by rw[h6];rfl
    rw [t6]at t0 t3;clear h5 h6 t6;go_quiet (fail);go_wp2_with fail;go_ret3;exact fin.out false _ ((Ext.refl _).drewN nq) (fun h=>by cases h)
   ·have t6:(R.1.name == [])=false:=by simpa using h6
    have H6:=zH h6;rw [t6]at t0 t3;clear h5 h6 t6;go_quiet (fail);go_wp2_with fail;go_ret3;exact fin.out true _ ((Ext.refl _).drewN nq) (fun _=>⟨H5.out,H6.out⟩)
theorem CaseAt.ext {w w':World} {x:CaseD} {cs:Array Value} (h:CaseAt w x cs) (E:Ext w w'):CaseAt w' x cs:=by
 obtain ⟨Am,cm,Ai,ci,Ap,cp,h0,h1,h2,h3,h4⟩:=h;exact ⟨Am,cm,Ai,ci,Ap,cp,h0,h1.ext E,h2.ext E,h3.ext E,h4⟩
theorem CaseAt.cells {w:World} {x:CaseD} {cs:Array Value} (h:CaseAt w x cs):∃Am cm Ai ci Ap cp,cs=#[.slice Am x.ms.length cm,.slice Ai x.is.length ci,.int .i64 x.uid,.int .i64 x.gid,.int .i64 x.at_,.int .i64 x.to_,.string (bs x.name),.slice Ap x.plan.length cp,.bool x.keep]:=by
 obtain ⟨Am,cm,Ai,ci,Ap,cp,h0,_⟩:=h;exact ⟨Am,cm,Ai,ci,Ap,cp,h0⟩
theorem planted_sane {x:CaseD} (h:FewX x):PlE 140 (plantT x.ms x.is)∧Sane 140 ⟨plantT x.ms x.is,0,0,x.plan,false⟩:=by
 have k:=plant_ple h.1.1.1 h.1.1.2;refine ⟨k,k.plt.tre,k.plt.noe,k.plt.last,Int.le_refl _,by show (0:Int)≤_;omega,?_⟩;have:=h.2.2;show x.plan.length≤1000;omega
theorem OwnP.lies {w:World} {base:Nat} {v:Value} {l:List SpotD} (h:OwnP w base v l):∃A cap,v=.slice A l.length cap∧SpotsAt w A l∧l.length≤cap:=by
 obtain ⟨A,cap,h1,h2,_,h3,_⟩:=h.at_;exact ⟨A,cap,h1,h3,h2⟩
theorem SpotsAt.take {w:World} {A:Option Addr} {l:List SpotD} (h:SpotsAt w A l) (k:Nat):SpotsAt w A (l.take k):=by
 rcases h with h|⟨b,o,hA,hb,hc⟩
 ·exact .inl (by rw[h,List.take_nil])
 ·refine .inr ⟨b,o,hA,hb,fun i hi j hj=>?_⟩
  rw [List.length_take]at hi;rw [hc i (by omega) j hj,List.getElem_take]
theorem walkTells_any (x:CaseD) (cs:Array Value) (mm:Nat) (w:World) (h:CaseAt w x cs) (hm1:mm≤255):Calls Tryz.prog 4 #[.agg cs,.int .u8 (mm:Int)] w (Ret w (.bool true)):=by
 obtain ⟨W1,hW1⟩:∃W,W=w.alloc (.cells cs 30):=⟨_,rfl⟩;obtain ⟨b1,hb1⟩:∃b,b=w.heap.size:=⟨_,rfl⟩;have E1:Ext w W1:=by rw[hW1];exact (Ext.refl _).alloc _
 have B1:Has W1 b1 (.cells cs 30):=by rw[hW1,hb1];exact Has.new _ _
 have KF:=zH (few24_any x cs W1 (h.ext E1));have KB:=zH (fun (hF:FewX x) (u:World) (hu:Ext W1 u)=>both_any x cs u ((h.ext E1).ext hu) hF);obtain ⟨Am,cm,Ai,ci,Ap,cp,rfl⟩:=h.cells;obtain ⟨nm,hnm⟩:∃n,n=x.ms.length:=⟨_,rfl⟩;obtain ⟨ni,hni⟩:∃n,n=x.is.length:=⟨_,rfl⟩;obtain ⟨np,hnp⟩:∃n,n=x.plan.length:=⟨_,rfl⟩;obtain ⟨Pn,hPn⟩:∃P,P=bs x.name:=⟨_,rfl⟩;rw [←hnm,←hni,←hnp,←hPn]at hW1 B1 KF KB⊢;have HPN:=zH hPn;have HB1:=zH B1;have c0:=B1.cell 0;have c1:=B1.cell 1;have c2:=B1.cell 2;have c3:=B1.cell 3;have c4:=B1.cell 4;have c5:=B1.cell 5;have c6:=B1.cell 6;have c7:=B1.cell 7;have c8:=B1.cell 8;have cz:=B1.lt;simp only[gA,gB,gC]at c0 c1 c2 c3 c4 c5 c6 c7 c8;clear hnm hni hnp hPn B1 h;go_enter Tryz.func4,Tryz.ntmps4;go_upto_region 1 with fail;rw [←hW1,←hb1];clear hW1 hb1;go_wp2_with fail;refine KF.out.mono ?_;rintro e w2 ⟨h2,E2⟩;clear KF;rcases h2 with⟨rfl,hF⟩|rfl
 case inr =>
  go_wp2_with fail;refine (awake24 _).mono ?_;rintro e wz ⟨rfl,bz⟩;go_wp2_with fail;go_ret;exact Ret.mk rfl ((E1.trans E2).trans bz)
 have HF:=zH hF;have KB2:=zH (KB.out hF w2 E2);have B2:=HB1.out.ext E2;clear hF KB c0 c1 c2 c3 c4 c5 c6 c7 c8 cz;have c0:=B2.cell 0;have c1:=B2.cell 1;have c2:=B2.cell 2;have c3:=B2.cell 3;have c4:=B2.cell 4;have c5:=B2.cell 5;have c6:=B2.cell 6;have c7:=B2.cell 7;have c8:=B2.cell 8;have cz:=B2.lt;simp only[gA,gB,gC]at c0 c1 c2 c3 c4 c5 c6 c7 c8;clear B2;go_wp2_with fail;refine KB2.out.mono ?_;rintro e w4 ⟨B,b,g,f,rfl,hB,hP,hR,E4⟩;obtain ⟨hpl,hs⟩:=planted_sane HF.out;obtain ⟨s,hs0⟩:∃s:SysD,s=⟨plantT x.ms x.is,0,0,x.plan,false⟩:=⟨_,rfl⟩;have hst:s.t=plantT x.ms x.is:=by rw[hs0]
 rw [←hs0]at hP hR hs;rw [←hst]at hpl;have E14:Ext W1 w4:=E2.trans E4;have HE14:=zH E14;have HP:=zH hP;have HR:=zH hR;have HS:=zH hs;have HPL:=zH hpl;have B4:=HB1.out.ext E14;have HB4:=zH B4;have KS:=zH (spot_any hR hpl x.at_);clear hB hs0 hst hP hR hs hpl KB2 E2 E4 E14 c0 c1 c2 c3 c4 c5 c6 c7 c8 cz;have c4:=B4.cell 4;have cz:=B4.lt;simp only[gA,gB,gC]at c4;clear B4;go_wp2_with fail;refine KS.out.mono ?_;rintro e w5 ⟨dir,nm0,is,rfl,_,_,E5⟩;clear KS c4 cz;go_upto_if 47 with fail;go_cut [8] (fun v wc=>∃nm1,v=.string (bs nm1)∧Ext w4 wc)
 case first =>
  have B5:=HB4.out.ext E5;have c6:=B5.cell 6;have cz:=B5.lt;simp only[gA,gB,gC]at c6;clear B5
  cases is with
  | true =>
   go_wp2_with fail;go_meet;exact ⟨nm0,rfl,E5⟩
  | false =>
   go_wp2_with fail;go_meet;exact ⟨x.name,by rw[HPN.out],E5⟩
 case rest =>
  obtain ⟨nm1,rfl,E6⟩:=hcut;clear E5;obtain ⟨l,b0,e0,hT,hll⟩:=down_is HS.out.tre HPL.out.plt.kids x.uid x.gid dir nm1;have hl141:l.length≤141:=by have:=HPL.out.ens;omega
  have hspz:Hid (e0=0→b0=spotZ):=by
   show _→_;intro he;rcases hT with⟨h1,_,_,h2⟩|⟨_,_,h2⟩
   ·exact absurd (h2.symm.trans he) h1
   ·exact h2.err he
  obtain ⟨M,L,u1,u2,u3,u4,u5⟩:=up_is hT;have KR:=zH (fun (u:World) (hu:Ext w4 u)=>(HR.out.ext hu).down24 HS.out (by omega) x.uid x.gid dir nm1 l b0 e0 hT (by omega));have KD:=zH (fun (u:World) (hu:Ext w4 u) (m:Nat) (h1:1≤m) (h2:m≤1000)=>(HP.out.ext hu).down24 HS.out (by omega) x.uid x.gid dir nm1 false m h1 h2 (told l b0 e0) (by have:=told_len l b0 e0;omega) (.inl ⟨rfl,l,b0,e0,hT,by omega,rfl⟩));have KA:=zH (fun (u:World) (hu:Ext w4 u)=>(HP.out.ext hu).all HS.out (by omega) x.uid x.gid dir nm1 l b0 e0 hT (by omega));have KU:=zH (fun (u:World) (hu:Ext w4 u)=>(HP.out.ext hu).down24 HS.out (by omega) x.uid x.gid dir nm1 true 1000 (by decide) (by decide) L (by omega) (.inr ⟨rfl,M,u1,by omega⟩));have HU0:=zH u4;have HUE:Hid (e0≠0→∃q:List SpotD,L=q.map (fun x=>(x,0))++[(b0,e0)]∧q.length≤143):=by
   show _→_;intro he;obtain ⟨q,hq⟩:=u5 he;have:=congrArg List.length hq;rw [List.length_append,List.length_map,List.length_singleton]at this;exact ⟨q,hq,by omega⟩
  have HUL:=zH (upS_is [] l).length_eq;obtain ⟨n,hn⟩:∃n,n=l.length:=⟨_,rfl⟩;have HN:=zH hn;have hn141:n≤141:=by omega
  have KSame:Hid (∀(u:World) (A A':Option Addr) (c c':Nat),SpotsAt u A l→SpotsAt u A' l→Calls Tryz.prog 16 #[.slice A n c,.slice A' n c'] u (Ret u (.bool true))):=by
   show ∀_ _ _ _ _,_;intro u A A' c c' h1 h2;rw [HN.out];exact same24 A A' l c c' u h1 h2 (by omega)
  clear hll hT u1 u2 u3 u4 u5 hn;have B6:=HB4.out.ext E6;have c2:=B6.cell 2;have c3:=B6.cell 3;have cz:=B6.lt;simp only[gA,gB,gC]at c2 c3;clear B6;go_wp2_with fail;refine (KR.out _ E6).mono ?_;rintro e w7 ⟨v0,rfl,O7,E7⟩;obtain ⟨A0,k0,hv0,hA0,hk0⟩:=O7.lies;rw [←HN.out]at hv0 hk0;subst hv0;have HA0:=zH hA0;clear KR O7 hA0 c2 c3 cz;go_upto_region 10 with fail;obtain ⟨W8,hW8⟩:∃W,W=w7.alloc (.cells #[.int .i64 b0.dir,.string (bs b0.name),.int .i64 b0.no,.int .i64 b0.depth] 41):=⟨_,rfl⟩;obtain ⟨bA,hbA⟩:∃b,b=w7.heap.size:=⟨_,rfl⟩;have E78:Ext w7 W8:=by rw[hW8];exact (Ext.refl _).alloc _
  have XA:Has W8 bA (.cells #[.int .i64 b0.dir,.string (bs b0.name),.int .i64 b0.no,.int .i64 b0.depth] 41):=by rw[hW8,hbA];exact Has.new _ _
  have E8:Ext w4 W8:=E6.trans (E7.trans E78);have HE8:=zH E8;have HE78:=zH E78;have HXA:=zH XA;rw [←hW8,←hbA];clear hW8 hbA E6 E7 E78 XA E8;have B8:=HB4.out.ext HE8.out;have c2:=B8.cell 2;have c3:=B8.cell 3;have cz:=B8.lt;simp only[gA,gB,gC]at c2 c3;clear B8;go_wp2_with fail;refine (KD.out W8 HE8.out 1000 (by decide) (by decide)).mono ?_;rintro e w9 ⟨v1,l1,x1,e1,rfl,hR1,O9,E9⟩;obtain ⟨k1,k2,k3⟩:=r24_full hR1 (by omega) hspz.out;have k1:=k1.symm;have k2:=k2.symm;have k3:=k3.symm;subst k1;subst k2;subst k3;obtain ⟨A1,c1,hv1,hA1,_⟩:=O9.lies;rw [←HN.out]at hv1;subst hv1;have HA1:=zH hA1;clear O9 hA1 hR1 c2 c3 cz;go_upto_region 11 with fail;obtain ⟨W10,hW10⟩:∃W,W=w9.alloc (.cells #[.int .i64 b0.dir,.string (bs b0.name),.int .i64 b0.no,.int .i64 b0.depth] 41):=⟨_,rfl⟩;obtain ⟨bB,hbB⟩:∃b,b=w9.heap.size:=⟨_,rfl⟩;have E910:Ext w9 W10:=by rw[hW10];exact (Ext.refl _).alloc _
  have XB:Has W10 bB (.cells #[.int .i64 b0.dir,.string (bs b0.name),.int .i64 b0.no,.int .i64 b0.depth] 41):=by rw[hW10,hbB];exact Has.new _ _
  have HE810:=zH (E9.trans E910);have HE910:=zH E910;have HXB:=zH XB;rw [←hW10,←hbB];clear hW10 hbB E9 E910 XB;have hA0':=(HA0.out.ext HE78.out).ext HE810.out;have hA1':=HA1.out.ext HE910.out;have KS1:=zH (KSame.out W10 A1 A0 c1 k0 hA1' hA0');clear hA0' hA1';go_wp2_with fail;refine KS1.out.mono ?_;rintro e w11 ⟨rfl,E11⟩;clear KS1;have XA1:=(HXA.out.ext HE810.out).ext E11;have XB1:=HXB.out.ext E11;have a0:=XA1.cell 0;have a1:=XA1.cell 1;have a2:=XA1.cell 2;have a3:=XA1.cell 3;have az:=XA1.lt;have d0:=XB1.cell 0;have d1:=XB1.cell 1;have d2:=XB1.cell 2;have d3:=XB1.cell 3;have dz:=XB1.lt;simp only[gA,gB,gC]at a0 a1 a2 a3 d0 d1 d2 d3;have HE11:=zH (HE8.out.trans (HE810.out.trans E11));have HE1011:=zH E11;clear XA1 XB1 E11;go_upto_region 13 with fail;clear a0 a1 a2 a3 az d0 d1 d2 d3 dz;have m0:(0:Int)≤(mm:Int):=Int.natCast_nonneg _;have m1:IntKind.i64.wrap (mm:Int)=(mm:Int):=IntWalk.i64_in _ (by omega);have m2:IntKind.i64.wrap ((mm:Int)+1)=((mm+1:Nat):Int):=by rw[IntWalk.i64_in _ (by omega)];omega
  have B11:=HB4.out.ext HE11.out;have c2:=B11.cell 2;have c3:=B11.cell 3;have cz:=B11.lt;simp only[gA,gB,gC]at c2 c3;clear B11;go_wp2_with fail;refine (KD.out w11 HE11.out (mm+1) (by omega) (by omega)).mono ?_;rintro e w12 ⟨v2,l2,x2,e2,rfl,hR2,O12,E12⟩;have k1:=r24_first hR2;obtain ⟨A2,c2',hv2,hA2,_⟩:=O12.lies;subst k1;have hlq:(l.take (mm+1)).length=min (mm+1) n:=by rw[List.length_take,HN.out]
  obtain ⟨q,hq⟩:∃q,q=(l.take (mm+1)).length:=⟨_,rfl⟩;have hq2:q=min (mm+1) n:=by rw[hq,hlq]
  rw [←hq]at hv2;subst hv2;have HQ:=zH hq;have HQ2:=zH hq2;have hqn:q≤n:=by omega
  have HA2:=zH hA2;clear hq2 O12 hA2 hR2 hlq hq c2 c3 cz;go_upto_region 14 with fail;obtain ⟨W13,hW13⟩:∃W,W=w12.alloc (.cells #[.int .i64 x2.dir,.string (bs x2.name),.int .i64 x2.no,.int .i64 x2.depth] 41):=⟨_,rfl⟩;have E1213:Ext w12 W13:=by rw[hW13];exact (Ext.refl _).alloc _
  rw [←hW13];clear hW13;have E13:Ext w4 W13:=HE11.out.trans (E12.trans E1213);have B13:=HB4.out.ext E13;have HE13:=zH E13;have HE1213:=zH E1213;have HE1113:=zH (E12.trans E1213);have c2:=B13.cell 2;have c3:=B13.cell 3;have cz:=B13.lt;simp only[gA,gB,gC]at c2 c3;clear B13 E12 E1213 E13;go_wp2_with fail;refine (KA.out W13 HE13.out).mono ?_;rintro e w14 ⟨v3,rfl,O14,E14⟩;obtain ⟨A3,c3',hv3,hA3,_⟩:=O14.lies;obtain ⟨n3,hn3⟩:∃n,n=(if e0=0 then l else []).length:=⟨_,rfl⟩;rw [←hn3]at hv3;subst hv3;have HA3:=zH hA3;have HN3:=zH hn3;have HE1314:=zH E14;clear O14 hA3 hn3 c2 c3 cz E14;go_upto_region 15 with fail;have hmin:min (n:Int) ((mm:Int)+1)=(q:Int):=by have:=HQ2.out;omega
  have hqk:q≤k0:=by omega
  have hq0:(0:Int)≤(q:Int):=Int.natCast_nonneg _;have hqki:(q:Int)≤(k0:Int):=by omega
  have E1114:=HE1113.out.trans HE1314.out;have hA0':=(((HA0.out.ext HE78.out).ext HE810.out).ext HE1011.out).ext E1114;have hA2':=(HA2.out.ext HE1213.out).ext HE1314.out;have KS2:Hid (Calls Tryz.prog 16 #[.slice A2 q c2',.slice A0 q k0] w14 (Ret w14 (.bool true))):=by
   show Calls _ _ _ _ _;rw [HQ.out];exact same24 A2 A0 (l.take (mm+1)) c2' k0 w14 hA2' (hA0'.take _) (by rw[←HQ.out];omega)
  clear hA0' hA2' E1114;go_wp2_with fail;refine KS2.out.mono ?_;rintro e w15 ⟨rfl,E15⟩;clear KS2 hmin m1 m2 m0 hqk hq0 hqki;have HE15:=zH (HE13.out.trans (HE1314.out.trans E15));have HE1415:=zH E15;have B15:=HB4.out.ext HE15.out;have c2:=B15.cell 2;have c3:=B15.cell 3;have cz:=B15.lt;simp only[gA,gB,gC]at c2 c3;clear B15 E15;go_wp2_with fail;refine (KU.out w15 HE15.out).mono ?_;rintro e w16 ⟨v4,l4,x4,e4,rfl,hR4,O16,E16⟩;clear c2 c3 cz;obtain ⟨A4,c4',hv4,hA4,_⟩:=O16.lies;go_upto_region 18 with fail;obtain ⟨W17,hW17⟩:∃W,W=w16.alloc (.cells #[.int .i64 x4.dir,.string (bs x4.name),.int .i64 x4.no,.int .i64 x4.depth] 41):=⟨_,rfl⟩;obtain ⟨bU,hbU⟩:∃b,b=w16.heap.size:=⟨_,rfl⟩;have E1617:Ext w16 W17:=by rw[hW17];exact (Ext.refl _).alloc _
  have XU:Has W17 bU (.cells #[.int .i64 x4.dir,.string (bs x4.name),.int .i64 x4.no,.int .i64 x4.depth] 41):=by rw[hW17,hbU];exact Has.new _ _
  rw [←hW17,←hbU];clear hW17 hbU;have HE1517:=zH (E16.trans E1617);have HE1617:=zH E1617;have HA4:=zH hA4;have HXU:=zH XU;clear O16 hA4 E16 E1617 XU;have Ew17:=zH (E1.trans (HE14.out.trans (HE15.out.trans HE1517.out)))
  by_cases he0:e0=0
  case neg =>
   have t0:(e0 != 0)=true:=by simpa using he0
   obtain ⟨q5,hq5,hq5l⟩:=HUE.out he0;rw [hq5]at hR4;obtain ⟨g1,g2⟩:=r24_upE hR4 he0 (by omega);subst g1;subst g2;have hn30:n3=0:=by rw[HN3.out,if_neg he0];rfl
   subst hn30;have XA1:=((((HXA.out.ext HE810.out).ext HE1011.out).ext (HE1113.out.trans HE1314.out)).ext HE1415.out).ext HE1517.out;have XU1:=HXU.out;have a0:=XA1.cell 0;have a1:=XA1.cell 1;have a2:=XA1.cell 2;have a3:=XA1.cell 3;have az:=XA1.lt;have d0:=XU1.cell 0;have d1:=XU1.cell 1;have d2:=XU1.cell 2;have d3:=XU1.cell 3;have dz:=XU1.lt;simp only[gA,gB,gC]at a0 a1 a2 a3 d0 d1 d2 d3;clear XA1 XU1 hR4 hq5 he0 hv4;go_wp2_with fail;refine (awake24 _).mono ?_;rintro e wz ⟨rfl,bz⟩;go_wp2_with fail;go_ret;exact Ret.mk rfl (Ew17.out.trans bz)
  case pos =>
   have t0:(e0 != 0)=false:=by simpa using he0
   rw [HU0.out he0]at hR4;obtain ⟨g1,g2,g3⟩:=r24_up0 hR4 (by have:=HUL.out;simp only[List.nil_append]at this;omega);subst g1;subst g3;have hn3n:n3=n:=by rw[HN3.out,if_pos he0,HN.out]
   subst hn3n;have hA3':SpotsAt w14 A3 l:=by have:=HA3.out;rw[if_pos he0]at this;exact this
   have hupl:(upS [] l).length=n3:=by have:=HUL.out;simp only[List.nil_append]at this;rw[this,HN.out]
   rw [hupl]at hv4;subst hv4;have hA0':=((((((HA0.out.ext HE78.out).ext HE810.out).ext HE1011.out).ext (HE1113.out.trans HE1314.out)).ext HE1415.out).ext HE1517.out);have KS3:=zH (KSame.out W17 A3 A0 c3' k0 ((hA3'.ext HE1415.out).ext HE1517.out) hA0');have KUp:Hid (∀u,Ext W17 u→Calls Tryz.prog 18 #[.slice A0 n3 k0] u (fun e w'=>∃v,e=.returned v∧OwnP w' u.heap.size v (upS [] l)∧Ext u w')):=by
    show ∀_,_;intro u hu;have:=rup24 A0 l k0 u (hA0'.ext hu) (by omega);rw [←HN.out]at this;exact this
   have hA4':=HA4.out.ext HE1617.out;have HA4':=zH hA4';have HUPL:=zH hupl;clear he0 hR4 hA3' hupl hA0' hA4' g2;go_wp2_with fail;refine KS3.out.mono ?_;rintro e w18 ⟨rfl,E18⟩;clear KS3;go_wp2_with fail;refine (KUp.out w18 E18).mono ?_;rintro e w19 ⟨v5,rfl,O19,E19⟩;obtain ⟨A5,c5',hv5,hA5,_⟩:=O19.lies;rw [HUPL.out]at hv5;subst hv5;have KS4:Hid (Calls Tryz.prog 16 #[.slice A4 (upS [] l).length c4',.slice A5 n3 c5'] w19 (Ret w19 (.bool true))):=by
    show Calls _ _ _ _ _;rw [HUPL.out];have:=same24 A4 A5 (upS [] l) c4' c5' w19 ((HA4'.out.ext E18).ext E19) hA5 (by rw[HUPL.out];omega);rw [HUPL.out]at this;exact this
   have HE1719:=zH (E18.trans E19);clear KUp O19 hA5 E18 E19;go_wp2_with fail;refine KS4.out.mono ?_;rintro e w20 ⟨rfl,E20⟩;go_wp2_with fail;refine (awake24 _).mono ?_;rintro e wz ⟨rfl,bz⟩;go_wp2_with fail;go_ret;exact Ret.mk rfl (Ew17.out.trans (HE1719.out.trans (E20.trans bz)))
theorem walkTells_walk {H:Type} {enc:TypeId×Value→H} (W:World) (base:Nat) (v0 v1:Value) (d0 d1:DataW H) (p0 p1:List MemPlace)
  (k0:Value.okWide Tryz.prog W .any base 30 v0) (h0:DataW.Trod enc Tryz.prog W 0 (fun _=>true) true 30 v0 d0 p0)
  (k1:Value.okWide Tryz.prog W .any base 5 v1) (h1:DataW.Trod enc Tryz.prog W 0 (fun _=>true) true 5 v1 d1 p1)
  : Calls Tryz.prog 4 #[v0,v1] W (Ret W (.bool true)):=by
 obtain ⟨x,cs,rfl,hx⟩:=open_Case k0 h0;obtain ⟨a1,rfl,rfl,rfl,w1⟩:=open_int Tryz.underlying5 k1 h1;have hb:=bounds_u8 w1;obtain ⟨mm,rfl⟩:∃mm:Nat,a1=(mm:Int):=⟨a1.toNat,by omega⟩;exact walkTells_any x cs mm W hx (by omega)
end Go.Proofs.YtpibnfdolojpcaaGreat
