import Derived.Test.YtpibnfdolojpcaaGreatBunN
import Derived.Sort.CutIn
namespace Go.Proofs.YtpibnfdolojpcaaGreat
open Go.ChangeShapes Go.WideShapes Go.ChangeAt Go.RowKit
attribute [local go_sem] Oper.semAt_some
theorem told_zero {l:List SpotD} {b:SpotD} {e:Int} (h:∀y∈told l b e,y.2=0):e=0∧(told l b e).map (·.1)=l:=by
 have he:e=0:=by
  by_cases he:e=0
  ·exact he
  ·exact h (b,e) (by unfold told;rw[if_neg he];simp)
 refine ⟨he,?_⟩;unfold told;rw [if_pos he,List.append_nil,List.map_map];exact List.map_id _
theorem told_last {l:List SpotD} {b:SpotD} {e:Int} {pre:List (SpotD×Int)} {y:SpotD×Int} (h:pre++[y] <+: told l b e) (hy:y.2≠0):y=(b,e)∧e≠0∧pre=l.map fun x=>(x,0):=by
 by_cases he:e=0
 ·exfalso
  obtain ⟨t,ht⟩:=h;have hm:y∈told l b e:=by rw[←ht];simp
  unfold told at hm;rw [if_pos he,List.append_nil,List.mem_map]at hm;obtain ⟨x,_,rfl⟩:=hm;exact hy rfl
 ·unfold told at h
  rw [if_neg he]at h;rcases List.prefix_concat_iff.1 h with h1|h1
  ·have:=List.append_inj' h1 rfl
   refine ⟨?_,he,this.1⟩;have h2:=this.2;injection h2
  ·exfalso
   obtain ⟨t,ht⟩:=h1;have hm:y∈l.map fun x=>(x,(0:Int)):=by rw[←ht];simp
   rw [List.mem_map]at hm;obtain ⟨x,_,rfl⟩:=hm;exact hy rfl
theorem down_in (F:Fence) (n:Nat) (hf:F.fn 41) (hro:F.round=none) (b:Nat) (cu cg dir:Int) (nm:List UInt8) (w:World) :
  CallsIn F n Tryz.prog 41 #[.pointer (some ⟨b,0,none⟩),.agg #[.int .i64 cu,.int .i64 cg],.int .i64 dir,.string (bs nm)] w fun e w' =>
   e = .returned (.func (.func 86) #[] #[.pointer (some ⟨w.heap.size,0,none⟩),.pointer (some ⟨w.heap.size+1,0,none⟩),.pointer (some ⟨w.heap.size+2,0,none⟩),.pointer (some ⟨w.heap.size+3,0,none⟩)])∧CapD w' w.heap.size b cu cg dir nm∧Ext w w'∧w'.heap.size=w.heap.size+4:=by
 refine callsIn_of_wp Tryz.func41 rfl hf ?_ hro;simp only[Tryz.ntmps41,List.size_toArray,List.length_cons,List.length_nil,Nat.reduceAdd,Nat.reduceSub,Array.replicate_succ,Array.replicate_zero,List.push_toArray,List.append_toArray,List.nil_append,List.cons_append];gi_wp2;go_ret;have h1:=Has.new w (.cells #[.pointer (some ⟨b,0,none⟩)] 33);have h2:=Has.new (w.alloc (.cells #[.pointer (some ⟨b,0,none⟩)] 33)) (.cells #[.int .i64 cu,.int .i64 cg] 27);have h3:=Has.new ((w.alloc (.cells #[.pointer (some ⟨b,0,none⟩)] 33)).alloc (.cells #[.int .i64 cu,.int .i64 cg] 27)) (.cells #[.int .i64 dir] 3);have h4:=Has.new (((w.alloc (.cells #[.pointer (some ⟨b,0,none⟩)] 33)).alloc (.cells #[.int .i64 cu,.int .i64 cg] 27)).alloc (.cells #[.int .i64 dir] 3)) (.cells #[.string (bs nm)] 9);simp only[World.size_alloc]at h2 h3 h4;exact ⟨rfl,⟨((h1.alloc _).alloc _).alloc _,(h2.alloc _).alloc _,h3.alloc _,h4⟩,((((Ext.refl w).alloc _).alloc _).alloc _).alloc _,by simp⟩
theorem CapD.only {V V':World} {k b:Nat} {cu cg dir:Int} {nm:List UInt8} {L:List Nat} (h:CapD V k b cu cg dir nm) (o:Only L V V') (hL:∀x∈L,x<k∨k+3<x):CapD V' k b cu cg dir nm:=by
 obtain ⟨h1,h2,h3,h4⟩:=h;exact ⟨o.has h1 fun hm=>by have:=hL _ hm;omega,o.has h2 fun hm=>by have:=hL _ hm;omega,o.has h3 fun hm=>by have:=hL _ hm;omega,o.has h4 fun hm=>by have:=hL _ hm;omega⟩
end Go.Proofs.YtpibnfdolojpcaaGreat
namespace Go.Proofs.YtpibnfdolojpcaaGreat
open Go.ChangeShapes Go.WideShapes Go.ChangeAt Go.RowKit
theorem cell_same {w w':World} {g:Nat} (h:w'.heap[g]?=w.heap[g]?) (o:Nat):w'.cell? ⟨g,o,none⟩=w.cell? ⟨g,o,none⟩:=by
 simp only[World.cell?,h]
attribute [local go_sem] Oper.semAt_some
theorem inL_len {c:Nat} {s:SysD} (h:Sane c s) (cu cg:Int) (x:SpotD):(inL s cu cg x).length≤c:=by
 unfold inL rdL;split
 ·exact Nat.zero_le _
 ·exact intoL_len h.tre cu cg x
theorem inL_depth {s:SysD} {cu cg:Int} {x y:SpotD} (h:y∈inL s cu cg x):y.depth=x.depth+1:=by
 unfold inL rdL at h;split at h
 ·cases h
 ·exact intoL_depth h
end Go.Proofs.YtpibnfdolojpcaaGreat
