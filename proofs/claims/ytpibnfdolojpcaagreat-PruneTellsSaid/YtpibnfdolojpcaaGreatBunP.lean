import Derived.Test.YtpibnfdolojpcaaGreatBunG
import Derived.Test.YtpibnfdolojpcaaGreatBunA
import Derived.Test.YtpibnfdolojpcaaGreatBunO
namespace Go.Proofs.YtpibnfdolojpcaaGreat
open Go.Proofs.Tryz
section
open Go
section
variable {F:Fence} {n:Nat} {P:Program} {ops:Array Oper} {md:Region.Mode}
def Qh (Q:Exit->Act->World->Prop) (e:Exit) (a:Act) (w:World):Prop:=e=.normal/\Q .normal a w
theorem Io {Q:Exit->Act->World->Prop}:¬LetsOut (Qh Q):=fun⟨_,_,h⟩=>by cases h.1
end
end
section
open Go.ChangeShapes Go.WideShapes Go.ChangeAt Go.RowKit
attribute [local go_sem] ol
theorem acY (F:Fence) (n:Nat) (hf:F.fn 42) (hro:F.round=none) (b:Nat) (cu cg dir:Int) (nm:List UInt8) (w:World) :
  CallsIn F n prog 42 #[((),b),.agg #[cu,cg],dir,bs nm] w fun e w' =>
   e = .returned (.func (.func 89) #[] #[((),w.heap.size),.pointer (some ⟨w.heap.size+1,0,none⟩),.pointer (some ⟨w.heap.size+2,0,none⟩),.pointer (some ⟨w.heap.size+3,0,none⟩)])/\Fs w' w.heap.size b cu cg dir nm/\Ext w w'/\w'.heap.size=w.heap.size+4:=by
 refine uq func42 rfl hf ?_ hro;simp only[ntmps42,lA,bk,gj,Nat.reduceAdd,Nat.reduceSub,o_,pd,pg,ph,jG,oo];gi_wp2;go_ret;have h1:=Has.new w (.cells #[((),b)] 33);have h2:=Has.new (w.alloc (.cells #[((),b)] 33)) (.cells #[cu,cg] 27);have h3:=Has.new ((w.alloc (.cells #[((),b)] 33)).alloc (.cells #[cu,cg] 27)) (.cells #[dir] 3);have h4:=Has.new (((w.alloc (.cells #[((),b)] 33)).alloc (.cells #[cu,cg] 27)).alloc (.cells #[dir] 3)) (.cells #[bs nm] 9);simp only[bi]at h2 h3 h4;exact⟨rfl,⟨((h1.alloc _).alloc _).alloc _,(h2.alloc _).alloc _,h3.alloc _,h4⟩,((((Ext.refl w).alloc _).alloc _).alloc _).alloc _,by simp⟩
theorem yy {P:Program} (w:World) (b o:Nat) (ty:TypeId) (v:Value) (ht:w.there b o v.cells.size) (hi:(P.info? ty).map (·.size)=some v.cells.size) (h1:v.cells.all (·.oneCell')=true) :
  (Instr.storeAt ty (.pointer (some ⟨b,o,none⟩)) v).run P w=.ok () (w.setCells b o v.cells.toList):=by
 have:=run_storeCells_cells (P:=P) b o v.cells.toList 0 w (fun j hj=>by simpa using (ht j (by simpa using hj)).1) (fun j hj=>by simpa using (ht j (by simpa using hj)).2)
  (fun v hv=>(Array.all_eq_true_iff_forall_mem.1 h1) v (by simpa using hv))
 cases hq:P.info? ty with
 | none=>simp[hq]at hi
 | some i =>
  have hs:v.cells.size=i.size:=by simp[hq]at hi;omega
  simp only[zo]at this;simp[Instr.storeAt,Instr.sureAddr,storeVar,sizeOf,typeInfo,hq,hs,this]
theorem vF {P:Program} {o:Oper} {a:Act} {t:TypeId} {x y:Operand} (ho:o.op=.store t x y) (C0 C1:World->Prop) (b:Nat) (v:Value) (hx:a.eval x=.pointer (some ⟨b,0,none⟩)) (hy:a.eval y=v)
  (hi:(P.info? t).map (·.size)=some v.cells.size) (h1:v.cells.all (·.oneCell')=true) (h:∀u,C0 u->∃cs tt,Has u b (.cells cs tt)/\cs.size=v.cells.size/\C1 (u.setCells b 0 v.cells.toList)):∀u:Wc C0,gW P C1 undef ((execOp a.eval o).run P u.w):=by
 rintro ⟨u,hu⟩;obtain⟨cs,tt,h2,h3,h4⟩:=h u hu;have ht:u.there b 0 v.cells.size:=by rw[<-h3];exact h2.there
 simp only[execOp,ho,hx,hy,nr,yy u b 0 t v ht hi h1,rn,o7];exact⟨rfl,h4⟩
end
end Go.Proofs.YtpibnfdolojpcaaGreat
