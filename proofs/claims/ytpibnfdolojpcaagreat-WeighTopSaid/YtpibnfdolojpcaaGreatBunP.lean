import Derived.Test.YtpibnfdolojpcaaGreatBunG
import Derived.Test.YtpibnfdolojpcaaGreatBunA
import Derived.Test.YtpibnfdolojpcaaGreatBunO
namespace Go.Proofs.YtpibnfdolojpcaaGreat
open Go
section
variable {F:Fence} {n:Nat} {P:Program} {ops:Array Oper} {md:Region.Mode}
end
end Go.Proofs.YtpibnfdolojpcaaGreat
namespace Go.Proofs.YtpibnfdolojpcaaGreat
open Go.ChangeShapes Go.WideShapes Go.ChangeAt Go.RowKit
attribute [local go_sem] Oper.semAt_some
theorem run_storeAt_val {P:Program} (w:World) (b o:Nat) (ty:TypeId) (v:Value) (ht:w.there b o v.cells.size) (hi:(P.info? ty).map (·.size)=some v.cells.size) (h1:v.cells.all (·.oneCell')=true) :
  (Instr.storeAt ty (.pointer (some ⟨b,o,none⟩)) v).run P w=.ok () (w.setCells b o v.cells.toList):=by
 have:=run_storeCells_cells (P:=P) b o v.cells.toList 0 w (fun j hj=>by simpa using (ht j (by simpa using hj)).1) (fun j hj=>by simpa using (ht j (by simpa using hj)).2)
  (fun v hv=>(Array.all_eq_true_iff_forall_mem.1 h1) v (by simpa using hv))
 cases hq:P.info? ty with
 | none=>simp[hq]at hi
 | some i =>
  have hs:v.cells.size=i.size:=by simp[hq]at hi;omega
  simp only[Nat.add_zero]at this;simp [Instr.storeAt,Instr.sureAddr,storeVar,sizeOf,typeInfo,hq,hs,this]
theorem change_store {P:Program} {o:Oper} {a:Act} {t:TypeId} {x y:Operand} (ho:o.op=.store t x y) (C0 C1:World→Prop) (b:Nat) (v:Value) (hx:a.eval x=.pointer (some ⟨b,0,none⟩)) (hy:a.eval y=v)
  (hi:(P.info? t).map (·.size)=some v.cells.size) (h1:v.cells.all (·.oneCell')=true) (h:∀u,C0 u→∃cs tt,Has u b (.cells cs tt)∧cs.size=v.cells.size∧C1 (u.setCells b 0 v.cells.toList)):∀u:Wc C0,changeUpon P C1 undef ((execOp a.eval o).run P u.w):=by
 rintro ⟨u,hu⟩;obtain ⟨cs,tt,h2,h3,h4⟩:=h u hu;have ht:u.there b 0 v.cells.size:=by rw[←h3];exact h2.there
 simp only[execOp,ho,hx,hy,Sem.run_bind,run_storeAt_val u b 0 t v ht hi h1,Result.andThen_ok,Sem.run_pure];exact ⟨rfl,h4⟩
end Go.Proofs.YtpibnfdolojpcaaGreat
