import Derived.Test.YtpibnfdolojpcaaGreatBunG
import Derived.Test.YtpibnfdolojpcaaGreatBunA
import Derived.Test.YtpibnfdolojpcaaGreatBunO
set_option maxHeartbeats 8000000
set_option maxRecDepth 100000
namespace Go.Proofs.YtpibnfdolojpcaaGreat
open Go
section
variable {F:Fence} {n:Nat} {P:Program} {ops:Array Oper} {md:Region.Mode}
def calmO (o:Oper):Bool:=match o.op with | .load ..=>true | .store ..=>true | .move ..=>true | .assign ..=>true|_=>false
theorem calmO_spec {o:Oper} (h:calmO o=true):(∃t x,o.op=.load t x)∨(∃t x y,o.op=.store t x y)∨(∃x,o.op=.move x)∨(∃x,o.op=.assign x):=by
 unfold calmO at h;split at h
 ·rename_i h1;exact .inl ⟨_,_,h1⟩
 ·rename_i h1;exact .inr (.inl ⟨_,_,_,h1⟩)
 ·rename_i h1;exact .inr (.inr (.inl ⟨_,h1⟩))
 ·rename_i h1;exact .inr (.inr (.inr ⟨_,h1⟩))
 ·cases h
def Norm (Q:Exit→Act→World→Prop) (e:Exit) (a:Act) (w:World):Prop:=e=.normal∧Q .normal a w
theorem norm_out {Q:Exit→Act→World→Prop}:¬LetsOut (Norm Q):=fun⟨_,_,h⟩=>by cases h.1
theorem wpIn_of_calm {o:Oper} {a:Act} {w:World} {K K':Act→World→Prop} {Q:Exit→Act→World→Prop} (hc:calmO o=true) (hk:∀a w,K a w→K' a w) (h:o.wp P a w K (Norm Q)):o.wpIn F n P a w K' Q:=by
 have hd:∀c,o.op≠.defer c:=fun c hcc=>by simp[calmO,hcc]at hc
 unfold Oper.wp at h;unfold Oper.wpIn;refine ⟨?_,?_⟩
 ·rcases calmO_spec hc with⟨t,x,e⟩|⟨t,x,y,e⟩|⟨x,e⟩|⟨x,e⟩<;>simp[Oper.about,e]
 rw [Oper.semAt_eq _ _ _ hd];rcases calmO_spec hc with⟨t,x,e⟩|⟨t,x,y,e⟩|⟨x,e⟩|⟨x,e⟩
 ·simp only[execOp,e,Sem.run_bind]at h⊢
  generalize (Instr.loadAt t (a.eval x)).run P w=r at *
  cases r with
  | ok v w'=>simp only[Result.andThen,Sem.run_pure]at h⊢;exact hk _ _ h
  | halt x w' =>
   simp only[Result.andThen]at h⊢
   cases x<;>simp only[Oper.upon,Norm]at h
   exact absurd h.1 (by simp)
 ·simp only[execOp,e,Sem.run_bind]at h⊢
  generalize (Instr.storeAt t (a.eval x) (a.eval y)).run P w=r at *
  cases r with
  | ok v w'=>simp only[Result.andThen,Sem.run_pure]at h⊢;exact hk _ _ h
  | halt x w' =>
   simp only[Result.andThen]at h⊢
   cases x<;>simp only[Oper.upon,Norm]at h
   exact absurd h.1 (by simp)
 ·simp only[execOp,e,Sem.run_pure]at h⊢
  exact hk _ _ h
 ·simp only[execOp,e,Sem.run_pure]at h⊢
  exact hk _ _ h
theorem wpAnyIn_of_calm {Q:Exit→Act→World→Prop} (hc:∀(i:Nat) (o:Oper),ops[i]?=some o→calmO o=true):∀(fuel:Nat) (listed:Array Bool) (a:Act) (w:World),wpAny P md ops (Norm Q) fuel listed a w→wpAnyIn F n P md ops Q fuel listed a w
 | 0,_,_,_,h=>⟨h.1,h.2.2⟩
 | fuel + 1,_,_,_,h=>⟨fun h0=>(h.1 h0).2,fun i hi=>by
   have h1:=h.2 i hi;unfold wpOp at h1;unfold wpOpIn;split
   ·rename_i ho;simp only[ho]at h1;exact wpAnyIn_of_calm hc fuel _ _ _ h1
   ·rename_i o ho
    simp only[ho]at h1;have hco:=hc i o ho;split
    ·rename_i hw
     simp only[hw,if_true]at h1;rcases h1 with h1|h1
     ·exact wpIn_of_calm hco (fun a w=>wpAnyIn_of_calm hc fuel _ a w) h1
     ·exact absurd h1.2 norm_out
    ·rename_i hw
     simp only[hw]at h1;refine ⟨?_,wpAnyIn_of_calm hc fuel _ _ _ h1⟩;rcases calmO_spec hco with⟨t,x,e⟩|⟨t,x,y,e⟩|⟨x,e⟩|⟨x,e⟩<;>simp[Oper.about,e]⟩
theorem wpIn_region_phase {id:Nat} {Q:Exit→Act→World→Prop} {a:Act} {w:World} {l:List Oper} (Ph:Nat→World→Prop) (ks:List Nat) (hcl:l.all calmO=true)
  (hm:P.follows .mixedOrders=true) (hB:Region.lexB .any l.toArray=true) (hc:chainB l ks=true) (hV:Ph 0 w.drew)
  (h:wpLexE l.toArray (phE P Ph ks) (fun a'=>∀w',Ph ks.length w'→Q .normal a' w') l 0 a):(Code.region id l.toArray true).wpIn F n P Q a w:=by
 simp only[Region.lexB,Bool.and_eq_true]at hB;have hgd:=chainB_guard hc;have hsz:∀k∈ks,k<l.toArray.size:=fun k hk=>by
  obtain ⟨o,ho,_⟩:=hgd k hk;simpa using (List.getElem?_eq_some_iff.1 ho).1
 have hcl':∀(i:Nat) (o:Oper),l.toArray[i]?=some o→calmO o=true:=fun i o ho=>List.all_eq_true.1 hcl o (List.mem_of_getElem? (by simpa using ho))
 refine wpIn_region_any hm (wpAnyIn_of_calm hcl' _ _ _ _ ?_);refine wpAny_of_E (P:=P) (Ph:=Ph) (ks:=ks) (Q:=fun a'=>∀w',Ph ks.length w'→Q .normal a' w') (fun t k k' h1 h2=>?_) ((chainB_up hc).imp (fun h=>Nat.ne_of_lt h)) (fun k hk=>?_) (fun a w h1 h2=>⟨rfl,h2 w h1⟩) _ _ a w.drew 0 (Nat.zero_le _) (fun t k hk=>?_) (fun k hk=>?_) hV ?_
 ·obtain ⟨o,ho,he⟩:=(chainB_after hc t k k' h1 h2).2
  exact ⟨o,by simpa using ho,he⟩
 ·obtain ⟨o,ho,hgn⟩:=hgd k hk
  exact ⟨o,by simpa using ho,hgn⟩
 ·have:=hsz k (List.mem_of_getElem? hk)
  simp at this;simp [this]
 ·simpa using hsz k hk
 ·have:=wpAnyE_lex (md:=.any) (ks:=ks) hB.1 hsz l 0 (Array.replicate l.toArray.size false) a (by simp) (fun j hj=>by omega) (by simp) (by simp) (by simpa using hB.2) h
  simpa using this
end
end Go.Proofs.YtpibnfdolojpcaaGreat
namespace Go.Proofs.YtpibnfdolojpcaaGreat
open Go.ChangeShapes Go.WideShapes Go.ChangeAt Go.RowKit
attribute [local go_sem] Oper.semAt_some
theorem up_in (F:Fence) (n:Nat) (hf:F.fn 42) (hro:F.round=none) (b:Nat) (cu cg dir:Int) (nm:List UInt8) (w:World) :
  CallsIn F n Tryz.prog 42 #[.pointer (some ⟨b,0,none⟩),.agg #[.int .i64 cu,.int .i64 cg],.int .i64 dir,.string (bs nm)] w fun e w' =>
   e = .returned (.func (.func 89) #[] #[.pointer (some ⟨w.heap.size,0,none⟩),.pointer (some ⟨w.heap.size+1,0,none⟩),.pointer (some ⟨w.heap.size+2,0,none⟩),.pointer (some ⟨w.heap.size+3,0,none⟩)])∧CapD w' w.heap.size b cu cg dir nm∧Ext w w'∧w'.heap.size=w.heap.size+4:=by
 refine callsIn_of_wp Tryz.func42 rfl hf ?_ hro;simp only[Tryz.ntmps42,List.size_toArray,List.length_cons,List.length_nil,Nat.reduceAdd,Nat.reduceSub,Array.replicate_succ,Array.replicate_zero,List.push_toArray,List.append_toArray,List.nil_append,List.cons_append];gi_wp2;go_ret;have h1:=Has.new w (.cells #[.pointer (some ⟨b,0,none⟩)] 33);have h2:=Has.new (w.alloc (.cells #[.pointer (some ⟨b,0,none⟩)] 33)) (.cells #[.int .i64 cu,.int .i64 cg] 27);have h3:=Has.new ((w.alloc (.cells #[.pointer (some ⟨b,0,none⟩)] 33)).alloc (.cells #[.int .i64 cu,.int .i64 cg] 27)) (.cells #[.int .i64 dir] 3);have h4:=Has.new (((w.alloc (.cells #[.pointer (some ⟨b,0,none⟩)] 33)).alloc (.cells #[.int .i64 cu,.int .i64 cg] 27)).alloc (.cells #[.int .i64 dir] 3)) (.cells #[.string (bs nm)] 9);simp only[World.size_alloc]at h2 h3 h4;exact ⟨rfl,⟨((h1.alloc _).alloc _).alloc _,(h2.alloc _).alloc _,h3.alloc _,h4⟩,((((Ext.refl w).alloc _).alloc _).alloc _).alloc _,by simp⟩
theorem run_storeAt_val {P:Program} (w:World) (b o:Nat) (ty:TypeId) (v:Value) (ht:w.there b o v.cells.size) (hi:(P.info? ty).map (·.size)=some v.cells.size) (h1:v.cells.all (·.oneCell')=true) :
  (Instr.storeAt ty (.pointer (some ⟨b,o,none⟩)) v).run P w=.ok () (w.setCells b o v.cells.toList):=by
 have:=run_storeCells_cells (P:=P) b o v.cells.toList 0 w (fun j hj=>by simpa using (ht j (by simpa using hj)).1) (fun j hj=>by simpa using (ht j (by simpa using hj)).2)
  (fun v hv=>(Array.all_eq_true_iff_forall_mem.1 h1) v (by simpa using hv))
 cases hq:P.info? ty with
 | none=>simp[hq]at hi
 | some i =>
  have hs:v.cells.size=i.size:=by simp[hq]at hi;omega
  simp only[Nat.add_zero]at this;simp [Instr.storeAt,Instr.sureAddr,storeVar,sizeOf,typeInfo,hq,hs,this]
theorem change_store {P:Program} {o:Oper} {a:Act} {t:TypeId} {x y:Operand} (ho:o.op=.store t x y) (C0 C1:World→Prop) (b:Nat) (v:Value) (hx:a.eval x=.pointer (some ⟨b,0,none⟩)) (hy:a.eval y=v)
  (hi:(P.info? t).map (·.size)=some v.cells.size) (h1:v.cells.all (·.oneCell')=true) (h:∀u,C0 u→∃cs tt,Has u b (.cells cs tt)∧cs.size=v.cells.size∧C1 (u.setCells b 0 v.cells.toList)):∀u:Wc C0,changeUpon P C1 undef ((execOp a.eval o).run P u.w):=by
 rintro ⟨u,hu⟩;obtain ⟨cs,tt,h2,h3,h4⟩:=h u hu;have ht:u.there b 0 v.cells.size:=by rw[←h3];exact h2.there
 simp only[execOp,ho,hx,hy,Sem.run_bind,run_storeAt_val u b 0 t v ht hi h1,Result.andThen_ok,Sem.run_pure];exact ⟨rfl,h4⟩
theorem run_equalIn_func_nil {P:Program} (w:World) (d:Nat) (t:TypeId) {a b c} (h:P.underlying t=some (.func a b c)) (f:Fn) (x y:Array Value):(Op.equalIn (d+1) t (.func f x y) .nilFunc).run P w=.ok false w:=by
 simp [Op.equalIn,run_underlying h]
theorem run_eql_func_nil {P:Program} (w:World) (t:TypeId) {a b c} (h:P.underlying t=some (.func a b c)) (f:Fn) (x y:Array Value):(binOp .eql t (.func f x y) .nilFunc).run P w=.ok (.bool false) w:=by
 have h1:(Op.equal t (.func f x y) .nilFunc).run P w=.ok false w:=run_equalIn_func_nil w 9999 t h f x y;simp only[binOp];simp [h1]
theorem all_one1 (v:Value) (h:v.oneCell'=true):(#[v].all fun x=>x.oneCell')=true:=all_oneCell_toArray (cs:=[v]) (fun u hu=>by rw[List.mem_singleton]at hu;subst hu;exact h)
def R24 (L:List (SpotD×Int)) (most:Nat) (l:List SpotD) (x:SpotD) (e:Int):Prop:=
 (L=l.map (fun y=>(y,0))∧l.length<most∧x=spotZ∧e=0)∨(l.map (fun y=>(y,(0:Int)))++[(x,e)] <+: L∧e≠0∧l.length<most)∨(l.map (fun y=>(y,(0:Int))) <+: L∧l.length=most∧x=spotZ∧e=0)
theorem zeros {pre:List (SpotD×Int)} (h:∀y∈pre,y.2=0):(pre.map (·.1)).map (fun y=>(y,(0:Int)))=pre:=by
 induction pre with
 | nil=>rfl
 | cons x l ih =>
  rw [List.map_cons,List.map_cons,ih (fun y hy=>h y (List.mem_cons_of_mem _ hy))];have:=h x (List.mem_cons_self ..);rw [show (x.1,(0:Int))=x by rw[←this]]
theorem PS.down24 {c:Nat} {w:World} {B b:Nat} {g:GhW} {s:SysD} (h:PS w B b g s) (hs:Sane c s) (hc:c≤900) (cu cg dir:Int) (nm:List UInt8) (up:Bool) (most:Nat) (hm1:1≤most) (hm2:most≤1000) (L:List (SpotD×Int)) (_hLl:L.length≤1001)
    (hT:(up=false∧∃l b0 e0,DownT s cu cg dir nm l b0 e0∧l.length≤1000∧L=told l b0 e0)∨(up=true∧∃M,UpT (fun _=>s) (fun _=>True) cu cg dir nm M L∧M≤100000)) :
    Calls Tryz.prog 14 #[.pointer (some ⟨b,0,none⟩),.agg #[.int .i64 cu,.int .i64 cg],.int .i64 dir,.string (bs nm),.int .i64 most,.bool up] w
      (fun e w'=>∃v l x e0,e=.returned (.tuple #[v,.agg (spotC x).toArray,.int .i64 e0,.bool true])∧R24 L most l x e0∧OwnP w' w.heap.size v l∧Ext w w'):=by
  refine (callsIn_wide (n:=4)).1 ?_
  obtain ⟨F,hF⟩:∃F,F=Fence.wide:=⟨_,rfl⟩
  have hro:F.round=none:=by rw[hF];rfl
  have hf1:F.fn 14:=by rw[hF];trivial
  have hf2:F.fn 41:=by rw[hF];trivial
  have hf3:F.fn 86:=by rw[hF];trivial
  have hf4:F.fn 42:=by rw[hF];trivial
  have hf5:F.fn 89:=by rw[hF];trivial
  have KD:=fun (W:World)=>down_in F 3 hf2 hro b cu cg dir nm W
  have KU:=fun (W:World)=>up_in F 3 hf4 hro b cu cg dir nm W
  rw [←hF]
  have HF:=Lib.hid hF
  clear hF
  refine callsIn_of_wp_marks Tryz.func14 rfl hf1 ?_ hro
  simp only[Tryz.ntmps14,List.size_toArray,List.length_cons,List.length_nil,Nat.reduceAdd,Nat.reduceSub,Array.replicate_succ,Array.replicate_zero,List.push_toArray,List.append_toArray,List.nil_append,List.cons_append]
  gi_upto_region 1 with fail
  obtain ⟨W0,hW0⟩:∃V,V=(((((w.alloc (.cells #[.int .i64 cu,.int .i64 cg] 27)).alloc (.cells #[.int .i64 most] 3)).alloc (.cells #[.slice none 0 0] 39)).alloc (.cells #[.int .i64 0,.string ⟨#[]⟩,.int .i64 0,.int .i64 0] 41)).alloc (.cells #[.int .i64 0] 3)).alloc (.cells #[.bool false] 4):=⟨_,rfl⟩
  obtain ⟨b7,hb7⟩:∃x,x=w.heap.size:=⟨_,rfl⟩
  obtain ⟨b10,hb10⟩:∃x,x=w.heap.size+1:=⟨_,rfl⟩
  obtain ⟨b12,hb12⟩:∃x,x=w.heap.size+1+1:=⟨_,rfl⟩
  obtain ⟨b13,hb13⟩:∃x,x=w.heap.size+1+1+1:=⟨_,rfl⟩
  obtain ⟨b14,hb14⟩:∃x,x=w.heap.size+1+1+1+1:=⟨_,rfl⟩
  obtain ⟨b15,hb15⟩:∃x,x=w.heap.size+1+1+1+1+1:=⟨_,rfl⟩
  rw [←hW0,←hb15,←hb14,←hb13,←hb12,←hb10,←hb7]
  have E0:Ext w W0:=by rw[hW0];exact ((((((Ext.refl _).alloc _).alloc _).alloc _).alloc _).alloc _).alloc _
  have hs0:W0.heap.size=b15+1:=by rw[hW0,hb15];simp
  have H7:Has W0 b7 (.cells #[.int .i64 cu,.int .i64 cg] 27):=by rw[hW0,hb7];exact ((((((Has.new w _).alloc _).alloc _).alloc _).alloc _).alloc _)
  have H10:Has W0 b10 (.cells #[.int .i64 most] 3):=by
    rw [hW0,hb10]
    have:=Has.new (w.alloc (.cells #[.int .i64 cu,.int .i64 cg] 27)) (.cells #[.int .i64 most] 3)
    simp only[World.size_alloc]at this
    exact (((this.alloc _).alloc _).alloc _).alloc _
  have H12:Has W0 b12 (.cells #[.slice none 0 0] 39):=by
    rw [hW0,hb12]
    have:=Has.new ((w.alloc (.cells #[.int .i64 cu,.int .i64 cg] 27)).alloc (.cells #[.int .i64 most] 3)) (.cells #[.slice none 0 0] 39)
    simp only[World.size_alloc]at this
    exact ((this.alloc _).alloc _).alloc _
  have H13:Has W0 b13 (.cells (spotC spotZ).toArray 41):=by
    rw [hW0,hb13]
    have:=Has.new (((w.alloc (.cells #[.int .i64 cu,.int .i64 cg] 27)).alloc (.cells #[.int .i64 most] 3)).alloc (.cells #[.slice none 0 0] 39)) (.cells #[.int .i64 0,.string ⟨#[]⟩,.int .i64 0,.int .i64 0] 41)
    simp only[World.size_alloc]at this
    exact (this.alloc _).alloc _
  have H14:Has W0 b14 (.cells #[.int .i64 0] 3):=by
    rw [hW0,hb14]
    have:=Has.new ((((w.alloc (.cells #[.int .i64 cu,.int .i64 cg] 27)).alloc (.cells #[.int .i64 most] 3)).alloc (.cells #[.slice none 0 0] 39)).alloc (.cells #[.int .i64 0,.string ⟨#[]⟩,.int .i64 0,.int .i64 0] 41)) (.cells #[.int .i64 0] 3)
    simp only[World.size_alloc]at this
    exact this.alloc _
  have H15:Has W0 b15 (.cells #[.bool false] 4):=by
    rw [hW0,hb15]
    have:=Has.new (((((w.alloc (.cells #[.int .i64 cu,.int .i64 cg] 27)).alloc (.cells #[.int .i64 most] 3)).alloc (.cells #[.slice none 0 0] 39)).alloc (.cells #[.int .i64 0,.string ⟨#[]⟩,.int .i64 0,.int .i64 0] 41)).alloc (.cells #[.int .i64 0] 3)) (.cells #[.bool false] 4)
    simp only[World.size_alloc]at this
    exact this
  have o1:w.heap.size≤b7:=by omega
  have o2:b7<b10:=by omega
  have o3:b10<b12:=by omega
  have o4:b12<b13:=by omega
  have o5:b13<b14:=by omega
  have o6:b14<b15:=by omega
  have o7:b15<W0.heap.size:=by omega
  have P0:=h.ext E0
  clear hW0 hb7 hb10 hb12 hb13 hb14 hb15 hs0 h
  have c0:=H7.cell 0
  have c1:=H7.cell 1
  have cz:=H7.lt
  simp only[List.getElem?_toArray,List.getElem?_cons_zero,List.getElem?_cons_succ]at c0 c1
  have HT:=Lib.hid hT
  have HP0:=Lib.hid P0
  have HH7:=Lib.hid H7
  have HH10:=Lib.hid H10
  have HH12:=Lib.hid H12
  have HH13:=Lib.hid H13
  have HH14:=Lib.hid H14
  have HH15:=Lib.hid H15
  have HE0:=Lib.hid E0
  clear hT P0 H7 H10 H12 H13 H14 H15 E0
  have hen1:=Lib.hid (enters_of Tryz.func86 (by kernel_rfl) rfl)
  have hen2:=Lib.hid (enters_of Tryz.func89 (by kernel_rfl) rfl)
  gi_upto_if 25 with (gi_at_call 41;refine (KD _).mono ?_;rintro e w3 ⟨rfl,C3,E3,Z3⟩)
  obtain ⟨k,hk⟩:∃k,k=W0.heap.size:=⟨_,rfl⟩
  rw [←hk]at C3⊢
  have HK:=Lib.hid hk
  have hk0:W0.heap.size≤k:=by rw[hk];exact Nat.le_refl _
  clear hk
  gi_cut [5,16] from 20 (fun _ vs V=>∃(gf k:Nat) (Ex:List (SpotD×Int)→World→Prop),vs=.func (.func gf) #[] #[.pointer (some ⟨k,0,none⟩),.pointer (some ⟨k+1,0,none⟩),.pointer (some ⟨k+2,0,none⟩),.pointer (some ⟨k+3,0,none⟩)]∧F.fn gf∧(∀args w,(callFunc gf args).run Tryz.prog w=.ok (.enter gf args) w) ∧
    SeqO F 3 Tryz.prog gf #[.pointer (some ⟨k,0,none⟩),.pointer (some ⟨k+1,0,none⟩),.pointer (some ⟨k+2,0,none⟩),.pointer (some ⟨k+3,0,none⟩)] encD (fun xs=>xs=L) (fun pre=>pre <+: L) (fun pre x=>pre++[x] <+: L) Ex V∧(∀pre V,PS V B b g s→CapD V k b cu cg dir nm→Ex pre V)∧CapD V k b cu cg dir nm∧Ext W0 V∧W0.heap.size≤k∧k+3<V.heap.size)
  case first =>
    rcases HT.out with⟨rfl,l,b0,e0,h1,h2,h3⟩|⟨rfl,M,h1,h2⟩
    · gi_wp2
      gi_meet
      case rel =>
        have KS:=down_seq (c:=c) F HF.out 3 (by omega) B b g s hs hc k cu cg dir nm l b0 e0 h1 h2 w3
        rw [←h3]at KS
        refine ⟨86,k,fun _ V=>PS V B b g s∧CapD V k b cu cg dir nm,rfl,hf3,hen1.out,KS,fun _ _ h1 h2=>⟨h1,h2⟩,C3,E3,hk0,C3.2.2.2.lt⟩
    · have d0:=(HH7.out.ext E3).cell 0
      have d1:=(HH7.out.ext E3).cell 1
      have dz:=(HH7.out.ext E3).lt
      simp only[List.getElem?_toArray,List.getElem?_cons_zero,List.getElem?_cons_succ]at d0 d1
      clear Z3
      gi_wp2_with (gi_at_call 42;refine (KU _).mono ?_;rintro e w4 ⟨rfl,C4,E4,Z4⟩)
      gi_meet
      case rel =>
        have KS:=up_seq (c:=c) F HF.out 3 (by omega) b (fun _=>s) (fun _=>True) w3.heap.size cu cg dir nm M L (fun _ _=>hs) hc h1 h2 w4
        refine ⟨89,w3.heap.size,fun _ V=>True∧(∃B g,PS V B b g s)∧CapD V w3.heap.size b cu cg dir nm,rfl,hf5,hen2.out,KS,fun _ _ h1 h2=>⟨trivial,⟨_,_,h1⟩,h2⟩,C4,E3.trans E4,by have:=E3.size;omega,C4.2.2.2.lt⟩
  case rest =>
    obtain ⟨gf,k2,Ex,rfl,hgf,hen,KS,hEx,C4,E4,hk2,hk3⟩:=hcut
    have HEN:=Lib.hid hen
    have HKS:=Lib.hid KS
    have HEX:=Lib.hid hEx
    have HC4:=Lib.hid C4
    have HE4:=Lib.hid E4
    clear hen KS hEx C4 E4 C3 E3 Z3 c0 c1 cz HT hk0 HK KD KU
    have hnil:∀V:World,(binOp .eql 89 (.func (.func gf) #[] #[.pointer (some ⟨k2,0,none⟩),.pointer (some ⟨k2+1,0,none⟩),.pointer (some ⟨k2+2,0,none⟩),.pointer (some ⟨k2+3,0,none⟩)]) .nilFunc).run Tryz.prog V=.ok (.bool false) V:=fun V=>run_eql_func_nil V _ Tryz.underlying89 _ _ _
    gi_wp2
    obtain ⟨b17,hb17⟩:∃x,x=wc.heap.size:=⟨_,rfl⟩
    obtain ⟨We,hWe⟩:∃V,V=wc.alloc (.cells #[.slice none 0 0] 39):=⟨_,rfl⟩
    have H17:Has We b17 (.cells #[.slice none 0 0] 39):=by rw[hWe,hb17];exact Has.new wc _
    have EW:Ext wc We:=by rw[hWe];exact (Ext.refl _).alloc _
    have hNs:We.heap.size=b17+1:=by rw[hWe,hb17];simp
    have hb17a:wc.heap.size≤b17:=by omega
    have hb17b:b17≤wc.heap.size:=by omega
    rw [←hWe,←hb17]
    obtain ⟨N,hN⟩:∃N,N=We.heap.size:=⟨_,rfl⟩
    have hN1:N≤b17+1:=by omega
    have hN2:b17+1≤N:=by omega
    have hNW:N≤We.heap.size:=by omega
    have HN:=Lib.hid hN
    have HE1:=Lib.hid (HE0.out.trans HE4.out)
    have hW0c:W0.heap.size≤wc.heap.size:=HE4.out.size
    have hwN:w.heap.size≤N:=by omega
    have KSe:SeqO F 3 Tryz.prog gf #[.pointer (some ⟨k2,0,none⟩),.pointer (some ⟨k2+1,0,none⟩),.pointer (some ⟨k2+2,0,none⟩),.pointer (some ⟨k2+3,0,none⟩)] encD (fun xs=>xs=L) (fun pre=>pre <+: L) (fun pre x=>pre++[x] <+: L) Ex wc:=HKS.out
    clear hWe hb17 hNs hN hnil
    refine wpIn_range_o hro (by omega) (gf:=gf) (lb:=#[.pointer (some ⟨k2,0,none⟩),.pointer (some ⟨k2+1,0,none⟩),.pointer (some ⟨k2+2,0,none⟩),.pointer (some ⟨k2+3,0,none⟩)]) rfl hgf HEN.out KSe EW.size (fun _=>rfl)
      (fun O pre V=>Coll wc N k2 b17 b cu cg dir nm O pre V∧pre.length<most)
      (fun cc pre V=>(cc=.ret∧∃q y vo,pre=q++[y]∧y.2≠0∧(∀z∈q,z.2=0)∧q.length<most∧Ext w V∧OwnP V N vo (q.map (·.1))∧Has V b12 (.cells #[vo] 39)∧Has V b13 (.cells (spotC y.1).toArray 41)∧Has V b14 (.cells #[.int .i64 y.2] 3)∧Has V b15 (.cells #[.bool true] 4)) ∨
        (cc=.exit 0∧(∀z∈pre,z.2=0)∧pre.length=most∧Ext wc V∧∃vo,Has V b17 (.cells #[vo] 39)∧OwnP V N vo (pre.map (·.1))))
      (by rw[←HN.out];exact fun O pre V O' R V' hI o hR hO hO'=>⟨Coll.bears (W1:=wc) (N:=N) (by omega) (by omega) (by omega) O pre V O' R V' hI.1 o hR hO hO',hI.2⟩)
      ?hix
      (fun O pre V hI=>HEX.out pre V (HP0.out.ext (HE4.out.trans hI.1.1)) hI.1.2.1)
      ⟨⟨EW,⟨HC4.out.1.ext EW,HC4.out.2.1.ext EW,HC4.out.2.2.1.ext EW,HC4.out.2.2.2.ext EW⟩,⟨_,H17,OwnP.nil _ _,fun g hg=>by cases hg⟩,fun y hy=>(by cases hy),fun x hx=>(by cases hx),hNW⟩,hm1⟩
      (fun x a' V=>∃Bx,N≤Bx∧Has V Bx (.cells #[.int .i64 x.1.dir,.string (bs x.1.name),.int .i64 x.1.no,.int .i64 x.1.depth] 41)∧a'={tmps:=#[.pointer (some ⟨b,0,none⟩),.agg #[.int .i64 cu,.int .i64 cg],.int .i64 dir,.string (bs nm),.int .i64 most,u5,undef,.pointer (some ⟨b7,0,none⟩),undef,undef,.pointer (some ⟨b10,0,none⟩),undef,.pointer (some ⟨b12,0,none⟩),.pointer (some ⟨b13,0,none⟩),.pointer (some ⟨b14,0,none⟩),.pointer (some ⟨b15,0,none⟩),.func (.func gf) #[] #[.pointer (some ⟨k2,0,none⟩),.pointer (some ⟨k2+1,0,none⟩),.pointer (some ⟨k2+2,0,none⟩),.pointer (some ⟨k2+3,0,none⟩)],.pointer (some ⟨b17,0,none⟩),.pointer (some ⟨Bx,0,none⟩),.int .i64 x.2,u20,u21,u22,u23,u24,u25,u26,u27,u28,u29,u30,.func (.func gf) #[] #[.pointer (some ⟨k2,0,none⟩),.pointer (some ⟨k2+1,0,none⟩),.pointer (some ⟨k2+2,0,none⟩),.pointer (some ⟨k2+3,0,none⟩)],.bool false,u33,.func (.func gf) #[] #[.pointer (some ⟨k2,0,none⟩),.pointer (some ⟨k2+1,0,none⟩),.pointer (some ⟨k2+2,0,none⟩),.pointer (some ⟨k2+3,0,none⟩)],.agg #[.int .i64 x.1.dir,.string (bs x.1.name),.int .i64 x.1.no,.int .i64 x.1.depth],.int .i64 x.2,u37,u38,u39,u40,u41,u42,u43,u44,u45,u46,u47,u48,u49,u50,u51],defers:=[]})
      ?hax ?assign ?body ?done ?stop
    case hix =>
      rw [←HN.out]
      rintro cc pre V R V' hp o hR
      rcases hp with⟨a1,q,y,vo,a2,a3,a4,a5,a6,a7,a8,a9,a10,a11⟩|⟨a1,a2,a3,a4,vo,a5,a6⟩
      · exact .inl ⟨a1,q,y,vo,a2,a3,a4,a5,o.after a6 (fun z hz=>by have:=(hR z hz).1;omega),a7.only o (fun g hg hm=>a7.notC hg hR hm),o.has a8 (fun hm=>by have:=(hR _ hm).1;omega),o.has a9 (fun hm=>by have:=(hR _ hm).1;omega),o.has a10 (fun hm=>by have:=(hR _ hm).1;omega),o.has a11 (fun hm=>by have:=(hR _ hm).1;omega)⟩
      · exact .inr ⟨a1,a2,a3,o.after a4 (fun z hz=>by have:=(hR z hz).1;omega),vo,o.has a5 (fun hm=>by have:=(hR _ hm).1;omega),a6.only o (fun g hg hm=>a6.notC hg hR hm)⟩
    case hax =>
      rintro x a' V l o o' ⟨Bx,h1,h2,rfl⟩ hl ho hc'
      refine ⟨Bx,h1,?_,rfl⟩
      have hne:Bx≠l:=fun e=>by subst e;unfold Has at h2;rw[h2]at ho;cases ho;cases hc'
      exact (World.putObj_heap_other hne).trans h2
    case assign =>
      rintro lp O pre x V K hI hG hOB hK
      gi_wp2
      refine hK _ _ ((KeepsOthers.alloc _ _).from _) ((Only.allocN [] V _).keepO (fun b hb=>(hOB b hb).lt) (fun _ _=>by simp)) ?_ ⟨V.heap.size,hI.1.2.2.2.2.2,Has.new _ _,rfl⟩
      exact ⟨Coll.bears (W1:=wc) (N:=N) (by omega) (by omega) (by omega) O pre V O [] _ hI.1 (by rw[List.append_nil];exact Only.allocN _ _ _) (fun r hr=>by cases hr) (fun x hx=>.inl hx) (fun x hx=>(hOB x hx).ext ((Ext.refl V).alloc _)),hI.2⟩
    case body =>
      rintro lp O pre x a' V ⟨hI,hpm⟩ ⟨Bx,hBx,hXB,rfl⟩ hG hOB
      rw [←HN.out]
      have hpl:pre.length≤2000000:=by omega
      by_cases hx0:x.2=0
      · have t0:(x.2 != 0)=false:=by simpa using hx0
        obtain ⟨v,v',w',h10,hr,h10',hvN,hOw,kf,ko,hC,h10b⟩:=hI.step (by omega) (by omega) (by omega) (by omega) hx0 hOB hpl
        obtain ⟨A',c',hv',_⟩:=hOw.at_
        obtain ⟨n',hn'⟩:∃n',n'=((pre++[x]).map (·.1)).length:=⟨_,rfl⟩
        have hnp:n'=pre.length+1:=by rw[hn'];simp
        rw [←hn']at hv'
        have HOW:=Lib.hid hOw
        clear hn' hOw hvN
        subst hv'
        have HR:=Lib.hid hr
        have HKF:=Lib.hid kf
        have HKO:=Lib.hid ko
        have HC:=Lib.hid hC
        have H17b:=Lib.hid h10b
        have c10:=h10.cell 0
        have z10:=h10.lt
        have d10:=h10'.cell 0
        have f10:=h10'.free 0
        have y10:=h10'.lt
        have y0:=hXB.cell 0
        have y1:=hXB.cell 1
        have y2:=hXB.cell 2
        have y3:=hXB.cell 3
        have yz:=hXB.lt
        simp only[List.getElem?_toArray,List.getElem?_cons_zero,List.getElem?_cons_succ]at y0 y1 y2 y3
        have HI:=Lib.hid hI
        have HX0:=Lib.hid hx0
        have HNP:=Lib.hid hnp
        clear hr kf ko hC h10b hI hG hx0 hnp
        gi_upto_region 13 with (gi_at_builtin;refine wpListIn_append_run0 _ rfl _ _ 39 39 rfl _ _ rfl rfl _ _ HR.out ?_)
        obtain ⟨w5,hw5⟩:∃V,V=w'.setCell ⟨b17,0,none⟩ (.slice A' n' c'):=⟨_,rfl⟩
        have H17c:=H17b.out
        have HCc:=HC.out
        have HKFc:=HKF.out
        have HKOc:=HKO.out
        rw [←hw5]at H17c HCc HKFc HKOc⊢
        have m10:=HH10.out.ext (HE4.out.trans HCc.1)
        have m0:=m10.cell 0
        have mz:=m10.lt
        have g0:=H17c.cell 0
        have gz:=H17c.lt
        have HC5:=Lib.hid HCc
        have HKF5:=Lib.hid HKFc
        have HKO5:=Lib.hid HKOc
        have HH17:=Lib.hid H17c
        clear hw5 HCc HKFc HKOc H17c m10 c10 z10 d10 f10 y10 y0 y1 y2 y3 yz h10 h10' hXB HC HKF HKO H17b HR
        have hp1:=HNP.out
        have HP:=Lib.hid hpm
        clear hp1 hpm
        gi_wp2
        · refine ⟨HKF5.out,.inr ⟨rfl,HC5.out.2.2.2.1,by have:=HP.out;have:=HNP.out;simp;omega,HC5.out.1,_,HH17.out,HC5.out.2.2.1.elim fun v h=>by
            have e:=h.1
            have e2:=HH17.out
            unfold Has at e e2
            rw [e]at e2
            cases e2
            exact h.2.1⟩⟩
        · exact⟨HKF5.out,HKO5.out,HC5.out,by have:=HP.out;have:=HNP.out;simp;omega⟩
      · have t0:(x.2 != 0)=true:=by simpa using hx0
        have HX0:=Lib.hid hx0
        obtain ⟨a1,a2,⟨v,a3,a4,a5⟩,a6,a7,a8⟩:=hI
        obtain ⟨A',c',hv',_⟩:=a4.at_
        obtain ⟨n',hn'⟩:∃n',n'=(pre.map (·.1)).length:=⟨_,rfl⟩
        rw [←hn']at hv'
        clear hn'
        subst hv'
        clear hx0
        gi_upto_region 11 with fail
        have V12:=HH12.out.ext (HE4.out.trans a1)
        have V13:=HH13.out.ext (HE4.out.trans a1)
        have V14:=HH14.out.ext (HE4.out.trans a1)
        have V15:=HH15.out.ext (HE4.out.trans a1)
        obtain ⟨Ph,hPh⟩:∃Ph:Nat→World→Prop,Ph=fun j w'=>Only [b12,b13,b14,b15] V w'∧Has w' b12 (.cells #[if 1≤j then .slice A' n' c' else .slice none 0 0] 39)∧Has w' b13 (.cells (spotC (if 2≤j then x.1 else spotZ)).toArray 41)∧Has w' b14 (.cells #[.int .i64 (if 3≤j then x.2 else 0)] 3)∧Has w' b15 (.cells #[.bool (decide (4≤j))] 4):=⟨_,rfl⟩
        have HV:Hid (Ph 0 V.drew):=by
          show Ph 0 _
          rw [hPh]
          exact ⟨Only.of_ext (Ext.refl _).drew,V12.ext (Ext.refl _).drew,V13.ext (Ext.refl _).drew,V14.ext (Ext.refl _).drew,V15.ext (Ext.refl _).drew⟩
        have hne:Nonempty (Hp Ph):=⟨⟨0,_,HV.out⟩⟩
        have uo:∀u:Hp Ph,Only [b12,b13,b14,b15] V u.w:=by
          rw [hPh]
          exact Hp.all (T:=fun w'=>Only [b12,b13,b14,b15] V w') (fun _ _ h=>h.1)
        have u17:∀u:Hp Ph,u.w.cell? ⟨b17,0,none⟩=some (.slice A' n' c'):=fun u=>((uo u).has a3 (by simp;omega)).cell 0
        have uX:∀u:Hp Ph,Has u.w Bx (.cells #[.int .i64 x.1.dir,.string (bs x.1.name),.int .i64 x.1.no,.int .i64 x.1.depth] 41):=fun u=>(uo u).has hXB (by simp;omega)
        have ux0:∀u:Hp Ph,u.w.cell? ⟨Bx,0,none⟩=some (.int .i64 x.1.dir):=fun u=>(uX u).cell 0
        have ux1:∀u:Hp Ph,u.w.cell? ⟨Bx,1,none⟩=some (.string (bs x.1.name)):=fun u=>(uX u).cell 1
        have ux2:∀u:Hp Ph,u.w.cell? ⟨Bx,2,none⟩=some (.int .i64 x.1.no):=fun u=>(uX u).cell 2
        have ux3:∀u:Hp Ph,u.w.cell? ⟨Bx,3,none⟩=some (.int .i64 x.1.depth):=fun u=>(uX u).cell 3
        have S0:Hid (∀u,Ph 0 u→∃cs tt,Has u b12 (.cells cs tt)∧cs.size=(Value.slice A' n' c').cells.size∧Ph 1 (u.setCells b12 0 (Value.slice A' n' c').cells.toList)):=by
          show ∀_,_
          rw [hPh]
          rintro u ⟨h1,h2,h3,h4,h5⟩
          have o:=Only.setCell u b12 0 (.slice A' n' c')
          exact ⟨_,_,h2,rfl,h1.then (o.mono (by simp)),Has.setCell h2 0 _,o.has h3 (by simp;omega),o.has h4 (by simp;omega),o.has h5 (by simp;omega)⟩
        have S1:Hid (∀u,Ph 1 u→∃cs tt,Has u b13 (.cells cs tt)∧cs.size=(Value.agg (spotC x.1).toArray).cells.size∧Ph 2 (u.setCells b13 0 (Value.agg (spotC x.1).toArray).cells.toList)):=by
          show ∀_,_
          rw [hPh]
          rintro u ⟨h1,h2,h3,h4,h5⟩
          have o:=only_setCells (g:=b13) (spotC x.1) 0 u
          exact ⟨_,_,h3,rfl,h1.then (o.mono (by simp)),o.has h2 (by simp;omega),h3.putSpot x.1,o.has h4 (by simp;omega),o.has h5 (by simp;omega)⟩
        have S2:Hid (∀u,Ph 2 u→∃cs tt,Has u b14 (.cells cs tt)∧cs.size=(Value.int .i64 x.2).cells.size∧Ph 3 (u.setCells b14 0 (Value.int .i64 x.2).cells.toList)):=by
          show ∀_,_
          rw [hPh]
          rintro u ⟨h1,h2,h3,h4,h5⟩
          have o:=Only.setCell u b14 0 (.int .i64 x.2)
          exact ⟨_,_,h4,rfl,h1.then (o.mono (by simp)),o.has h2 (by simp;omega),o.has h3 (by simp;omega),Has.setCell h4 0 _,o.has h5 (by simp;omega)⟩
        have S3:Hid (∀u,Ph 3 u→∃cs tt,Has u b15 (.cells cs tt)∧cs.size=(Value.bool true).cells.size∧Ph 4 (u.setCells b15 0 (Value.bool true).cells.toList)):=by
          show ∀_,_
          rw [hPh]
          rintro u ⟨h1,h2,h3,h4,h5⟩
          have o:=Only.setCell u b15 0 (.bool true)
          exact ⟨_,_,h5,rfl,h1.then (o.mono (by simp)),o.has h2 (by simp;omega),o.has h3 (by simp;omega),o.has h4 (by simp;omega),Has.setCell h5 0 _⟩
        have KQ:Hid (∀w',Ph 4 w'→Only [b12,b13,b14,b15] V w'∧Has w' b12 (.cells #[.slice A' n' c'] 39)∧Has w' b13 (.cells (spotC x.1).toArray 41)∧Has w' b14 (.cells #[.int .i64 x.2] 3)∧Has w' b15 (.cells #[.bool true] 4)):=by
          show ∀_,_
          rw [hPh]
          exact fun _ h=>h
        have HA4:=Lib.hid a4
        have HA6:=Lib.hid a6
        have HP:=Lib.hid hpm
        have EV:=Lib.hid (HE1.out.trans a1)
        clear hPh uo uX a1 a2 a3 a4 a5 a6 a7 a8 V12 V13 V14 V15 hXB hG hOB hpm
        refine wpIn_region_phase Ph [3,4,5,6] (by kernel_rfl) (by kernel_rfl) (by kernel_rfl) (by kernel_rfl) HV.out ?_
        repeat (first
          | (refine wpLexE_plain (by kernel_rfl) (fun K hK=>?_)
             go_simp
             refine hK _ ?_
             clear hK K)
          | (refine wpLexE_change 0 (by kernel_rfl) rfl (fun K hK=>?_)
             refine ⟨undef,change_store rfl _ _ b12 (.slice A' n' c') rfl rfl (by kernel_rfl) (all_one1 _ rfl) S0.out,hK _ ?_⟩
             clear hK K
             try simp only[Act.put])
          | (refine wpLexE_change 1 (by kernel_rfl) rfl (fun K hK=>?_)
             refine ⟨undef,change_store rfl _ _ b13 (.agg (spotC x.1).toArray) rfl rfl infoSpot4 (all_oneCell_toArray (cs:=spotC x.1) (spotC_one x.1)) S1.out,hK _ ?_⟩
             clear hK K
             try simp only[Act.put])
          | (refine wpLexE_change 2 (by kernel_rfl) rfl (fun K hK=>?_)
             refine ⟨undef,change_store rfl _ _ b14 (.int .i64 x.2) rfl rfl (by kernel_rfl) (all_one1 _ rfl) S2.out,hK _ ?_⟩
             clear hK K
             try simp only[Act.put])
          | (refine wpLexE_change 3 (by kernel_rfl) rfl (fun K hK=>?_)
             refine ⟨undef,change_store rfl _ _ b15 (.bool true) rfl rfl (by kernel_rfl) (all_one1 _ rfl) S3.out,hK _ ?_⟩
             clear hK K
             try simp only[Act.put]))
        refine wpLexE_nil ?_
        intro w5 hw5
        obtain ⟨o5,g12,g13,g14,g15⟩:=KQ.out _ hw5
        clear u17 ux0 ux1 ux2 ux3 S0 S1 S2 S3 HV hw5 KQ
        gi_wp2
        exact ⟨o5.keepsFrom (fun y hy=>.inl (by simp at hy;omega)),.inl ⟨rfl,pre,x,_,rfl,HX0.out,HA6.out,HP.out,o5.after EV.out (fun y hy=>by simp at hy;omega),HA4.out.only o5 (fun g hg hm=>by have:=(HA4.out.lt hg).1;simp at hm;omega),g12,g13,g14,g15⟩⟩
    case done =>
      rintro D O xs V hD hxs ⟨hI,hlt⟩ hK
      have hDN:N≤D:=by have:=HN.out;omega
      obtain ⟨a1,a2,⟨vo,a3,a4,a5⟩,a6,a7,a8⟩:=hI
      have HR24:Hid (R24 L most (xs.map (·.1)) spotZ 0):=.inl ⟨by rw[zeros a6,hxs],by simpa using hlt,rfl,rfl⟩
      clear a2 a5 a6 a7 a8 hlt hxs hD
      have EV:=HE1.out.trans a1
      have V12:=HH12.out.ext (HE4.out.trans a1)
      have V13:=HH13.out.ext (HE4.out.trans a1)
      have V14:=HH14.out.ext (HE4.out.trans a1)
      have V15:=HH15.out.ext (HE4.out.trans a1)
      obtain ⟨A',c',hv',_⟩:=a4.at_
      obtain ⟨n',hn'⟩:∃n',n'=(xs.map (·.1)).length:=⟨_,rfl⟩
      rw [←hn']at hv'
      clear hn'
      subst hv'
      have c17:=a3.cell 0
      have z17:=a3.lt
      have c12:=V12.cell 0
      have f12:=V12.free 0
      have z12:=V12.lt
      have HA4:=Lib.hid a4
      have HV12:=Lib.hid V12
      have HV13:=Lib.hid V13
      have HV14:=Lib.hid V14
      have HV15:=Lib.hid V15
      have HEV:=Lib.hid EV
      have HDK:=Lib.hid hK
      have KV:Hid (∀w9,Only [b13] (V.setCell ⟨b12,0,none⟩ (.slice A' n' c')) w9→(w9.cell? ⟨b14,0,none⟩=some (.int .i64 0)∧w9.frozen? ⟨b14,0,none⟩=(decide (0≤0)&&decide (0<0))∧b14<w9.heap.size∧w9.cell? ⟨b15,0,none⟩=some (.bool false)∧w9.frozen? ⟨b15,0,none⟩=(decide (0≤0)&&decide (0<0))∧b15<w9.heap.size∧Has w9 b14 (.cells #[.int .i64 0] 3)∧Has w9 b15 (.cells #[.bool false] 4)∧Has w9 b12 (.cells #[.slice A' n' c'] 39)∧Only [b12,b13,b14,b15] V w9)):=by
        show ∀_,_
        intro w9 o9
        have o8:=Only.setCell V b12 0 (.slice A' n' c')
        have g14:=o9.has (o8.has HV14.out (by simp;omega)) (by simp;omega)
        have g15:=o9.has (o8.has HV15.out (by simp;omega)) (by simp;omega)
        have g12:=o9.has (Has.setCell HV12.out 0 (.slice A' n' c')) (by simp;omega)
        exact ⟨g14.cell 0,g14.free 0,g14.lt,g15.cell 0,g15.free 0,g15.lt,g14,g15,g12,(o8.mono (by simp)).then (o9.mono (by simp))⟩
      have H13':=Lib.hid ((Only.setCell V b12 0 (.slice A' n' c')).has HV13.out (by simp;omega))
      clear a1 a3 a4 V12 V13 V14 V15 EV hK
      gi_wp2_with (refine wpListIn_store_spot rfl _ _ rfl b13 spotZ spotZ rfl rfl H13'.out ?_;intro w9 R9 O9;obtain⟨c14,f14,z14,c15,f15,z15,g14,g15,g12,OA⟩:=KV.out w9 O9)
      obtain ⟨V2,hV2⟩:∃V2,V2=(w9.setCell ⟨b14,0,none⟩ (.int .i64 0)).setCell ⟨b15,0,none⟩ (.bool true):=⟨_,rfl⟩
      rw [←hV2]
      have o14:=Only.setCell w9 b14 0 (.int .i64 0)
      have o15:=Only.setCell (w9.setCell ⟨b14,0,none⟩ (.int .i64 0)) b15 0 (.bool true)
      have q12:Has V2 b12 (.cells #[.slice A' n' c'] 39):=by rw[hV2];exact o15.has (o14.has g12 (by simp;omega)) (by simp;omega)
      have q13:Has V2 b13 (.cells (spotC spotZ).toArray 41):=by rw[hV2];exact o15.has (o14.has R9 (by simp;omega)) (by simp;omega)
      have q14:Has V2 b14 (.cells #[.int .i64 0] 3):=by rw[hV2];exact o15.has (Has.setCell g14 0 _) (by simp;omega)
      have q15:Has V2 b15 (.cells #[.bool true] 4):=by rw[hV2];exact Has.setCell (o14.has g15 (by simp;omega)) 0 _
      have OB:Only [b12,b13,b14,b15] V V2:=by rw[hV2];exact OA.then ((o14.mono (by simp)).then (o15.mono (by simp)))
      have hK2:=OB.has HDK.out (by simp;omega)
      refine ⟨by simp,.inl ⟨_,_,rfl,run_takeDeferred hK2,?_⟩⟩
      have OD:=Only.putObj V2 D (.deferred none)
      have OC:Only [b12,b13,b14,b15,D] V (V2.putObj D (.deferred none)):=(OB.mono (by simp)).then (OD.mono (by simp))
      have r12:=(OD.has q12 (by simp;omega)).cell 0
      have r13:=OD.has q13 (by simp;omega)
      have r130:=r13.cell 0
      have r131:=r13.cell 1
      have r132:=r13.cell 2
      have r133:=r13.cell 3
      have r14:=(OD.has q14 (by simp;omega)).cell 0
      have r15:=(OD.has q15 (by simp;omega)).cell 0
      refine ⟨.tuple #[.slice A' n' c',.agg (spotC spotZ).toArray,.int .i64 0,.bool true],by simp[results,Tryz.results14,go_sem,r12,r130,r131,r132,r133,r14,r15],.slice A' n' c',xs.map (·.1),spotZ,0,rfl,HR24.out,?_,OC.after HEV.out (fun z hz=>by simp at hz;omega)⟩
      refine (HA4.out.only OC fun g hg hm=>?_).base (by omega)
      have hgN:=(HA4.out.lt hg).1
      simp at hm
      rcases hm with hm|hm|hm|hm|hm
      · omega
      · omega
      · omega
      · omega
      · subst hm
        obtain ⟨t,⟨cc,f,hc⟩,_⟩:=HA4.out.ownB hg
        have:=HDK.out
        rw [hc]at this;cases this
    case stop =>
      rintro D cc xs V hD hp h hK
      have hDN:N≤D:=by have:=HN.out;omega
      rcases h with⟨rfl,q,y,vo,rfl,a3,a4,a5,a6,a7,a8,a9,a10,a11⟩|⟨rfl,a6,hlen,a1,vo,a3,a4⟩
      · have HR24:Hid (R24 L most (q.map (·.1)) y.1 y.2):=.inr (.inl ⟨by rw[zeros a4];exact hp,a3,by simpa using a5⟩)
        obtain ⟨A',c',hv',_⟩:=a7.at_
        obtain ⟨n',hn'⟩:∃n',n'=(q.map (·.1)).length:=⟨_,rfl⟩
        rw [←hn']at hv'
        clear hn'
        subst hv'
        clear a3 a4 a5 hp hD
        have OD:=Only.putObj V D (.deferred none)
        have r12:=(OD.has a8 (by simp;omega)).cell 0
        have r13:=OD.has a9 (by simp;omega)
        have r130:=r13.cell 0
        have r131:=r13.cell 1
        have r132:=r13.cell 2
        have r133:=r13.cell 3
        have r14:=(OD.has a10 (by simp;omega)).cell 0
        have r15:=(OD.has a11 (by simp;omega)).cell 0
        gi_wp2
        refine ⟨by simp,.inl ⟨_,_,rfl,run_takeDeferred hK,?_⟩⟩
        refine ⟨.tuple #[.slice A' n' c',.agg (spotC y.1).toArray,.int .i64 y.2,.bool true],by simp[results,Tryz.results14,go_sem,r12,r130,r131,r132,r133,r14,r15],.slice A' n' c',q.map (·.1),y.1,y.2,rfl,HR24.out,?_,OD.after a6 (fun z hz=>by simp at hz;omega)⟩
        refine (a7.only OD fun g hg hm=>?_).base (by omega)
        simp at hm
        subst hm
        obtain ⟨t,⟨cc,f,hc⟩,_⟩:=a7.ownB hg
        rw [hc]at hK;cases hK
      · have HR24:Hid (R24 L most (xs.map (·.1)) spotZ 0):=.inr (.inr ⟨by rw[zeros a6];exact hp,by simpa using hlen,rfl,rfl⟩)
        clear a6 hlen hp hD
        have EV:=HE1.out.trans a1
        have V12:=HH12.out.ext (HE4.out.trans a1)
        have V13:=HH13.out.ext (HE4.out.trans a1)
        have V14:=HH14.out.ext (HE4.out.trans a1)
        have V15:=HH15.out.ext (HE4.out.trans a1)
        obtain ⟨A',c',hv',_⟩:=a4.at_
        obtain ⟨n',hn'⟩:∃n',n'=(xs.map (·.1)).length:=⟨_,rfl⟩
        rw [←hn']at hv'
        clear hn'
        subst hv'
        have c17:=a3.cell 0
        have z17:=a3.lt
        have c12:=V12.cell 0
        have f12:=V12.free 0
        have z12:=V12.lt
        have HA4:=Lib.hid a4
        have HV12:=Lib.hid V12
        have HV13:=Lib.hid V13
        have HV14:=Lib.hid V14
        have HV15:=Lib.hid V15
        have HEV:=Lib.hid EV
        have HDK:=Lib.hid hK
        have KV:Hid (∀w9,Only [b13] (V.setCell ⟨b12,0,none⟩ (.slice A' n' c')) w9→(w9.cell? ⟨b14,0,none⟩=some (.int .i64 0)∧w9.frozen? ⟨b14,0,none⟩=(decide (0≤0)&&decide (0<0))∧b14<w9.heap.size∧w9.cell? ⟨b15,0,none⟩=some (.bool false)∧w9.frozen? ⟨b15,0,none⟩=(decide (0≤0)&&decide (0<0))∧b15<w9.heap.size∧Has w9 b14 (.cells #[.int .i64 0] 3)∧Has w9 b15 (.cells #[.bool false] 4)∧Has w9 b12 (.cells #[.slice A' n' c'] 39)∧Only [b12,b13,b14,b15] V w9)):=by
          show ∀_,_
          intro w9 o9
          have o8:=Only.setCell V b12 0 (.slice A' n' c')
          have g14:=o9.has (o8.has HV14.out (by simp;omega)) (by simp;omega)
          have g15:=o9.has (o8.has HV15.out (by simp;omega)) (by simp;omega)
          have g12:=o9.has (Has.setCell HV12.out 0 (.slice A' n' c')) (by simp;omega)
          exact ⟨g14.cell 0,g14.free 0,g14.lt,g15.cell 0,g15.free 0,g15.lt,g14,g15,g12,(o8.mono (by simp)).then (o9.mono (by simp))⟩
        have H13':=Lib.hid ((Only.setCell V b12 0 (.slice A' n' c')).has HV13.out (by simp;omega))
        clear a1 a3 a4 V12 V13 V14 V15 EV hK
        gi_wp2_with (refine wpListIn_store_spot rfl _ _ rfl b13 spotZ spotZ rfl rfl H13'.out ?_;intro w9 R9 O9;obtain⟨c14,f14,z14,c15,f15,z15,g14,g15,g12,OA⟩:=KV.out w9 O9)
        obtain ⟨V2,hV2⟩:∃V2,V2=(w9.setCell ⟨b14,0,none⟩ (.int .i64 0)).setCell ⟨b15,0,none⟩ (.bool true):=⟨_,rfl⟩
        rw [←hV2]
        have o14:=Only.setCell w9 b14 0 (.int .i64 0)
        have o15:=Only.setCell (w9.setCell ⟨b14,0,none⟩ (.int .i64 0)) b15 0 (.bool true)
        have q12:Has V2 b12 (.cells #[.slice A' n' c'] 39):=by rw[hV2];exact o15.has (o14.has g12 (by simp;omega)) (by simp;omega)
        have q13:Has V2 b13 (.cells (spotC spotZ).toArray 41):=by rw[hV2];exact o15.has (o14.has R9 (by simp;omega)) (by simp;omega)
        have q14:Has V2 b14 (.cells #[.int .i64 0] 3):=by rw[hV2];exact o15.has (Has.setCell g14 0 _) (by simp;omega)
        have q15:Has V2 b15 (.cells #[.bool true] 4):=by rw[hV2];exact Has.setCell (o14.has g15 (by simp;omega)) 0 _
        have OB:Only [b12,b13,b14,b15] V V2:=by rw[hV2];exact OA.then ((o14.mono (by simp)).then (o15.mono (by simp)))
        have hK2:=OB.has HDK.out (by simp;omega)
        refine ⟨by simp,.inl ⟨_,_,rfl,run_takeDeferred hK2,?_⟩⟩
        have OD:=Only.putObj V2 D (.deferred none)
        have OC:Only [b12,b13,b14,b15,D] V (V2.putObj D (.deferred none)):=(OB.mono (by simp)).then (OD.mono (by simp))
        have r12:=(OD.has q12 (by simp;omega)).cell 0
        have r13:=OD.has q13 (by simp;omega)
        have r130:=r13.cell 0
        have r131:=r13.cell 1
        have r132:=r13.cell 2
        have r133:=r13.cell 3
        have r14:=(OD.has q14 (by simp;omega)).cell 0
        have r15:=(OD.has q15 (by simp;omega)).cell 0
        refine ⟨.tuple #[.slice A' n' c',.agg (spotC spotZ).toArray,.int .i64 0,.bool true],by simp[results,Tryz.results14,go_sem,r12,r130,r131,r132,r133,r14,r15],.slice A' n' c',xs.map (·.1),spotZ,0,rfl,HR24.out,?_,OC.after HEV.out (fun z hz=>by simp at hz;omega)⟩
        refine (HA4.out.only OC fun g hg hm=>?_).base (by omega)
        have hgN:=(HA4.out.lt hg).1
        simp at hm
        rcases hm with hm|hm|hm|hm|hm
        · omega
        · omega
        · omega
        · omega
        · subst hm
          obtain ⟨t,⟨cc,f,hc⟩,_⟩:=HA4.out.ownB hg
          have:=HDK.out
          rw [hc]at this;cases this
end Go.Proofs.YtpibnfdolojpcaaGreat
