import Derived.Test.YtpibnfdolojpcaaGreatBunP
set_option maxHeartbeats 8000000
set_option maxRecDepth 100000
namespace Go.Proofs.YtpibnfdolojpcaaGreat
def upS:List SpotD→List SpotD→List SpotD
 | [],[]=>[]
 | x::w,[]=>x::upS w []
 | [],y::l=>upS [y] l
 | x::w,y::l=>if y.depth≤x.depth then x::upS w (y::l) else upS (y::x::w) l
termination_by w l=>2*l.length+w.length
def WayUp:List (SpotD×List SpotD)→Prop
 | []=>True
 | f::way=>(∀z∈f.2,z.depth=f.1.depth+1)∧(∀g∈way,g.1.depth<f.1.depth)∧WayUp way
theorem WayUp.left {way:List (SpotD×List SpotD)} (h:WayUp way):∀f∈way,∀z∈f.2,z.depth=f.1.depth+1:=by
 induction way with
 | nil=>intro f hf;cases hf
 | cons g way ih =>
  intro f hf;rcases List.mem_cons.1 hf with rfl|hf
  ·exact h.1
  ·exact ih h.2.2 f hf
theorem up_down {s:SysD} (hd:s.dead=false) {cu cg:Int} {todo l:List SpotD} {b:SpotD} {e:Int} (h:DownR s.t cu cg todo l b e) :
  ∀ (way:List (SpotD×List SpotD)),todo=way.flatMap (·.2)→WayUp way→∀pre:List (SpotD×Int),∃M L,UpR (fun _=>s) (fun _=>True) cu cg pre way M L∧M≤2*l.length+way.length+1∧L.length≤l.length+way.length+1 ∧
   (e=0→L=(upS (way.map (·.1)) l).map (fun x=>(x,0)))∧(e≠0→∃q:List SpotD,L=q.map (fun x=>(x,0))++[(b,e)]):=by
 induction h with
 | nil =>
  intro way
  induction way with
  | nil=>intro _ _ pre;exact⟨0,[],.nil _,by simp,by simp,fun _=>by simp[upS],fun h=>absurd rfl h⟩
  | cons f way ih =>
   intro ht hw pre;obtain ⟨x,left⟩:=f
   cases left with
   | cons y left=>simp at ht
   | nil =>
    obtain ⟨M,L,h1,h2,h3,h4,h5⟩:=ih (by simpa using ht) hw.2.2 (pre++[(x,0)]);refine ⟨M+1,(x,0)::L,.take (fun _=>h1),by simp only[List.length_cons];omega,by simp only[List.length_cons];omega,fun he=>?_,fun h=>absurd rfl h⟩;rw [h4 he];simp [upS]
 | bad hx =>
  rename_i z t;intro way
  induction way with
  | nil=>intro ht;simp at ht
  | cons f way ih =>
   intro ht hw pre;obtain ⟨x,left⟩:=f
   cases left with
   | nil =>
    obtain ⟨M,L,h1,h2,h3,h4,h5⟩:=ih (by simpa using ht) hw.2.2 (pre++[(x,0)]);refine ⟨M+1,(x,0)::L,.take (fun _=>h1),by simp only[List.length_cons];omega,by simp only[List.length_cons];omega,fun he=>absurd he hx,fun he=>?_⟩;obtain ⟨q,hq⟩:=h5 he;exact ⟨x::q,by rw[hq];rfl⟩
   | cons y left =>
    obtain ⟨rfl,_⟩:z=y∧t=left++way.flatMap (·.2):=by simpa using ht
    have hi:=(in_alive hd cu cg z).1;refine ⟨0+1,[(z,inE s cu cg z)],.bad (by rw[hi];exact hx),by omega,by simp only[List.length_cons,List.length_nil];omega,fun he=>absurd he hx,fun _=>⟨[],by rw[hi];rfl⟩⟩
 | step hx hr ih0 =>
  rename_i z t l' b e;intro way
  induction way with
  | nil=>intro ht;simp at ht
  | cons f way ih =>
   intro ht hw pre;obtain ⟨x,left⟩:=f
   cases left with
   | nil =>
    have ht2:z::t=way.flatMap (·.2):=by simpa using ht
    obtain ⟨M,L,h1,h2,h3,h4,h5⟩:=ih ht2 hw.2.2 (pre++[(x,0)]);refine ⟨M+1,(x,0)::L,.take (fun _=>h1),by simp only[List.length_cons]at *;omega,by simp only[List.length_cons]at *;omega,fun he=>?_,fun he=>?_⟩
    ·rw [h4 he,List.map_cons]
     have hz:z.depth≤x.depth:=by
      have hm:z∈way.flatMap (·.2):=by rw[←ht2];exact List.mem_cons_self ..
      obtain ⟨g,hg,hzg⟩:=List.mem_flatMap.1 hm;have h6:=hw.2.2.left g hg z hzg;have h7:=hw.2.1 g hg;simp only at h7;omega
     rw [upS,if_pos hz,List.map_cons]
    ·obtain ⟨q,hq⟩:=h5 he
     exact ⟨x::q,by rw[hq];rfl⟩
   | cons y left =>
    obtain ⟨rfl,rfl⟩:z=y∧t=left++way.flatMap (·.2):=by simpa using ht
    have hi:=in_alive hd cu cg z;have hdz:z.depth=x.depth+1:=hw.1 z (List.mem_cons_self ..);obtain ⟨M,L,h1,h2,h3,h4,h5⟩:=ih0 ((z,intoL s.t cu cg z)::(x,left)::way) (by simp) ⟨fun u hu=>intoL_depth hu,fun g hg=>by
     rcases List.mem_cons.1 hg with rfl|hg
     ·simp only;omega
     ·have:=hw.2.1 g hg;simp only at this⊢;omega,fun u hu=>hw.1 u (List.mem_cons_of_mem _ hu),hw.2.1,hw.2.2⟩ pre
    refine ⟨M+1,L,.push (by rw[hi.1];exact hx) (by rw[hi.2];exact h1),by simp only[List.length_cons]at *;omega,by simp only[List.length_cons]at *;omega,fun he=>?_,h5⟩;rw [h4 he];simp only[List.map_cons];rw [upS,if_neg (by omega)]
theorem up_is {s:SysD} {cu cg dir:Int} {nm:List UInt8} {l:List SpotD} {b:SpotD} {e:Int} (h:DownT s cu cg dir nm l b e) :
  ∃ M L,UpT (fun _=>s) (fun _=>True) cu cg dir nm M L∧M≤2*l.length+2∧L.length≤l.length+2∧(e=0→L=(upS [] l).map (fun x=>(x,0)))∧(e≠0→∃q:List SpotD,L=q.map (fun x=>(x,0))++[(b,e)]):=by
 rcases h with⟨h1,rfl,rfl,rfl⟩|⟨h1,hd,h2⟩
 ·exact⟨0,_,.inl ⟨h1,rfl⟩,by simp,by simp,fun h=>absurd h h1,fun _=>⟨[],rfl⟩⟩
 ·have hi:=in_alive hd cu cg (firstX s cu cg dir nm)
  cases h2 with
  | bad hx=>exact⟨0,_,.inr (.inl ⟨h1,by rw[hi.1];exact hx,rfl⟩),by simp,by simp,fun h=>absurd h hx,fun _=>⟨[],by rw[hi.1];rfl⟩⟩
  | step hx hr =>
   rename_i l';obtain ⟨M,L,k1,k2,k3,k4,k5⟩:=up_down hd hr [(firstX s cu cg dir nm,intoL s.t cu cg (firstX s cu cg dir nm))] (by simp) ⟨fun u hu=>intoL_depth hu,fun g hg=>(by cases hg),trivial⟩ [];refine ⟨M,L,.inr (.inr ⟨h1,by rw[hi.1];exact hx,by rw[hi.2];exact k1⟩),by simp only[List.length_cons,List.length_nil]at *;omega,by simp only[List.length_cons,List.length_nil]at *;omega,fun he=>?_,k5⟩;rw [k4 he];rw [upS];rfl
open Go.ChangeShapes Go.WideShapes Go.ChangeAt Go.RowKit
theorem SpotsAt.at_ {w:World} {A:Option Addr} {l:List SpotD} (h:SpotsAt w A l) {k:Nat} (hk:k<l.length):∃b o,A=some ⟨b,o,none⟩∧b<w.heap.size∧w.cell? ⟨b,o+k*4,none⟩=some (.int .i64 l[k].dir)∧w.cell? ⟨b,o+k*4+1,none⟩=some (.string (bs l[k].name))∧w.cell? ⟨b,o+k*4+2,none⟩=some (.int .i64 l[k].no)∧w.cell? ⟨b,o+k*4+3,none⟩=some (.int .i64 l[k].depth):=by
 rcases h with h|⟨b,o,hA,hb,hc⟩
 ·rw[h]at hk;cases hk
 ·exact⟨b,o,hA,hb,hc k hk 0 (by decide),hc k hk 1 (by decide),hc k hk 2 (by decide),hc k hk 3 (by decide)⟩
theorem OwnP.last {w:World} {base:Nat} {v:Value} {l:List SpotD} {x:SpotD} (h:OwnP w base v (l++[x])):∃g cap,v=.slice (some ⟨g,0,none⟩) (l.length+1) cap∧base≤g∧g<w.heap.size∧l.length+1≤cap∧OwnP w base (.slice (some ⟨g,0,none⟩) l.length cap) l ∧
  w.cell? ⟨g,l.length*4,none⟩=some (.int .i64 x.dir)∧w.cell? ⟨g,l.length*4+1,none⟩=some (.string (bs x.name))∧w.cell? ⟨g,l.length*4+2,none⟩=some (.int .i64 x.no)∧w.cell? ⟨g,l.length*4+3,none⟩=some (.int .i64 x.depth):=by
 have hl:(l++[x]).length=l.length+1:=by simp
 rcases h.cases with⟨_,h2⟩|⟨g,cap,cur,rfl,h2,h3,h4,h5,h6⟩
 ·simp at h2
 ·have hx:∀h,(l++[x])[l.length]'h=x:=fun h=>by rw[List.getElem_append_right (Nat.le_refl _)];simp
  have hc:=h6 l.length (by omega);rw [hx]at hc;rw [hl]at h4;exact ⟨g,cap,by rw[hl],h2,h3.lt,h4,h.pop,hc 0 (by decide),hc 1 (by decide),hc 2 (by decide),hc 3 (by decide)⟩
theorem upS_nil (x:SpotD) (w:List SpotD):upS (x::w) []=x::upS w []:=by rw[upS]
theorem upS_none:upS [] []=[]:=by rw[upS]
theorem upS_start (y:SpotD) (l:List SpotD):upS [] (y::l)=upS [y] l:=by rw[upS]
theorem upS_pop {x y:SpotD} {w l:List SpotD} (h:y.depth≤x.depth):upS (x::w) (y::l)=x::upS w (y::l):=by rw[upS,if_pos h]
theorem upS_push {x y:SpotD} {w l:List SpotD} (h:¬y.depth≤x.depth):upS (x::w) (y::l)=upS (y::x::w) l:=by rw[upS,if_neg h]
theorem rup24 (A:Option Addr) (l:List SpotD) (cap:Nat) (w:World) (hA:SpotsAt w A l) (hl:l.length≤1000000) :
  Calls Tryz.prog 18 #[.slice A l.length cap] w (fun e w'=>∃v,e=.returned v∧OwnP w' w.heap.size v (upS [] l)∧Ext w w'):=by
 obtain ⟨n,hn⟩:∃n,n=l.length:=⟨_,rfl⟩;rw [←hn]at hl⊢;obtain ⟨R,hR⟩:∃R,R=upS [] l:=⟨_,rfl⟩;rw [←hR];have HN:=Lib.hid hn;have HR0:=Lib.hid hR;have HA:=Lib.hid hA;clear hn hR hA;go_enter Tryz.func18,Tryz.ntmps18;go_wp2_with fail;go_loopw [3,4,5] (fun vo vw vi wr=>∃(k:Nat) (o s:List SpotD),vi=.int .i64 k∧k≤n∧OwnP wr w.heap.size vo o∧OwnP wr w.heap.size vw s.reverse∧(∀g,vo.ownBlock=some g→vw.ownBlock≠some g)∧Ext w wr∧o.length+s.length≤k∧o++upS s (l.drop k)=R) (fun _ _ vi _=>n-(intOf vi).toNat)
 case atStart=>exact⟨0,[],[],rfl,Nat.zero_le _,OwnP.nil _ _,OwnP.nil _ _,fun g hg=>(by cases hg),Ext.refl _,Nat.le_refl _,by rw[HR0.out];rfl⟩
 case round =>
  obtain ⟨k,o,s,rfl,hk,hO,hS,hap,hE,hlen,hR⟩:=hrel;obtain ⟨Ao,capo,rfl,_,_,_,_⟩:=hO.at_;obtain ⟨As,caps,rfl,hcs,_,_,_⟩:=hS.at_
  by_cases hlt:(k:Int)<n
  case neg =>
   have hdr:l.drop k=[]:=List.drop_eq_nil_of_le (by have:=HN.out;omega);rw [hdr]at hR;have HX:=Lib.hid (show ∃(v1 v2:Value),v1=.slice Ao o.length capo∧v2=.slice As s.reverse.length caps∧OwnP wr w.heap.size v1 o∧OwnP wr w.heap.size v2 s.reverse∧(∀g,v1.ownBlock=some g→v2.ownBlock≠some g)∧Ext w wr∧o.length+s.length≤1000000∧o++upS s []=R from⟨_,_,rfl,rfl,hO,hS,hap,hE,by omega,hR⟩);obtain ⟨no,hno⟩:∃no,no=o.length:=⟨_,rfl⟩;obtain ⟨ns,hns⟩:∃ns,ns=s.reverse.length:=⟨_,rfl⟩;have hns2:ns≤1000000:=by rw[hns,List.length_reverse];omega
   rw [←hno,←hns]at HX⊢;have HNS:=Lib.hid hns;have HNO:=Lib.hid hno;clear hdr hR hO hS hap hE hlen hno hns hcs;go_wp2_with fail;go_loopg [3,4] ns (fun m vo vw wr=>∃(o s:List SpotD),OwnP wr w.heap.size vo o∧OwnP wr w.heap.size vw s.reverse∧(∀g,vo.ownBlock=some g→vw.ownBlock≠some g)∧Ext w wr∧o.length+s.length≤1000000∧o++upS s []=R∧m=s.length)
   case atStart =>
    obtain ⟨_,_,rfl,rfl,h1,h2,h3,h4,h5,h6⟩:=HX.out;exact ⟨_,_,h1,h2,h3,h4,by rw[←HNO.out];exact h5,h6,by rw[HNS.out,List.length_reverse]⟩
   case round =>
    clear HX HNS HNO hns2 hlt hk;obtain ⟨o2,s2,hO,hS,hap,hE,hlen,hR,hm⟩:=hrel;obtain ⟨Ao2,capo2,rfl,_,_,_,_⟩:=hO.at_
    cases s2 with
    | nil =>
     obtain ⟨As2,caps2,rfl,hcs,_,_,_⟩:=hS.at_;have hf:Hid (o2=R):=by show _=_;rw[upS_none,List.append_nil]at hR;exact hR
     have HO:=Lib.hid hO;have HE:=Lib.hid hE;obtain ⟨no2,hno2⟩:∃no,no=o2.length:=⟨_,rfl⟩;rw [←hno2]at HO⊢;clear hR hO hS hap hE hlen hm hno2;simp only[List.reverse_nil,List.length_nil];go_wp2_with fail;go_ret;exact ⟨_,rfl,by rw[←hf.out];exact HO.out,HE.out⟩
    | cons x s2 =>
     rw [List.reverse_cons]at hS;obtain ⟨gs,caps2,rfl,hgb,hgl,hgc,hP,q0,q1,q2,q3⟩:=hS.last;obtain ⟨T,hT⟩:∃T,T=s2.reverse.length:=⟨_,rfl⟩;rw [←hT]at hgc hP q0 q1 q2 q3⊢;have hT2:T=s2.length:=by rw[hT,List.length_reverse]
     have hT3:T≤1000000:=by rw[List.length_cons]at hlen;omega
     obtain ⟨v6,w6,hr6,hO6,hg6,hb6⟩:=app_spot wr hO hE.size x (by omega);have E6:Ext w w6:=(hE.alloc _).grown hg6 (fun g hv=>(hO.lt hv).1);have o6:Only (Value.slice Ao2 o2.length capo2).ownBlock.toList wr w6:=(Only.allocN _ _ _).then (Only.of_grownBy hg6 (fun g hv=>Option.mem_toList.2 hv));have P6:OwnP w6 w.heap.size (.slice (some ⟨gs,0,none⟩) T caps2) s2.reverse:=hP.only o6 (fun g hv hm=>hap g (Option.mem_toList.1 hm) hv);have hap6:∀g,v6.ownBlock=some g→(Value.slice (some ⟨gs,0,none⟩) T caps2).ownBlock≠some g:=fun g hg he=>by
      rcases hb6 with e|e
      ·rw[e]at hg;exact hap g hg he
      ·rw[e]at hg;have h1:=Option.some.inj hg;have h2:gs=g:=Option.some.inj he;omega
     have HR6:=Lib.hid hr6;have HO6:=Lib.hid hO6;have HP6:=Lib.hid P6;have HAP6:=Lib.hid hap6;have HE6:=Lib.hid E6;have HRR:=Lib.hid (show (o2++[x])++upS s2 []=R by rw[upS_nil]at hR;rw[←hR,List.append_assoc];rfl);have HT2:=Lib.hid hT2;have HM:=Lib.hid hm;have p0:(0:Int)≤(T:Int):=Int.natCast_nonneg _;have w2w:IntKind.i64.wrap ((T:Int)+1-1)=(T:Int):=by rw[IntWalk.i64_in _ (by omega)];omega
     have w1w:IntKind.i64.wrap (T:Int)=(T:Int):=IntWalk.i64_in _ (by omega);obtain ⟨no2,hno2⟩:∃no,no=o2.length:=⟨_,rfl⟩;have hlen2:Hid ((o2++[x]).length+s2.length≤1000000):=by show _≤_;rw[List.length_cons]at hlen;rw[List.length_append,List.length_singleton];omega
     rw [←hno2]at HR6⊢;clear hR hO hS hap hE hlen hm hT hP hr6 hO6 hg6 hb6 E6 o6 P6 hap6 hT2 hno2;go_wp2_with (at_builtin;refine Lib.wpList_append_run _ rfl _ _ 39 39 rfl _ _ rfl rfl _ _ HR6.out ?_);go_roundg T
     case measure=>rw[HM.out,HT2.out];simp
     case rel=>exact⟨_,s2,HO6.out,HP6.out,HAP6.out,HE6.out,hlen2.out,HRR.out,HT2.out⟩
  case pos =>
   have hkl:k<l.length:=by have:=HN.out;omega
   have hdr:=List.drop_eq_getElem_cons hkl;obtain ⟨y,hy⟩:∃y,y=l[k]:=⟨_,rfl⟩;rw [hdr,←hy]at hR;have HY:=Lib.hid hy;have HX:=Lib.hid (show ∃(v1 v2:Value),v1=.slice Ao o.length capo∧v2=.slice As s.reverse.length caps∧OwnP wr w.heap.size v1 o∧OwnP wr w.heap.size v2 s.reverse∧(∀g,v1.ownBlock=some g→v2.ownBlock≠some g)∧Ext w wr∧o.length+s.length≤k∧o++upS s (y::l.drop (k+1))=R from⟨_,_,rfl,rfl,hO,hS,hap,hE,hlen,hR⟩);obtain ⟨no,hno⟩:∃no,no=o.length:=⟨_,rfl⟩;obtain ⟨ns,hns⟩:∃ns,ns=s.reverse.length:=⟨_,rfl⟩;have HNS:=Lib.hid hns;have hns2:ns≤1000000:=by rw[hns,List.length_reverse];omega
   rw [←hno,←hns]at HX⊢;have HNO:=Lib.hid hno;clear hdr hR hO hS hap hE hlen hno hns hy hcs;go_wp2_with fail;go_loopg [3,4] ns (fun m vo vw wr=>∃(o s:List SpotD),OwnP wr w.heap.size vo o∧OwnP wr w.heap.size vw s.reverse∧(∀g,vo.ownBlock=some g→vw.ownBlock≠some g)∧Ext w wr∧o.length+s.length≤k∧o++upS s (y::l.drop (k+1))=R∧m=s.length)
   case atStart =>
    obtain ⟨_,_,rfl,rfl,h1,h2,h3,h4,h5,h6⟩:=HX.out;exact ⟨_,_,h1,h2,h3,h4,by rw[←HNO.out];exact h5,h6,by rw[HNS.out,List.length_reverse]⟩
   case round =>
    clear HX HNS HNO hns2;obtain ⟨o2,s2,hO,hS,hap,hE,hlen,hR,hm⟩:=hrel;obtain ⟨Ao2,capo2,rfl,_,_,_,_⟩:=hO.at_;obtain ⟨ba,oa,rfl,hba,e0,e1,e2,e3⟩:=(HA.out.ext hE).at_ hkl;rw [←HY.out]at e0 e1 e2 e3;have k0:(0:Int)≤(k:Int):=Int.natCast_nonneg _;have w3w:IntKind.i64.wrap ((k:Int)+1)=(k:Int)+1:=IntWalk.i64_in _ (by omega);have push:∀(u:World) (vw:Value),Ext wr u→OwnP wr w.heap.size vw s2.reverse→(∀g,(Value.slice Ao2 o2.length capo2).ownBlock=some g→vw.ownBlock≠some g)→(o2++upS (y::s2) (l.drop (k+1))=R)→∃v8 w8,(Builtin.append_ #[39,39] 39 #[vw,.slice (some ⟨u.heap.size,0,none⟩) 1 1]).run Tryz.prog (u.alloc (.cells (spotC y).toArray 41))=.ok v8 w8 ∧
      OwnP w8 w.heap.size (.slice Ao2 o2.length capo2) o2∧OwnP w8 w.heap.size v8 (y::s2).reverse∧(∀g,(Value.slice Ao2 o2.length capo2).ownBlock=some g→v8.ownBlock≠some g)∧Ext w w8∧o2.length+(y::s2).length≤k+1∧o2++upS (y::s2) (l.drop (k+1))=R:=by
     intro u vw Eu hS hap hR;have hO:=hO.ext Eu;have hS:=hS.ext Eu;have hE:=hE.trans Eu;obtain ⟨v8,w8,hr8,hO8,hg8,hb8⟩:=app_spot u hS hE.size y (by rw[List.length_reverse];omega);have E8:Ext w w8:=(hE.alloc _).grown hg8 (fun g hv=>(hS.lt hv).1);have o8:Only vw.ownBlock.toList u w8:=(Only.allocN _ _ _).then (Only.of_grownBy hg8 (fun g hv=>Option.mem_toList.2 hv));refine ⟨v8,w8,hr8,hO.only o8 (fun g hv hm=>hap g hv (Option.mem_toList.1 hm)),by rw[List.reverse_cons];exact hO8,fun g hg he=>?_,E8,by rw[List.length_cons];omega,hR⟩;rcases hb8 with e|e
     ·rw[e]at he;exact hap g hg he
     ·rw[e]at he;have h1:=Option.some.inj he;have:=(hO.lt hg).2;omega
    have HPUSH:=Lib.hid push;have HBA:=Lib.hid hba
    cases s2 with
    | nil =>
     obtain ⟨As2,caps2,rfl,hcs,_,_,_⟩:=hS.at_;have HP:=Lib.hid (fun u (hu:Ext wr u)=>push u _ hu hS hap (by rw[←upS_start];exact hR));have HOE:=Lib.hid hE;obtain ⟨no2,hno2⟩:∃no,no=o2.length:=⟨_,rfl⟩;have HNO2:=Lib.hid hno2;rw [←hno2]at HP⊢;clear push HPUSH hR hO hS hap hE hlen hm hcs hno2;simp only[List.reverse_nil,List.length_nil]at HP⊢;go_upto_region 5 with fail;go_quiet (fail);obtain ⟨wd,hwd⟩:∃u,u=wr.drewN nq:=⟨_,rfl⟩;have Ed:Ext wr wd:=by rw[hwd];exact (Ext.refl _).drewN nq
     rw [←hwd];clear hwd;obtain ⟨v8,w8,hr8,h1,h2,h3,h4,h5,h6⟩:=HP.out wd Ed;have HR8:=Lib.hid hr8;have HQ:=Lib.hid (show _∧_∧_∧_∧_∧_ from⟨h1,h2,h3,h4,h5,h6⟩);have e0':=(Ed.cell HBA.out).trans e0;have e1':=(Ed.cell HBA.out).trans e1;have e2':=(Ed.cell HBA.out).trans e2;have e3':=(Ed.cell HBA.out).trans e3;have ez':ba<wd.heap.size:=by have:=Ed.size;have:=HBA.out;omega
     clear e0 e1 e2 e3 hr8 h1 h2 h3 h4 h5 h6 HP;go_wp2_with (at_builtin;refine Lib.wpList_append_run _ rfl _ _ 39 39 rfl _ _ rfl rfl _ _ HR8.out ?_);go_roundw
     case rel =>
      obtain ⟨h1,h2,h3,h4,h5,h6⟩:=HQ.out;exact ⟨k+1,o2,[y],by go_num,by omega,h1,h2,h3,h4,(by rw[←HNO2.out];exact h5),h6⟩
     case measure=>simp[intOf];omega
    | cons x s2 =>
     have hS0:=hS;rw [List.reverse_cons]at hS;obtain ⟨gs,caps2,rfl,hgb,hgl,hgc,hP,q0,q1,q2,q3⟩:=hS.last;obtain ⟨T,hT⟩:∃T,T=s2.reverse.length:=⟨_,rfl⟩;rw [←hT]at hgc hP q0 q1 q2 q3 hS0 hap⊢;have hT2:T=s2.length:=by rw[hT,List.length_reverse]
     have hT3:T≤1000000:=by rw[List.length_cons]at hlen;omega
     have p0:(0:Int)≤(T:Int):=Int.natCast_nonneg _;have w2w:IntKind.i64.wrap ((T:Int)+1-1)=(T:Int):=by rw[IntWalk.i64_in _ (by omega)];omega
     have w1w:IntKind.i64.wrap (T:Int)=(T:Int):=IntWalk.i64_in _ (by omega);have HO:=Lib.hid hO;have HE:=Lib.hid hE;have HAP:=Lib.hid hap;have HPP:=Lib.hid hP;have HRR0:=Lib.hid hR;have HLEN:=Lib.hid hlen;have HT2:=Lib.hid hT2;have HM:=Lib.hid hm;have HS0:=Lib.hid hS0;obtain ⟨no2,hno2⟩:∃no,no=o2.length:=⟨_,rfl⟩;have HNO2:=Lib.hid hno2;rw [←hno2]at HO HAP⊢;clear push hO hE hap hP hR hlen hT2 hm hS hS0 hT hno2
     by_cases hd:y.depth≤x.depth
     case pos =>
      have td:decide (y.depth≤x.depth)=true:=decide_eq_true hd;have HD:=Lib.hid hd;clear hd;go_upto_region 5 with fail;go_quiet (fail);obtain ⟨wd,hwd⟩:∃u,u=wr.drewN nq:=⟨_,rfl⟩;have Ed:Ext wr wd:=by rw[hwd];exact (Ext.refl _).drewN nq
      rw [←hwd];clear hwd;have hO:=HO.out.ext Ed;have hE:=HE.out.trans Ed;have hP:=HPP.out.ext Ed;have hsd:=Ed.size;have q0':=(Ed.cell hgl).trans q0;have q1':=(Ed.cell hgl).trans q1;have q2':=(Ed.cell hgl).trans q2;have q3':=(Ed.cell hgl).trans q3;have qz':gs<wd.heap.size:=by omega
      rw [HNO2.out]at hO;have hap0:=HAP.out;rw [HNO2.out]at hap0;obtain ⟨v6,w6,hr6,hO6,hg6,hb6⟩:=app_spot wd hO hE.size x (by have:=HLEN.out;omega);have E6:Ext w w6:=(hE.alloc _).grown hg6 (fun g hv=>(hO.lt hv).1);have o6:Only (Value.slice Ao2 o2.length capo2).ownBlock.toList wd w6:=(Only.allocN _ _ _).then (Only.of_grownBy hg6 (fun g hv=>Option.mem_toList.2 hv));have P6:OwnP w6 w.heap.size (.slice (some ⟨gs,0,none⟩) T caps2) s2.reverse:=hP.only o6 (fun g hv hm=>hap0 g (Option.mem_toList.1 hm) hv);have hap6:∀g,v6.ownBlock=some g→(Value.slice (some ⟨gs,0,none⟩) T caps2).ownBlock≠some g:=fun g hg he=>by
       rcases hb6 with e|e
       ·rw[e]at hg;exact hap0 g hg he
       ·rw[e]at hg;have h1:=Option.some.inj hg;have h2:gs=g:=Option.some.inj he;omega
      rw [←HNO2.out]at hr6;have HR6:=Lib.hid hr6;have HO6:=Lib.hid hO6;have HP6:=Lib.hid P6;have HAP6:=Lib.hid hap6;have HE6:=Lib.hid E6;have HRR:=Lib.hid (show (o2++[x])++upS s2 (y::l.drop (k+1))=R by have hR:=HRR0.out;rw[upS_pop HD.out]at hR;rw[←hR,List.append_assoc];rfl);have hlen2:Hid ((o2++[x]).length+s2.length≤k):=by show _≤_;have hlen:=HLEN.out;rw[List.length_cons]at hlen;rw[List.length_append,List.length_singleton];omega
      clear hap0 hO hE hP hr6 hO6 hg6 hb6 E6 o6 P6 hap6 q0 q1 q2 q3 e0 e1 e2 e3;go_wp2_with (at_builtin;refine Lib.wpList_append_run _ rfl _ _ 39 39 rfl _ _ rfl rfl _ _ HR6.out ?_);go_roundg T
      case measure=>rw[HM.out,HT2.out];simp
      case rel=>exact⟨_,s2,HO6.out,HP6.out,HAP6.out,HE6.out,hlen2.out,HRR.out,HT2.out⟩
     case neg =>
      have td:decide (y.depth≤x.depth)=false:=decide_eq_false hd;have HD:=Lib.hid hd;clear hd;go_upto_region 5 with fail;go_quiet (fail);obtain ⟨wd,hwd⟩:∃u,u=wr.drewN nq:=⟨_,rfl⟩;have Ed:Ext wr wd:=by rw[hwd];exact (Ext.refl _).drewN nq
      rw [←hwd];clear hwd;have hap:=HAP.out;rw [HNO2.out]at hap;obtain ⟨v8,w8,hr8,h1,h2,h3,h4,h5,h6⟩:=HPUSH.out wd _ Ed HS0.out hap (by rw[←upS_push HD.out];exact HRR0.out);have HR8:=Lib.hid hr8;have HQ:=Lib.hid (show _∧_∧_∧_∧_∧_ from⟨h1,h2,h3,h4,h5,h6⟩);have e0':=(Ed.cell HBA.out).trans e0;have e1':=(Ed.cell HBA.out).trans e1;have e2':=(Ed.cell HBA.out).trans e2;have e3':=(Ed.cell HBA.out).trans e3;have ez':ba<wd.heap.size:=by have:=Ed.size;have:=HBA.out;omega
      clear q0 q1 q2 q3 e0 e1 e2 e3 hr8 h1 h2 h3 h4 h5 h6 hap HPUSH;go_wp2_with (at_builtin;refine Lib.wpList_append_run _ rfl _ _ 39 39 rfl _ _ rfl rfl _ _ HR8.out ?_);go_roundw
      case rel =>
       obtain ⟨h1,h2,h3,h4,h5,h6⟩:=HQ.out;rw [←HNO2.out]at h1 h3;exact ⟨k+1,o2,y::x::s2,by go_num,by omega,h1,h2,h3,h4,h5,h6⟩
      case measure=>simp[intOf];omega
end Go.Proofs.YtpibnfdolojpcaaGreat
