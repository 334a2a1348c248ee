import Derived.Test.YtpibnfdolojpcaaGreatBunD
import Derived.Test.YtpibnfdolojpcaaGreatBunA
import Derived.Test.YtpibnfdolojpcaaGreatBunB
import Derived.Test.YtpibnfdolojpcaaGreatShelf
import Derived.Test.YtpibnfdolojpcaaGreatBunC
import Derived.Lib.Builder
import Derived.Lib.AppendStr
set_option maxHeartbeats 8000000
set_option maxRecDepth 100000
namespace Go.Proofs.YtpibnfdolojpcaaGreat
open Go.Proofs.Tryz
open Go.ChangeShapes Go.WideShapes Go.ChangeAt Go.RowKit
variable {S:ag} {w w':World} {u uid g gid base:Int} {k B:Nat} {l:List aK}
section
def aC (S:ag) (no:Int):Int:=
 if (aa S.nodes no).kind=1 then
  if aI S.ae (aa S.nodes no).dev=no/\1<(aa S.nodes no).dev then (aa S.nodes (jq S.ae (aa S.nodes no).dev).over).up else (aa S.nodes no).up
 else 0
theorem nJ (B : Nat) (g:dL) (S:ag) (no:Int) (w:World) (h:eL w B g S) (hd:0<S.ae.length) (mZ:S.ae.length<=8) (hr:eV S.ae) (hu:aQ S.nodes S.last) :
  Calls prog 142 #[((),g.bW),no] w (aO w (.int .i64 (aC S no))):=by
 have hm:Hid (aC S no=if (aa S.nodes no).kind=1 then if aI S.ae (aa S.nodes no).dev=no/\1<(aa S.nodes no).dev then (aa S.nodes (jq S.ae (aa S.nodes no).dev).over).up else (aa S.nodes no).up else 0):=by show _=_;rfl
 go_in;go_wp2_with fail;refine (ir B g S _ h hd).mono ?_;rintro e w1 ⟨rfl,b1⟩;obtain⟨_,_,cd,hW,_⟩:=id (h.ext b1);have v0:=aA hW 0 rfl;have z1:=hW.lt;clear hW;go_wp2_with fail;refine (fW B g.bT g.bM S.nodes S.last no _ (h.ext b1).2.1).mono ?_;rintro e w2 ⟨A,c,rfl,gG,b2⟩;have hik:aW S.nodes no=false->(aa S.nodes no).kind=0:=fun hi=>by rw[(aP hi).1];rfl
 have Xc:aW S.nodes no=true->1<=no:=fun hi=>by
  obtain⟨k,hk,e⟩:=qh.1 hi;have:=(hu.2 _ (jh hk)).1;omega
 obtain⟨n,hn⟩:=ai (aa S.nodes no);obtain⟨i,hi⟩:=ai (aW S.nodes no);rw[<-hn]at gG hm hik;rw[<-hi]at hik Xc;rw[<-hn,<-hi];obtain⟨W3,cJ⟩:=ai (w2.alloc (.cells (n,A,c) 66));have iH:Ext w2 W3:=by rw[cJ];exact (Ext.refl _).alloc _
 obtain⟨b5,fu⟩:=ai w2.heap.size;have N3:Has W3 b5 (.cells (n,A,c) 66):=by rw[cJ,fu];exact Has.new _ _
 have E3:Ext w W3:=(b1.trans b2).trans iH;have qY:w.heap.size<=b5:=by rw[fu];exact (b1.trans b2).size
 have HIK:=zH hik;have HI1:=zH Xc;have qP:=zH hn;clear v0 hn hi hik Xc;go_upto_region 4 with fail;rw[<-cJ];rw[<-fu];clear cJ fu;have k2:=aA N3 2 rfl;have k1:=aA N3 1 rfl;have kz:=N3.lt
 cases i
 ·have hE:Hid (aC S no=0):=by show _=_;rw[hm.o,ac (by rw[HIK.o rfl];decide)]
  clear hm;go_wp2;go_ret;exact aO.mk (aS hE.o.symm) E3
 ·by_cases c1 : n.kind = 1
  ·have t1 : (n.kind == 1)=true:=by simpa using c1
   have qo:(n.kind != 1)=false:=by simpa using c1
   have bB:=HI1.o rfl;have cq:Hid (aC S no=if aI S.ae n.dev=no/\1<n.dev then (aa S.nodes (jq S.ae n.dev).over).up else n.up):=by show _=_;rw[hm.o,af c1]
   clear hm c1;go_wp2_with fail;refine (fQ B g S n.dev _ (h.ext E3) hd (by omega)).mono ?_;rintro e w4 ⟨rfl,b4⟩;have N4:=N3.ext b4;have E4:=E3.trans b4;clear k1 k2 kz;have k1:=aA N4 1 rfl;have kz:=N4.lt
   by_cases c2:aI S.ae n.dev=no
   ·have t2 : (aI S.ae n.dev == no)=true:=by simpa using c2
    by_cases c3:1<n.dev
    ·have t3 : decide (1<n.dev)=true:=cj c3
     have C23:=zH (And.intro c2 c3);clear c2 c3;go_upto_region 7 with fail;obtain⟨c2,c3⟩:=C23.o;rcases cT hr n.dev with⟨r1,_⟩|⟨k,hk,e1,_,e3,_,_,_⟩
     ·exfalso;omega
     have mr:Hid (aC S no=(aa S.nodes S.ae[k].over).up):=by show _=_;rw[cq.o,af ⟨c2,c3⟩,e3]
     clear cq;obtain⟨ov,zM⟩:=ai (S.ae[k].over);obtain⟨A7,c7,wF,C7⟩:=nI B g S ov w4 (h.ext E4);obtain⟨_,_,cd4,gb,Zj⟩:=id (h.ext E4);obtain⟨_,d1,_,_,_,_⟩:=fg.at_ Zj k hk;rw[<-zM]at d1 mr;obtain⟨m,hm7⟩:=ai (aa S.nodes ov);obtain⟨i7,hi7⟩:=ai (aW S.nodes ov);rw[<-hm7]at wF C7 mr;rw[<-hi7]at C7;have HC7:=zH C7;have xO:=(h.ext E4).lt;have u0:∀u:Gr w4,u.w.cell? (g.bW,0)=some (.pointer (some ⟨g.bT,0,none⟩)):=Gr.cell gb.lt (gb.cell 0);have u1:∀u:Gr w4,u.w.cell? (g.bW,1)=some (.slice (some g.bD) S.ae.length cd4):=Gr.cell gb.lt (gb.cell 1);have u5:∀u:Gr w4,u.w.cell? (b5,1)=some (.int .i64 n.dev):=Gr.cell N4.lt (N4.cell 1);have ud:∀u:Gr w4,u.w.cell? (g.bD,k*6+1)=some (.int .i64 ov):=Gr.cell xO.2.2.2 d1;have y0:(0:Int)<=n.dev-1:=by rw[e1];omega
     have y1:n.dev-1<(S.ae.length:Int):=by rw[e1];omega
     have y2:(n.dev-1).toNat=k:=by rw[e1];omega
     have y3:IntKind.i64.wrap (n.dev-1)=n.dev-1:=aU (by omega) (by omega);have y4:1<=n.dev:=by omega
     have y5:n.dev.toNat-1=k:=by omega
     clear d1 gb Zj e1 e3 zM hm7 hi7 C7 k1 c2 c3 t2 t3;go_cut [] (fun wc=>∃w0,Ext w4 w0/\Only [b5] w0 wc/\Has wc b5 (.cells (m,A7,c7) 66))
     case first =>
      refine rM w4 18 5 52 b5 m n A7 A c7 c N4 _ (by kernel_rfl) (by kernel_rfl) rfl rfl ((Ext.refl _).drew) ?_;simp only[qG,oH,qH,p9]
      repeat (
          refine cH (fun K hK=>?_);go_simp
          first
           | (refine hK _ ?_;clear hK K)
           | (
             apply Exists.intro;refine⟨fun u=>?_,hK _ ?_⟩
             ((with_reducible refine (HC7.o _ (Gr.h _)).mono ?_);rintro e w'' ⟨rfl,hx⟩;exact⟨rfl,hx⟩)
             clear hK K))
      refine bc ⟨rfl,rfl,?_⟩;refine bc ?_;intro w' hw';go_wp2_with fail;go_meet;exact hw'
     case rest =>
     obtain⟨w0,E40,O,N5⟩:=hcut;have k9:=aA N5 9 rfl;have kz5:=N5.lt;clear kz y0 y1 y2 y3 y4 y5 u0 u1 u5 ud;go_wp2;go_ret;exact aO.mk (aS mr.o.symm) (O.after (E4.trans E40) (by intro x hx;rw[ax]at hx;omega))
    ·have t3:decide (1<n.dev)=false:=cG c3
     have hE:Hid (aC S no=n.up):=by show _=_;rw[cq.o,ac (fun h=>c3 h.2)]
     have k9:=aA N4 9 rfl;clear cq c2 c3;go_wp2;go_ret;exact aO.mk (aS hE.o.symm) E4
   ·have t2:(aI S.ae n.dev == no)=false:=by simpa using c2
    have hE:Hid (aC S no=n.up):=by show _=_;rw[cq.o,ac (fun h=>c2 h.1)]
    have k9:=aA N4 9 rfl;clear cq c2;go_wp2;go_ret;exact aO.mk (aS hE.o.symm) E4
  ·have t1:(n.kind == 1)=false:=by simpa using c1
   have qo:(n.kind != 1)=true:=by simpa using c1
   have hE:Hid (aC S no=0):=by show _=_;rw[hm.o,ac c1]
   clear hm c1;go_wp2;go_ret;exact aO.mk (aS hE.o.symm) E3
theorem qp (B : Nat) (g:cI) (S:ag) (X:cY) (no:Int) (w:World) (h:gv w B g S X) (hl:S.nodes.length<=1000000) (mZ:S.ae.length<=8) (hr:eV S.ae) (hu:aQ S.nodes S.last) :
  Calls prog 83 #[((),g.bF),no] w (aO w (.int .i64 (aC S no))):=by
 have hm:Hid (aC S no=if (aa S.nodes no).kind=1 then if aI S.ae (aa S.nodes no).dev=no/\1<(aa S.nodes no).dev then (aa S.nodes (jq S.ae (aa S.nodes no).dev).over).up else (aa S.nodes no).up else 0):=by show _=_;rfl
 go_in;go_wp2_with fail;refine (eE B g S X no _ h hl hu).mono ?_;rintro e w2 ⟨A,c,rfl,gG,b2⟩;have Xc:(aa S.nodes no).kind=1->1<=no:=fun hk=>by
  obtain⟨k,hk,e⟩:=qh.1 (SB hk);have:=(hu.2 _ (jh hk)).1;omega
 obtain⟨n,hn⟩:=ai (aa S.nodes no);rw[<-hn]at gG hm Xc;rw[<-hn];obtain⟨W3,cJ⟩:=ai (w2.alloc (.cells (n,A,c) 66));have iH:Ext w2 W3:=by rw[cJ];exact (Ext.refl _).alloc _
 obtain⟨b5,fu⟩:=ai w2.heap.size;have N3:Has W3 b5 (.cells (n,A,c) 66):=by rw[cJ,fu];exact Has.new _ _
 have E3:Ext w W3:=b2.trans iH;have qY:w.heap.size<=b5:=by rw[fu];exact b2.size
 have HI1:=zH Xc;have qP:=zH hn;clear hn Xc;go_upto_region 2 with fail;rw[<-cJ];rw[<-fu];clear cJ fu;have k2:=aA N3 2 rfl;have k1:=aA N3 1 rfl;have kz:=N3.lt
 by_cases c1:n.kind=1
 ·have t1 : (n.kind == 1)=true:=by simpa using c1
  have qo:(n.kind != 1)=false:=by simpa using c1
  have bB:=HI1.o c1;have cq:Hid (aC S no=if aI S.ae n.dev=no/\1<n.dev then (aa S.nodes (jq S.ae n.dev).over).up else n.up):=by show _=_;rw[hm.o,af c1]
  clear hm c1
  by_cases c3:1<n.dev
  ·have t3 : decide (1<n.dev)=true:=cj c3
   have C3:=zH c3;go_wp2_with fail;refine (iw B g S X n.dev _ (h.ext E3) (by omega)).mono ?_;rintro e w4 ⟨rfl,b4⟩;have N4:=N3.ext b4;have E4:=E3.trans b4;clear k1 k2 kz;have k1:=aA N4 1 rfl;have kz:=N4.lt
   by_cases c2:aI S.ae n.dev=no
   ·have t2 : (aI S.ae n.dev == no)=true:=by simpa using c2
    have C2:=zH c2;clear c2 c3;go_upto_region 5 with fail;have c2:=C2.o;have c3:=C3.o;rcases cT hr n.dev with⟨r1,_⟩|⟨k,hk,e1,_,e3,_,_,_⟩
    ·exfalso;omega
    have mr:Hid (aC S no=(aa S.nodes S.ae[k].over).up):=by show _=_;rw[cq.o,af ⟨c2,c3⟩,e3]
    obtain⟨ov,zM⟩:=ai (S.ae[k].over);obtain⟨A7,c7,wF,C7⟩:=pF B g S X ov w4 (h.ext E4) hl hu;obtain⟨_,cn4,cd4,gb,_,Zj⟩:=id (h.ext E4);obtain⟨_,d1,_,_,_,_⟩:=fg.at_ Zj k hk;rw[<-zM]at d1 mr;obtain⟨m,hm7⟩:=ai (aa S.nodes ov);rw[<-hm7]at wF C7 mr;have HC7:=zH C7;have xO:=(h.ext E4).lt;have u1:∀u:Gr w4,u.w.cell? (g.bF,1)=some (.slice (some g.bE) S.ae.length cd4):=Gr.cell gb.lt (gb.cell 1);have u5:∀u:Gr w4,u.w.cell? (b5,1)=some (.int .i64 n.dev):=Gr.cell N4.lt (N4.cell 1);have ud:∀u:Gr w4,u.w.cell? (g.bE,k*6+1)=some (.int .i64 ov):=Gr.cell xO.2.2 d1;have y0:(0:Int)<=n.dev-1:=by rw[e1];omega
    have y1:n.dev-1<(S.ae.length:Int):=by rw[e1];omega
    have y2:(n.dev-1).toNat=k:=by rw[e1];omega
    have y3:IntKind.i64.wrap (n.dev-1)=n.dev-1:=aU (by omega) (by omega);have y4:1<=n.dev:=by omega
    have y5:n.dev.toNat-1=k:=by omega
    clear d1 gb Zj e1 e3 zM hm7 C7 k1 c2 c3 t2 t3 cq;go_cut [] (fun wc=>∃w0,Ext w4 w0/\Only [b5] w0 wc/\Has wc b5 (.cells (m,A7,c7) 66))
    case first =>
     refine rM w4 12 5 34 b5 m n A7 A c7 c N4 _ (by kernel_rfl) (by kernel_rfl) rfl rfl ((Ext.refl _).drew) ?_;simp only[qG,oH,qH,p9]
     repeat (
         refine cH (fun K hK=>?_);go_simp
         first
          | (refine hK _ ?_;clear hK K)
          | (
            apply Exists.intro;refine⟨fun u=>?_,hK _ ?_⟩
            ((with_reducible refine (HC7.o _ (Gr.h _)).mono ?_);rintro e w'' ⟨rfl,hx⟩;exact⟨rfl,hx⟩)
            clear hK K))
     refine bc ⟨rfl,rfl,?_⟩;refine bc ?_;intro w' hw';go_wp2_with fail;go_meet;exact hw'
    case rest =>
    obtain⟨w0,E40,O,N5⟩:=hcut;have k9:=aA N5 9 rfl;have kz5:=N5.lt;clear kz y0 y1 y2 y3 y4 y5 u1 u5 ud;go_wp2;go_ret;exact aO.mk (aS mr.o.symm) (O.after (E4.trans E40) (by intro x hx;rw[ax]at hx;omega))
   ·have t2:(aI S.ae n.dev == no)=false:=by simpa using c2
    have hE:Hid (aC S no=n.up):=by show _=_;rw[cq.o,ac (fun h=>c2 h.1)]
    have k9:=aA N4 9 rfl;clear cq c2 c3;go_wp2;go_ret;exact aO.mk (aS hE.o.symm) E4
  ·have t3:decide (1<n.dev)=false:=cG c3
   have hE:Hid (aC S no=n.up):=by show _=_;rw[cq.o,ac (fun h=>c3 h.2)]
   have k9:=aA N3 9 rfl;clear cq c3;go_wp2;go_ret;exact aO.mk (aS hE.o.symm) E3
 ·have t1:(n.kind == 1)=false:=by simpa using c1
  have qo:(n.kind != 1)=true:=by simpa using c1
  have hE:Hid (aC S no=0):=by show _=_;rw[hm.o,ac c1]
  clear hm c1;go_wp2;go_ret;exact aO.mk (aS hE.o.symm) E3
def Je (S:ag) (base:Int):Nat->Int->Bool
 | 0,_=>false
 | f+1,no=>if no=0 then false else if no=base then true else Je S base f (aC S no)
structure pG (S:ag) (r:Int->Nat):Prop where
 step:∀no,no≠0->aC S no≠0->aC S no≠no->r (aC S no)<r no
 top:∀no,r no<=S.nodes.length
def dP (S:ag) (no base:Int):Bool:=Je S base (S.nodes.length+1) no
theorem su (S:ag) (base:Int) (f:Nat):Je S base f 0=false:=by cases f<;>simp[Je]
theorem sw {S:ag} {base no:Int} (h:aC S no=no) (hb:no≠base):∀f,Je S base f no=false
 | 0=>rfl
 | f+1=>by
  unfold Je;split
  ·rfl
  ·rw[h];exact sw h hb f
theorem Ob {r:Int->Nat} (R:pG S r) (base:Int):∀(n:Nat) (no:Int),r no<=n->∀f g,r no<f->r no<g->Je S base f no=Je S base g no:=by
 intro n
 induction n with
 | zero =>
  intro no hn f g hf hg
  match f,g,hf,hg with
  | f + 1, g+1,_,_ =>
   unfold Je;split
   ·rfl
   ·split
    ·rfl
    ·rename_i h0 hb
     by_cases hu:aC S no=0
     ·rw[hu,su,su]
     ·by_cases hs:aC S no=no
      ·rw[hs,sw hs hb,sw hs hb]
      ·have:=R.step no h0 hu hs;omega
 | succ n ih =>
  intro no hn f g hf hg
  match f,g,hf,hg with
  | f + 1, g + 1,hf,hg =>
   unfold Je;split
   ·rfl
   ·split
    ·rfl
    ·rename_i h0 hb
     by_cases hu:aC S no=0
     ·rw[hu,su,su]
     ·by_cases hs:aC S no=no
      ·rw[hs,sw hs hb,sw hs hb]
      ·have:=R.step no h0 hu hs
       exact ih _ (by omega) f g (by omega) (by omega)
theorem xP (S:ag) (base:Int):dP S 0 base=false:=su S base _
theorem Gw {no:Int} (h0:no≠0) (h:no=base):dP S no base=true:=by
 unfold dP Je;rw[ac h0,af h]
theorem Gx {no:Int} (h:aC S no=no) (hb:no≠base):dP S no base=false:=sw h hb _
theorem Gy {r:Int->Nat} (R:pG S r) {no:Int} (h0:no≠0) (hb:no≠base) (hs:aC S no≠no):dP S no base=dP S (aC S no) base:=by
 have e:dP S no base=Je S base S.nodes.length (aC S no):=by
  conv=>lhs;unfold dP Je
  rw[ac h0,ac hb]
 rw[e]
 by_cases hu:aC S no=0
 ·rw[hu,xP,su]
 ·have h1:=R.step no h0 hu hs
  have h2:=R.top no;exact Ob R base _ _ (aE _) _ _ (by omega) (by omega)
theorem Gz (B:Nat) (g:dL) (S:ag) (r:Int->Nat) (no base:Int) (w:World) (h:eL w B g S) (hd:0<S.ae.length) (mZ:S.ae.length<=8) (hr:eV S.ae) (hu:aQ S.nodes S.last) (R:pG S r) :
  Calls prog 173 #[((),g.bW),no,base] w (aO w (.bool (dP S no base))):=by
 have HR:=zH R;clear R;obtain⟨xQ,qd⟩:=ai (dP S no base);rw[<-qd];have J1:=zH qd;clear qd;go_in;go_wp2_with fail;go_loopw [1,7] (fun v1 _ wr=>∃n:Int,v1=.int .i64 n/\Hid (dP S n base=xQ)/\Ext w wr) (fun v1 _ _=>if intOf v1=0 then 0 else r (intOf v1)+1)
 case atStart=>exact⟨no,rfl,J1.o.symm,Ext.refl _⟩
 case round =>
  obtain⟨n,rfl,hw,hE⟩:=hrel
  by_cases h0:n=0
  ·have hf:Hid (xQ=false):=by show _=_;rw[<-hw.o,h0,xP]
   subst h0;go_wp2;go_ret;exact aO.mk (eo hf.o.symm) hE
  ·have t0 : (n == 0)=false:=by simpa using h0
   have nK:(n != 0)=true:=by simpa using h0
   by_cases hb:n=base
   ·have t1:(n == base)=true:=by simpa using hb
    have hf:Hid (xQ=true):=by show _=_;rw[<-hw.o,Gw h0 hb]
    clear h0 hb;go_wp2;go_ret;exact aO.mk (eo hf.o.symm) hE
   ·have t1:(n == base)=false:=by simpa using hb
    have H0:=zH h0;have HB:=zH hb;clear h0 hb;go_wp2_with fail;refine (nJ B g S n _ (h.ext hE) hd mZ hr hu).mono ?_;rintro e w2 ⟨rfl,b2⟩;obtain⟨u,uJ⟩:=ai (aC S n);rw[<-uJ];have HU:=zH uJ;clear uJ
    by_cases hs:u=n
    ·have t2:(u == n)=true:=by simpa using hs
     have hf:Hid (xQ=false):=by show _=_;rw[<-hw.o,Gx (by rw[<-HU.o];exact hs) HB.o]
     clear hs;go_wp2;go_ret;exact aO.mk (eo hf.o.symm) (hE.trans b2)
    ·have t2:(u == n)=false:=by simpa using hs
     have hst:Hid (dP S u base=xQ):=by show _=_;rw[<-hw.o,HU.o];exact (Gy HR.o H0.o HB.o (by rw[<-HU.o];exact hs)).symm
     have Ze:Hid (u≠0->r u<r n):=by
      show u≠0->r u<r n;intro h;rw[HU.o];exact HR.o.step n H0.o (by rw[<-HU.o];exact h) (by rw[<-HU.o];exact hs)
     clear hs;have ad3:Hid ((if u=0 then 0 else r u+1)<(if n=0 then 0 else r n+1)):=by
      show (if u=0 then 0 else r u+1)<(if n=0 then 0 else r n+1);rw[ac H0.o];split
      ·omega
      ·rename_i h;have:=Ze.o h;omega
     go_wp2_with fail;go_roundw
     case rel=>exact⟨u,rfl,hst,hE.trans b2⟩
     case measure=>exact ad3.o
theorem GC (B:Nat) (g:cI) (S:ag) (X:cY) (no base:Int) (w:World) (h:gv w B g S X) (hl:S.nodes.length<=100000) (mZ:S.ae.length<=8) (hr:eV S.ae) (hu:aQ S.nodes S.last) :
  Calls prog 174 #[((),g.bF),no,base] w (aO w (.bool (dP S no base))):=by
 obtain⟨xQ,qd⟩:=ai (dP S no base);rw[<-qd];have J1:=zH qd;clear qd;obtain⟨L,hL⟩:=ai S.nodes.length;have J2:L<=100000:=by omega
 have HL:=zH hL;clear hL;go_in;go_wp2_with fail;go_loopw [1,7] (fun v1 v7 wr=>∃(n:Int) (k:Nat),v1=.int .i64 n/\v7=.int .i64 k/\k<=L+1/\Hid (Je S base (L+1-k) n=xQ)/\Ext w wr) (fun _ v7 _=>L+1-(intOf v7).toNat)
 case atStart=>exact⟨no,0,rfl,rfl,by omega,by show _=_;rw[J1.o,HL.o];rfl,Ext.refl _⟩
 case round =>
  obtain⟨n,k,rfl,rfl,hk,hw,hE⟩:=hrel;obtain⟨_,cn,cd,hF,_,_⟩:=id (h.ext hE);have c0:wr.cell? (g.bF,0)=some (.slice (some g.bN) L cn):=by rw[HL.o];exact hF.cell 0
  have zF:=hF.lt;clear hF
  by_cases dN:(k:Int)<=L
  ·have tk:decide ((k:Int)<=L)=true:=cj dN
   obtain ⟨f,hf⟩:∃f,L+1-k=f+1:=⟨L-k,by omega⟩;have Zk:Hid ((if n=0 then false else if n=base then true else Je S base f (aC S n))=xQ):=by
    show _=_;rw[<-hw.o,hf];rfl
   have JS:f=L+1-(k+1):=by omega
   have SD:=zH JS;clear hf JS hw
   by_cases h0:n=0
   ·have hv:Hid (xQ=false):=by show _=_;rw[<-Zk.o,af h0]
    subst h0;go_wp2;go_ret;exact aO.mk (eo hv.o.symm) hE
   ·have t0:(n == 0)=false:=by simpa using h0
    have nK:(n != 0)=true:=by simpa using h0
    by_cases hb:n=base
    ·have t1:(n == base)=true:=by simpa using hb
     have hv:Hid (xQ=true):=by show _=_;rw[<-Zk.o,ac h0,af hb]
     clear h0 hb;go_wp2;go_ret;exact aO.mk (eo hv.o.symm) hE
    ·have t1:(n == base)=false:=by simpa using hb
     have hw3:Hid (Je S base f (aC S n)=xQ):=by show _=_;rw[<-Zk.o,ac h0,ac hb]
     clear h0 hb Zk;go_wp2_with fail;refine (qp B g S X n _ (h.ext hE) (by have:=HL.o;omega) mZ hr hu).mono ?_;rintro e w2 ⟨rfl,b2⟩;clear c0 zF;go_wp2_with fail;go_roundw
     case rel=>exact⟨aC S n,k+1,rfl,by go_num,by omega,by show _=_;rw[<-SD.o];exact hw3.o,hE.trans b2⟩
     case measure=>simp[intOf];omega
  ·have tk:decide ((k:Int)<=L)=false:=cG dN
   have hv:Hid (xQ=false):=by
    show _=_;rw[<-hw.o,show L+1-k=0 by omega];rfl
   go_wp2;go_ret;exact aO.mk (eo hv.o.symm) hE
def pH (S:ag) (no:Int):Bool:=(S.ae.drop 1).any fun d=>dP S d.over no
theorem GD {no:Int} (hk:k+1<S.ae.length) (h:dP S S.ae[k+1].over no=true):pH S no=true:=by
 unfold pH;rw[zg];exact⟨S.ae[k+1],by rw[RO];exact⟨k,by omega,by congr 1;omega⟩,h⟩
theorem MJ {no:Int} (h:∀j,(hj:j+1<S.ae.length)->dP S S.ae[j+1].over no=false):pH S no=false:=by
 unfold pH;rw[Mj];intro d hd;rw[RO]at hd;obtain⟨k,hk,rfl⟩:=hd;have:=h k (by omega);have e:S.ae[1+k]=S.ae[k+1]:=by congr 1;omega
 rw[e,this];decide
theorem Oc (bl n m cap:Nat) (h0:n=m+1) (hc:n<=cap):∃X:Addr,(∀W,(Instr.slice 104 (.slice (some bl) n cap) (some (.int .i64 1)) none none).run prog W=.ok (.slice (some X) m (cap-1)) W)/\(0<m->X=⟨bl,6,none⟩):=by
 have h4:n-1=m:=by omega
 have hu:=underlying104;have h1:(1:Int)<=n:=by omega
 have hi:(prog.info? 205).map (·.size)=some 6:=by kernel_rfl
 by_cases h:cap=1
 ·refine ⟨⟨bl,0,none⟩,fun W=>?_,fun h2=>by omega⟩
  subst h;go_simp;intro h;omega
 ·refine ⟨⟨bl,6,none⟩,fun W=>?_,fun _=>rfl⟩
  go_simp;intro h;omega
theorem fg.cap {t:TypeId} {g cap:Nat} {ds:List fP} (h:fg w B t (.slice (some g) ds.length cap) ds):ds.length<=cap:=by
 rcases h.2 with⟨h0,_⟩|⟨g',cap',cur,h0,hb,hg,h1,h2,h3,h4⟩
 ·cases h0
 ·injection h0 with h0 e1 e2
  omega
theorem Od (B:Nat) (g:dL) (S:ag) (r:Int->Nat) (no:Int) (w:World) (h:eL w B g S) (hd:0<S.ae.length) (mZ:S.ae.length<=8) (hr:eV S.ae) (hu:aQ S.nodes S.last) (R:pG S r) :
  Calls prog 143 #[((),g.bW),no] w (aO w (.bool (pH S no))):=by
 have h0:=h;obtain⟨h1,h2,cd,h3,h4⟩:=h;have hcap:=fg.cap h4;obtain⟨n,hn⟩:=ai S.ae.length;obtain⟨m,hm⟩:∃m,n=m+1:=⟨n-1,by omega⟩;obtain⟨X,Z_,hX2⟩:=Oc g.bD n m cd hm (by omega);rw[<-hn]at h3;have hm8:m<=8:=by omega
 have HN:=zH hn;have HM:=zH hm;have ui:=zH hX2;have HR:=zH R;clear hn hm hX2 R hcap;go_in;go_wp2_with fail;refine (ir B g S _ h0 hd).mono ?_;rintro e w1 ⟨rfl,b1⟩;have hW:=(h3.ext b1).lt;have c1:=(h3.ext b1).cell 1;simp only[gA,gC,gB]at c1;go_wp2_with fail;go_loopw [15] (fun i wr=>∃k:Nat,k<=m/\i=.int .i64 k/\Hid (∀j,(hj:j+1<S.ae.length)->j<k->dP S S.ae[j+1].over no=false)/\Ext w wr) (fun i _=>m-(intOf i).toNat)
 case atStart=>exact⟨0,bC _,rfl,fun j _ h=>by omega,b1⟩
 case round =>
  obtain⟨k,hk,rfl,ha,hE⟩:=hrel
  by_cases hlt:(k:Int)<m
  ·have dN:k+1<S.ae.length:=by have:=HN.o;have:=HM.o;omega
   obtain rfl:=ui.o (by omega);obtain⟨d0,d1,d2,d3,d4,d5⟩:=fg.at_ (show fg wr B 205 _ S.ae from av h4 (Only.az (L:=[]) hE) (by simp)) (k+1) dN;rw[show (k+1)*6=6+k*6 by omega]at d0 d1 d2 d3 d4 d5;have hbD:g.bD<wr.heap.size:=(h0.ext hE).lt.2.2.2;obtain⟨x,hx⟩:=ai (S.ae[k+1]);rw[<-hx]at d0 d1 d2 d3 d4 d5;have FL:=zH hx;clear hx c1 hW;go_wp2_with fail;refine (Gz B g S r x.over no _ ((h0.ext hE).ext ((Ext.refl _).alloc _)) hd mZ hr hu HR.o).mono ?_;rintro e w2 ⟨rfl,b2⟩;have j0:=(hE.alloc (.cells #[x.root,x.over,x.q.blocks,x.q.nodes,x.q.bH,x.q.bG] 205)).trans b2
   cases hq:dP S x.over no
   ·have Gd:Hid (∀j,(hj:j+1<S.ae.length)->j<k+1->dP S S.ae[j+1].over no=false):=by
     show ∀j,(hj:j+1<S.ae.length)->j<k+1->dP S S.ae[j+1].over no=false;intro j hj xL
     by_cases e:j=k
     ·subst e;rw[<-FL.o];exact hq
     ·exact ha.o j hj (by omega)
    clear hq d0 d1 d2 d3 d4 d5;go_wp2_with fail;go_roundw
    case rel=>exact⟨k+1,by omega,by go_num,Gd,j0⟩
    case measure=>simp[intOf];omega
   ·have hf:Hid (pH S no=true):=GD dN (by rw[<-FL.o];exact hq)
    clear hq d0 d1 d2 d3 d4 d5;go_wp2;go_ret;exact aO.mk (eo hf.o.symm) j0
  ·have hf:Hid (pH S no=false):=MJ fun j hj=>ha.o j hj (by have:=HN.o;have:=HM.o;omega)
   clear c1 hW;go_wp2;go_ret;exact aO.mk (eo hf.o.symm) hE
theorem Oe (B:Nat) (g:cI) (S:ag) (X:cY) (no:Int) (w:World) (h:gv w B g S X) (hl:S.nodes.length<=100000) (mZ:S.ae.length<=8) (hr:eV S.ae) (hu:aQ S.nodes S.last) :
  Calls prog 144 #[((),g.bF),no] w (aO w (.bool (pH S no))):=by
 obtain⟨n,hn⟩:=ai S.ae.length;have Zl:n<=8:=by omega
 have HN:=zH hn;clear hn;go_in;go_wp2_with fail;go_loopw [5] (fun i wr=>∃k:Nat,i=.int .i64 (k+1)/\k<=n/\Hid (∀j,(hj:j+1<S.ae.length)->j<k->dP S S.ae[j+1].over no=false)/\Ext w wr) (fun i _=>n+1-(intOf i).toNat)
 case atStart=>exact⟨0,rfl,bC _,fun j _ h=>by omega,Ext.refl _⟩
 case round =>
  obtain⟨k,rfl,hk,ha,hE⟩:=hrel;obtain⟨_,cn,cd,hF,_,hD⟩:=id (h.ext hE);have c1:wr.cell? (g.bF,1)=some (.slice (some g.bE) n cd):=by rw[HN.o];exact hF.cell 1
  have zF:=hF.lt;clear hF
  by_cases hlt:(k:Int)+1<n
  ·have dN:k+1<S.ae.length:=by have:=HN.o;omega
   obtain⟨d0,d1,d2,d3,d4,d5⟩:=fg.at_ hD (k+1) dN;have hbE:g.bE<wr.heap.size:=(h.ext hE).lt.2.2;obtain⟨x,hx⟩:=ai (S.ae[k+1]);rw[<-hx]at d1;have FL:=zH hx;have q1:(0:Int)<=(k:Int)+1:=by omega
   have q2:((k:Int)+1).toNat=k+1:=by omega
   have q3:IntKind.i64.wrap ((k:Int)+1)=(k:Int)+1:=aU (by omega) (by omega);clear hx d0 d2 d3 d4 d5 hD;go_wp2_with fail;refine (GC B g S X x.over no _ (h.ext hE) hl mZ hr hu).mono ?_;rintro e w2 ⟨rfl,b2⟩
   cases hq:dP S x.over no
   ·have Gd:Hid (∀j,(hj:j+1<S.ae.length)->j<k+1->dP S S.ae[j+1].over no=false):=by
     show ∀j,(hj:j+1<S.ae.length)->j<k+1->dP S S.ae[j+1].over no=false;intro j hj xL
     by_cases e:j=k
     ·subst e;rw[<-FL.o];exact hq
     ·exact ha.o j hj (by omega)
    clear hq d1 c1 zF;go_wp2_with fail;go_roundw
    case rel=>exact⟨k+1,by go_num,by omega,Gd,hE.trans b2⟩
    case measure=>simp[intOf];omega
   ·have hf:Hid (pH S no=true):=GD dN (by rw[<-FL.o];exact hq)
    clear hq d1 c1 zF;go_wp2;go_ret;exact aO.mk (eo hf.o.symm) (hE.trans b2)
  ·have hf:Hid (pH S no=false):=MJ fun j hj=>ha.o j hj (by have:=HN.o;omega)
   go_wp2;go_ret;exact aO.mk (eo hf.o.symm) hE
theorem Og (n:ak) (A A':Option Addr) (c c':Nat) (w:World) (h:bU w A n.ah) (h':bU w A' n.ah) (hlen:n.ah.length<=1000000) :
  Calls prog 56 #[.agg (n,A,c),.agg (n,A',c')] w (aO w (.bool true)):=by
 obtain⟨m,hm⟩:=ai n.ah.length;obtain⟨W,hW⟩:=ai ((w.alloc (.cells (n,A,c) 66)).alloc (.cells (n,A',c') 66));have EW:Ext w W:=by rw[hW];exact ((Ext.refl _).alloc _).alloc _
 have B1:Has W w.heap.size (.cells (n,A,c) 66):=by rw[hW];exact (Has.new _ _).alloc _
 have B2:Has W (w.heap.size+1) (.cells (n,A',c') 66):=by
  rw[hW];have:=Has.new (w.alloc (.cells (n,A,c) 66)) (.cells (n,A',c') 66)
  rwa [bi]at this
 go_in;go_upto_region 1 with fail;rw[<-hW];obtain⟨x0,x1,x2,x3,x4,x5,x6,x7,x8,x9,kC,kn⟩:=B1.da;obtain⟨y0,y1,y2,y3,y4,y5,y6,y7,y8,y9,pY,nL⟩:=B2.da;have z1:=B1.lt;have z2:=B2.lt;have HM:=zH hm;rw[<-hm]at kn nL hlen;clear hW hm;simp only[List.append];go_wp2_with fail;clear x0 x1 x2 x3 x4 x5 x6 x7 x8 x9 kC y0 y1 y2 y3 y4 y5 y6 y7 y8 y9 pY;go_loopw [5] (fun i wr=>∃k:Nat,k<=m/\i=.int .i64 k/\Ext W wr) (fun i _=>m-(intOf i).toNat)
 case atStart=>exact⟨0,bC _,rfl,Ext.refl _⟩
 case round =>
  obtain⟨k,hk,rfl,hE⟩:=hrel;have u11:=((B1.ext hE).cell 11);have v11:=((B2.ext hE).cell 11);simp only[gA,gC,gB]at u11 v11;rw[<-HM.o]at u11 v11;have z3:=(B1.ext hE).lt;have z4:=(B2.ext hE).lt;clear kn nL z1 z2
  by_cases hlt:(k:Int)<m
  ·have dN:k<n.ah.length:=by have:=HM.o;omega
   obtain⟨b,o,rfl,qY,ca,cb⟩:=h.at_ (EW.trans hE) k dN;obtain⟨b',o',rfl,afJ,ca',cb'⟩:=h'.at_ (EW.trans hE) k dN;obtain⟨x,hx⟩:=ai (n.ah[k]);rw[<-hx]at ca cb ca' cb';clear hx;have g2:(0:Int)<=(k:Int):=by omega
   go_upto_region 6 with fail;go_quiet (fail);go_wp2_with fail;go_roundw
   case rel=>exact⟨k+1,by omega,by go_num,hE.drewN nq⟩
   case measure=>simp[intOf];omega
  ·go_wp2
   go_ret;exact aO.mk rfl (EW.trans hE)
theorem GF (B bT bM:Nat) (ns:List ak) (last:Int) (w:World) (h:q9 w B bT bM ns last):Calls prog 49 #[((),bT)] w (aO w (.int .i64 ns.length)):=by
 obtain⟨h1,h2,h3,es,cl,h4,h5⟩:=h;have c0:=h3.cell 0;simp only[gA,gB]at c0;have z0:=h3.lt;have z1:=h4.lt;have hlen:(es.size:Int)=ns.length:=by have:=h5.1;rw[xG]at this;omega
 have H4:w.heap[bM]?=some (.map es cl):=h4;have hr:(Builtin.len_ #[155] 3 #[.map (some bM)]).run prog w=.ok (.int .i64 es.size) w:=by simp[Builtin.len_,mD underlying155,rp h4,goInt,Result.andThen]
 have HL:=zH hlen;clear h3 h4 h5 hlen H4;go_in;go_wp2;go_ret;exact aO.mk (aS HL.o) (Ext.refl _)
theorem CL {P:Program} {fn:Func} {p:Tmp} {ty:TypeId} (h:fn.results=#[.cell p ty]) (tmps:Array Value) (w:World) (g:Nat) (tt:TypeId) (cs:Array Value) (d:TypeDesc)
  (hp:tmps.getD p undef=.pointer (some ⟨g,0,none⟩)) (hg:Has w g (.cells cs tt))
  (hu:P.underlying ty=some d) (hd:(match d with | .struct _ | .array _ _=>true|_=>false)=true) (hi:(P.info? ty).map (·.size)=some cs.size) :
  (results fn tmps).run P w=.ok (.agg cs) w:=by
 have hp':tmps[p]?.getD undef=.pointer (some ⟨g,0,none⟩):=by simpa using hp
 have hl:=Ea (P:=P) w g tt ty cs (0,0) d hg hu hd hi;simp[results,h,hp',asAddr,hl]
theorem ko {ops:Array Oper} {rest:List Oper} {op:Oper} {a:Act} {Q:Exit->Act->World->Prop} (hgd:op.guard=none) (x y:Operand) (ho:op.op=.store 189 x y)
  (b:Nat) (q:dW) (hx:a.eval x=.pointer (some ⟨b,0,none⟩)) (hy:a.eval y=.agg #[q.blocks,q.nodes,q.bH,q.bG]) {m:dW} (hb:Has w b (.cells #[m.blocks,m.nodes,m.bH,m.bG] 189))
  (h:∀w',Has w' b (.cells #[q.blocks,q.nodes,q.bH,q.bG] 189)->Only [b] w w'->wpList prog ops Q rest (a.put op.dst undef) w'):wpList prog ops Q (op::rest) a w:=by
 refine zw hgd 189 x y ho b 0 #[q.blocks,q.nodes,q.bH,q.bG] hx hy hb.there nH (wM q) ?_;exact h _ (hb.Gs q) (cr [.int .i64 q.blocks,.int .i64 q.nodes,.int .i64 q.bH,.int .i64 q.bG] 0 w)
theorem SE (B:Nat) (g:dL) (S:ag) (d:Int) (w:World) (h:eL w B g S) (hd:0<S.ae.length) (mZ:S.ae.length<=8) (hr:eV S.ae):Calls prog 139 #[((),g.bW),d] w (aO w (.agg #[.int .i64 (zR S.ae d).blocks,.int .i64 (zR S.ae d).nodes,.int .i64 (zR S.ae d).bH,.int .i64 (zR S.ae d).bG])):=by
 obtain⟨W0,aJ⟩:=ai (w.alloc (.cells #[ju.blocks,ju.nodes,ju.bH,ju.bG] 189));obtain⟨b0,eN⟩:=ai w.heap.size;have N0:Has W0 b0 (.cells #[ju.blocks,ju.nodes,ju.bH,ju.bG] 189):=by rw[aJ,eN];exact Has.new _ _
 have E0:Ext w W0:=by rw[aJ];exact (Ext.refl _).alloc _
 have qY:w.heap.size<=b0:=by omega
 have HW0:Hid (w.alloc (.cells #[(),(),(),()] 189)=W0):=zH aJ.symm;have HB0:Hid (w.heap.size=b0):=zH eN.symm;clear aJ eN;rcases cT hr d with⟨e1,e2⟩|⟨k,hk,e1,e2,e3,e4,e5,e6⟩
 ·have hv:Hid (zR S.ae d=ju):=by show _=_;unfold zR;rw[e2];rfl
  have t1:(aI S.ae d == 0)=true:=by simpa using e1
  clear e1 e2;go_in;go_upto_region 1 with fail;rw[HW0.o,HB0.o];go_wp2_with fail;refine (fQ B g S d _ (h.ext E0) hd (by omega)).mono ?_;rintro e w1 ⟨rfl,b1⟩;have N1:=N0.ext b1;go_wp2_with (refine ko rfl _ _ rfl b0 ju rfl rfl N1 ?_;intro w2 N2 O2);exact aT (CL rfl _ _ b0 _ _ _ rfl N2 underlying189 rfl nH) rfl (aO.mk (by rw[hv.o]) (O2.after (E0.trans b1) (by intro x hx;rw[ax]at hx;omega)))
 ·have hv:Hid (zR S.ae d=S.ae[k].q):=by show _=_;unfold zR;rw[e2,e3];rfl
  have t1:(aI S.ae d == 0)=false:=by rw[e4];simpa using (by omega:S.ae[k].root≠0)
  have y0:(0:Int)<=d-1:=by omega
  have y1:d-1<(S.ae.length:Int):=by omega
  have y2:(d-1).toNat=k:=by omega
  have y3:IntKind.i64.wrap (d-1)=d-1:=aU (by omega) (by omega);have y4:1<=d:=by omega
  have y5:d.toNat-1=k:=by omega
  clear e1 e2 e3 e4 e5 e6;go_in;go_upto_region 1 with fail;rw[HW0.o,HB0.o];go_wp2_with fail;refine (fQ B g S d _ (h.ext E0) hd (by omega)).mono ?_;rintro e w1 ⟨rfl,b1⟩;have N1:=N0.ext b1;obtain⟨h1,h2,cd,h3,h4⟩:=(h.ext E0).ext b1;have hW:=h3.lt;have c1:=h3.cell 1;simp only[gA,gC,gB]at c1;obtain⟨d0,d1,d2,d3,d4,d5⟩:=fg.at_ h4 k hk;have zD:=(h.ext (E0.trans b1)).lt.2.2.2
  generalize S.ae[k]=x at hv d0 d1 d2 d3 d4 d5
  clear h2 h3 h4;go_wp2_with (refine ko rfl _ _ rfl b0 x.q rfl rfl N1 ?_;intro w2 N2 O2);exact aT (CL rfl _ _ b0 _ _ _ rfl N2 underlying189 rfl nH) rfl (aO.mk (by rw[hv.o]) (O2.after (E0.trans b1) (by intro x hx;rw[ax]at hx;omega)))
theorem Ac (a0 a1 a2 a3 a4 a5 a6 a7 a8 a9 yp FK:Value) (w:World) :
  (Instr.field 66 (.agg #[a0,a1,a2,a3,a4,a5,a6,a7,a8,a9,yp,FK]) 11).run prog w=.ok FK w/\(Instr.field 66 (.agg #[a0,a1,a2,a3,a4,a5,a6,a7,a8,a9,yp,FK]) 2).run prog w=.ok a2 w:=by
 constructor<;>kernel_rfl
def wO (S:ag) (no:Int):Int:=
 if aI S.ae (aa S.nodes no).dev=no/\1<(aa S.nodes no).dev then (jq S.ae (aa S.nodes no).dev).over else no
def Jf (S:ag) (no:Int):Option (List UInt8):=(nameOf (aa S.nodes (aC S no)).ah (wO S no)).map (·.1)
def yL (S:ag):Nat->Int->Option (List (List UInt8))
 | 0,_=>none
 | f+1,no=>if no=1 then some [] else match Jf S no with
  | none=>none
  | some x=>(yL S f (aC S no)).map (x::·)
def eJ (l:List (List UInt8)):List UInt8:=l.reverse.flatMap fun x=>47::x
def tf (l:List (List UInt8)):List UInt8:=if l=[] then [47] else eJ l
def wP (S:ag) (no:Int):Option (List UInt8):=(yL S (S.nodes.length+1) no).map tf
def uR (S:ag):Prop:=∀n∈S.nodes,∀x∈n.ah,x.1≠[]/\x.1.length<=255
theorem J3 (l:List (List UInt8)) (x:List UInt8):eJ (l++[x])=47::x++eJ l:=by
 unfold eJ;rw[wi];rfl
theorem wQ (l:List (List UInt8)) (h:∀x∈l,x.length<=255):(eJ l).length<=l.length*256:=by
 induction l with
 | nil=>simp[eJ]
 | cons x l ih =>
  have h1:=ih fun y hy=>h y (by simp[hy])
  have h2:=h x (by simp);have e:eJ (x::l)=eJ l++47::x:=by unfold eJ;simp
  rw[e,aZ];simp only[bk];omega
theorem CM {l:List (List UInt8)}:eJ l=[]↔l=[]:=by
 constructor
 ·intro h
  cases l with
  | nil=>rfl
  | cons x l =>
   have e:eJ (x::l)=eJ l++47::x:=by unfold eJ;simp
   rw[e]at h;simp at h
 ·rintro rfl;rfl
theorem oy (S:ag) (f:Nat) (no:Int) (h:no≠1):yL S (f+1) no=match Jf S no with|none=>none|some x=>(yL S f (aC S no)).map (x::·):=by
 conv=>lhs;unfold yL
 rw[ac h]
def GG (w:World) (o:Option (List UInt8)) (e:Ending) (w':World):Prop:=
 (match o with
  | some s=>e=.returned (.tuple #[bs s,.bool true])
  | none=>e=.returned (.tuple #[.string (bs []),.bool false]))/\Ext w w'
theorem GG.no {o:Option (List UInt8)} (h:o=none) (hE:Ext w w'):GG w o (.returned (.tuple #[.string ⟨#[]⟩,.bool false])) w':=by
 subst h;exact⟨rfl,hE⟩
theorem GG.yes {o:Option (List UInt8)} {s:List UInt8} (h:o=some s) (hE:Ext w w'):GG w o (.returned (.tuple #[bs s,.bool true])) w':=by
 subst h;exact⟨rfl,hE⟩
theorem GH (hk:k<l.length) (no:Int):nameOf (l.drop k) no=if l[k].2 == no then some l[k] else nameOf (l.drop (k+1)) no:=by
 rw[jg hk];unfold nameOf;rw[gD]
 cases l[k].2 == no<;>rfl
theorem Ad {no:Int} {x:aK} (h:nameOf l no=some x):x∈l:=p5 h
theorem J5 (B:Nat) (g:cI) (S:ag) (X:cY) (no:Int) (w:World) (h:gv w B g S X) (hl:S.nodes.length<=100000) (hd:0<S.ae.length) (mZ:S.ae.length<=8) (hr:eV S.ae) (hu:aQ S.nodes S.last) (hn:uR S) (hel:∀n∈S.nodes,n.ah.length<=1000000) :
  Calls prog 141 #[((),g.bF),no] w (GG w (wP S no)):=by
 obtain⟨xQ,qd⟩:=ai (wP S no);rw[<-qd];have J1:=zH qd;clear qd;obtain⟨L,hL⟩:=ai S.nodes.length;obtain⟨D,hD⟩:=ai S.ae.length;have J2:L<=100000:=by omega
 have hD1:(0:Int)<D:=by omega
 have HL:=zH hL;have J7:=zH hD;clear hL hD;go_in;go_wp2_with fail;go_loopw [1,6,7] (fun v1 v6 v7 wr=>∃(n:Int) (k:Nat) (acc:List (List UInt8)),v1=.int .i64 n/\v6=.string (bs (eJ acc))/\v7=.int .i64 k/\k<=L+1/\acc.length<=k/\Hid (∀x∈acc,x.length<=255)/\Hid ((yL S (L+1-k) n).map (fun l=>tf (acc++l))=xQ)/\Ext w wr) (fun _ _ v7 _=>L+1-(intOf v7).toNat)
 case atStart=>exact⟨no,0,[],rfl,rfl,rfl,by omega,aE _,fun x hx=>by simp at hx,by show _=_;rw[J1.o,HL.o];rfl,Ext.refl _⟩
 case round =>
  obtain⟨n,k,acc,rfl,rfl,rfl,hk,hak,hac,hw,hE⟩:=hrel;obtain⟨_,cn,cd,hF,_,_⟩:=id (h.ext hE);have c0:wr.cell? (g.bF,0)=some (.slice (some g.bN) L cn):=by rw[HL.o];exact hF.cell 0
  have c1:wr.cell? (g.bF,1)=some (.slice (some g.bE) D cd):=by rw[J7.o];exact hF.cell 1
  have zF:=hF.lt;have hpl:=wQ acc hac.o;clear hF
  by_cases dN:(k:Int)<=L
  ·have tk : decide ((k:Int)<=L)=true:=cj dN
   obtain⟨f,hf⟩:∃f,L+1-k=f+1:=⟨L-k,by omega⟩;have JS:f=L+1-(k+1):=by omega
   rw[hf]at hw;have SD:=zH JS;clear hf JS
   by_cases h1:n=1
   ·have hv:Hid (xQ=some (tf acc)):=by
     show _=_;rw[<-hw.o,h1];unfold yL;simp
    have hsz:((bs (eJ acc)).size:Int)=(eJ acc).length:=by rw[bo]
    subst h1
    by_cases ha:acc=[]
    ·subst ha
     have e1:((bs (eJ [])).toList == ([]:List UInt8))=true:=by rw[bA];rfl
     go_wp2;go_ret2;exact GG.yes (s:=[47]) (by rw[hv.o];rfl) hE
    ·have e1:((bs (eJ acc)).toList == ([]:List UInt8))=false:=by
      rw[bA];have:eJ acc≠[]:=fun h=>ha (CM.1 h)
      simpa using this
     have hp:Hid (tf acc=eJ acc):=by show _=_;unfold tf;rw[ac ha]
     clear ha;go_wp2;go_ret2;exact GG.yes (by rw[hv.o,hp.o]) hE
   ·have t1 : (n == 1)=false:=by simpa using h1
    have Zk:Hid (((match Jf S n with|none=>none|some x=>(yL S f (aC S n)).map (x::·)):Option (List (List UInt8))).map (fun l=>tf (acc++l))=xQ):=by
     show _=_;rw[<-hw.o,oy S f n h1]
    clear h1 hw;go_wp2_with fail;refine (qp B g S X n _ (h.ext hE) (by omega) mZ hr hu).mono ?_;rintro e w2 ⟨rfl,b2⟩;obtain⟨u,uJ⟩:=ai (aC S n);rw[<-uJ];have HU:=zH uJ;have j0:=hE.trans b2;clear uJ c0 c1 zF;go_wp2_with fail;refine (eE B g S X n _ (h.ext j0) (by omega) hu).mono ?_;rintro e w3 ⟨A3,c3,rfl,mE,b3⟩;have hch:Hid (wO S n=if aI S.ae (aa S.nodes n).dev=n/\1<(aa S.nodes n).dev then (jq S.ae (aa S.nodes n).dev).over else n):=by show _=_;rfl
    obtain⟨m,hm⟩:=ai (aa S.nodes n);rw[<-hm]at mE hch|-;obtain⟨W4,gb⟩:=ai (w3.alloc (.cells (m,A3,c3) 66));obtain⟨CN,lK⟩:=ai w3.heap.size;have N4:Has W4 CN (.cells (m,A3,c3) 66):=by rw[gb,lK];exact Has.new _ _
    have MK:Ext w W4:=(j0.trans b3).trans (by rw[gb];exact (Ext.refl _).alloc _);have HM:=zH hm;clear hm mE;go_upto_region 11 with fail;rw[<-gb];rw[<-lK];clear gb lK;have k1:=aA N4 1 rfl;have kz:=N4.lt;obtain⟨tb,htb⟩:∃tb:Bool,tb=decide (1<m.dev/\aI S.ae m.dev=n):=⟨_,rfl⟩;have HTB:=zH htb;clear htb;go_cut [53] (fun v wc=>v=.bool tb/\Ext W4 wc)
    case first =>
     by_cases c3a:1<m.dev
     ·have t3:decide (1<m.dev)=true:=cj c3a
      have hb:Hid (tb=(aI S.ae m.dev == n)):=by show _=_;rw[HTB.o,zu];simp[c3a]
      clear c3a;go_wp2_with fail;refine (iw B g S X m.dev _ (h.ext MK) (by omega)).mono ?_;rintro e w5 ⟨rfl,b5⟩;go_wp2_with fail;go_meet;exact⟨by rw[hb.o],b5⟩
     ·have t3:decide (1<m.dev)=false:=cG c3a
      have hb:Hid (tb=false):=by show _=_;rw[HTB.o];simp[c3a]
      clear c3a;go_wp2_with fail;go_meet;exact⟨by rw[hb.o],Ext.refl _⟩
    case rest =>
    obtain⟨rfl,E5⟩:=hcut;obtain⟨W5,kT⟩:=ai wc;rw[<-kT]at E5|-;have hE5:=MK.trans E5;have N5:=N4.ext E5;clear kT k1 kz;obtain⟨ch,abX⟩:=ai (wO S n);have HCH:=zH abX;clear abX;go_upto_if 53 with fail;go_cut [9] (fun v wc=>v=.int .i64 ch/\Ext W5 wc)
    case first =>
     cases tb
     ·have hv:Hid (ch=n):=by
       show _=_;have h1:=HTB.o;rw[HCH.o,hch.o,ac];intro h2;rw[cj ⟨h2.2,h2.1⟩]at h1;cases h1
      go_wp2_with fail;go_meet;exact⟨by rw[hv.o],Ext.refl _⟩
     ·have h1:=HTB.o
      have h2:1<m.dev/\aI S.ae m.dev=n:=of_decide_eq_true h1.symm;have hv:Hid (ch=(jq S.ae m.dev).over):=by
       show _=_;rw[HCH.o,hch.o,af ⟨h2.2,h2.1⟩]
      obtain ⟨q,hq,e1,e3⟩:∃q:Nat,∃hq:q<S.ae.length,m.dev=q+1/\jq S.ae m.dev=S.ae[q]:=by
       rcases cT hr m.dev with⟨r1,r2⟩|⟨q,hq,e1,_,e3,_,_,_⟩
       ·exfalso
        have hn0:n=0:=by rw[<-h2.2];exact r1
        have:aa S.nodes n=aj:=(aP (hu.zero (.inl (by omega)))).1;rw[HM.o,this]at h2;have:=h2.1;simp[aj]at this
       ·exact⟨q,hq,e1,e3⟩
      obtain⟨_,cn5,cd5,hF5,_,Zm⟩:=id (h.ext hE5);obtain⟨_,d1,_,_,_,_⟩:=fg.at_ Zm q hq;rw[e3]at hv;obtain⟨ov,zM⟩:=ai (S.ae[q].over);rw[<-zM]at d1 hv;have p1:=aA hF5 1 rfl;have pz:=hF5.lt;have p2:=aA N5 1 rfl;have pz2:=N5.lt;have pz3:=(h.ext hE5).lt.2.2;have y0:(0:Int)<=m.dev-1:=by rw[e1];omega
      have y1:m.dev-1<(S.ae.length:Int):=by rw[e1];omega
      have y2:(m.dev-1).toNat=q:=by rw[e1];omega
      have y3:IntKind.i64.wrap (m.dev-1)=m.dev-1:=aU (by omega) (by omega);have y4:1<=m.dev:=by omega
      have y5:m.dev.toNat-1=q:=by omega
      clear h1 h2 e1 e3 zM hF5 Zm;go_upto_region 12 with fail;go_quiet (fail);go_wp2_with fail;go_meet;exact⟨by rw[hv.o],(Ext.refl _).drewN nq⟩
    case rest =>
    obtain⟨rfl,E6⟩:=hcut;have Zn:=hE5.trans E6;clear hch N5 N4;go_wp2_with fail;refine (eE B g S X u _ (h.ext Zn) (by omega) hu).mono ?_;rintro e w7 ⟨A7,c7,rfl,wF,b7⟩;have hE7:=Zn.trans b7;obtain⟨mu,BZ⟩:=ai (aa S.nodes u);rw[<-BZ]at wF|-;have ie:Hid (Jf S n=(nameOf mu.ah ch).map (·.1)):=by show _=_;unfold Jf;rw[<-HU.o,<-BZ,<-HCH.o]
    have Oh:(∀x∈mu.ah,x.1≠[]/\x.1.length<=255)/\mu.ah.length<=1000000:=by
     cases hi:aW S.nodes u
     ·rw[BZ,(aP hi).1];exact⟨fun x hx=>by simp[aj]at hx,by simp[aj]⟩
     ·rw[BZ];exact⟨hn _ (ap hi).2.2,hel _ (ap hi).2.2⟩
    have Oi:=zH Oh;obtain⟨E,hEE⟩:=ai mu.ah.length;have afK:E<=1000000:=by rw[hEE];exact Oh.2
    rw[<-hEE];have HEL:=zH hEE;have hat:bU w7 A7 mu.ah:=wF.ah.ah;have ad4:=fun a0 a1 a2 a3 a4 a5 a6 a7 a8 a9 yp FK w=>(Ac a0 a1 a2 a3 a4 a5 a6 a7 a8 a9 yp FK w).1
    clear BZ Oh hEE wF;go_wp2_with fail;clear ad4;go_loopw [12,13] (fun v12 v13 wq=>∃(j:Nat) (nm:List UInt8),v13=.int .i64 ((j:Int)-1)/\j<=E/\v12=.string (bs nm)/\Hid (nm=((nameOf (mu.ah.drop j) ch).map (·.1)).getD [])/\Ext w7 wq) (fun _ v13 _=>(intOf v13+1).toNat)
    case atStart=>exact⟨E,[],by first|rfl|(congr 1),aE _,rfl,by show _=_;rw[HEL.o,uo];rfl,Ext.refl _⟩
    case round =>
     obtain⟨j,nm,rfl,hj,rfl,abY,hq7⟩:=hrel
     by_cases hj0:j=0
     ·subst hj0
      have hnv:Hid (nm=((Jf S n).getD [])):=by
       show _=_;rw[abY.o,jN,ie.o]
      have Xd:=hE7.trans hq7
      cases hx:Jf S n with
      | none =>
       have hnil:Hid (nm=[]):=by show _=_;rw[hnv.o,hx];rfl
       have hv:Hid (xQ=none):=by show _=_;rw[<-Zk.o,hx];rfl
       have e1:((bs nm).toList == ([]:List UInt8))=true:=by rw[bA,hnil.o];rfl
       clear hx;go_wp2;go_ret2;exact GG.no hv.o Xd
      | some x =>
       have Jb:Hid (nm=x):=by show _=_;rw[hnv.o,hx];rfl
       have hw3:Hid ((yL S f u).map (fun l=>tf ((acc++[x])++l))=xQ):=by
        show _=_;rw[<-Zk.o,hx,<-HU.o];simp only[Option.map_map]
        congr 1
        funext l
        simp
       have hxo:x≠[]/\x.length<=255:=by
        have:=ie.o;rw[hx]at this;obtain⟨y,hy,hyx⟩:=Jv.1 this.symm;rw[<-hyx];exact Oi.o.1 y (Ad hy)
       have e1:((bs nm).toList == ([]:List UInt8))=false:=by
        rw[bA,Jb.o];simpa using hxo.1
       have hlx:=hxo.2;have nE:nm.length<=255:=by rw[Jb.o];exact hlx
       have hs1:((⟨#[47]⟩:ByteArray)++bs nm)=bs (47::nm):=mW [47] nm;have qN:(bs (47::nm)++bs (eJ acc))=bs (47::nm++eJ acc):=mW _ _;have hsn:((bs nm).size:Int)=nm.length:=by rw[bo]
       have afL:(bs nm).size=nm.length:=bo nm;have hsp:(bs (eJ acc)).size=(eJ acc).length:=bo _;have afM:(bs (47::nm)).size=nm.length+1:=by rw[bo];rfl
       have HX:=zH hx;have aam:Hid (∀y∈acc++[x],y.length<=255):=by
        show ∀y∈acc++[x],y.length<=255;intro y hy;rcases dn.1 hy with hy|hy
        ·exact hac.o y hy
        ·rw[ax.1 hy];exact hlx
       have EK:(eJ acc).length<=100001*256:=by omega
       clear hx hxo hlx hpl;go_wp2_with fail;go_roundw
       case rel=>exact⟨u,k+1,acc++[x],rfl,by rw[J3,Jb.o];rfl,by go_num,by omega,by simp;omega,aam,by show _=_;rw[<-SD.o];exact hw3.o,Xd⟩
       case measure=>simp[intOf];omega
     ·obtain ⟨i,rfl⟩:∃i,j=i+1:=⟨j-1,by omega⟩
      have hil:i<mu.ah.length:=by have:=HEL.o;omega
      obtain⟨bE,oE,rfl,hbE,ca,cb⟩:=hat.at_ hq7 i hil;have po:=GH hil ch;obtain⟨y,hy⟩:=ai (mu.ah[i]);rw[<-hy]at ca cb po;have Jg:=zH po;have q1:(((i+1:Nat):Int)-1)=i:=by omega
      rw[q1];have hcm:Hid (∀f:Nat,True):=fun _=>trivial
      clear hy po hj0
      by_cases he:y.2=ch
      ·have t9:(y.2 == ch)=true:=by simpa using he
       have ug:Hid (y.1=((nameOf (mu.ah.drop i) ch).map (·.1)).getD []):=by show _=_;rw[Jg.o,af t9];rfl
       clear he;go_wp2_with fail;go_roundw
       case rel=>exact⟨i,y.1,by go_num,by omega,rfl,ug,hq7⟩
       case measure=>simp[intOf]
      ·have t9:(y.2 == ch)=false:=by simpa using he
       have ug:Hid (nm=((nameOf (mu.ah.drop i) ch).map (·.1)).getD []):=by show _=_;rw[Jg.o,ac (by rw[t9];decide)];exact abY.o
       clear he;go_wp2_with fail;go_roundw
       case rel=>exact⟨i,nm,by go_num,by omega,rfl,ug,hq7⟩
       case measure=>simp[intOf]
  ·have tk:decide ((k:Int)<=L)=false:=cG dN
   have hv:Hid (xQ=none):=by
    show _=_;rw[<-hw.o,show L+1-k=0 by omega];rfl
   go_wp2;go_ret2;exact GG.no hv.o hE
theorem infoByte:(prog.info? 5).map (fun i=>(i.zero,i.size,i.bytes))=some (some (.int .u8 0),1,1):=by kernel_rfl
theorem ML:(prog.info? 229).map (·.size)=some 2:=by kernel_rfl
theorem Xe:liesAt prog prog.depth 229 1 0 229 1=true:=by kernel_rfl
theorem SF (b:Nat) (w:World) (h0:w.cell? (b,0)=some (.pointer (some ⟨b,0,none⟩))) :
  Calls prog 198 #[((),b)] w fun e w'=>e=.returned (.tuple #[])/\w'=w:=by
 obtain⟨j,hj,_⟩:=Jv.1 ML;go_in;go_wp2_with fail;rw[Lib.run_neq_ptr_same w _ underlying226 hj];go_wp2_with fail;go_end0;exact⟨rfl,rfl⟩
theorem Oj (b:Nat) (w:World) (h0:w.cell? (b,0)=some (.pointer none)) (hsh:w.shape? b=some (229,2)) (hfz:w.frozen? (b,0)=false) :
  Calls prog 198 #[((),b)] w fun e w'=>e=.returned (.tuple #[])/\w'=w.setCell (b,0) (.pointer (some ⟨b,0,none⟩)):=by
 obtain⟨j,hj,hjs⟩:=Jv.1 ML;go_in;go_wp2_with fail;rw[Lib.run_to_unsafe w ⟨b,0,none⟩ underlying226 underlying276 hj (by rw[hjs];decide) hsh (Nat.zero_lt_succ 1)];simp only[Result.andThen];rw[Oper.upon_value];go_wp2_with fail;rw[run_callFunc_extern func216 (by kernel_rfl) (by kernel_rfl) (by kernel_rfl) (e:=Extern.AbiNoEscape.same) (by kernel_rfl)];rw[Lib.run_noEscape];simp only[Result.andThen];rw[Oper.upon_value];go_wp2_with fail;rw[Lib.run_from_unsafe w ⟨b,0,none⟩ underlying276 underlying226 hj hsh Xe];simp only[Result.andThen];rw[Oper.upon_value];go_wp2_with fail;go_end0;exact⟨rfl,rfl⟩
theorem Ol (B b:Nat) (bs:List Value) (w:World) (h:Lib.IsBuilder 229 5 B b bs w) :
  Calls prog 198 #[((),b)] w fun e w'=>e=.returned (.tuple #[])/\(Lib.BuilderAt 229 5 B b (.pointer (some ⟨b,0,none⟩)) bs w'/\Below B w w'):=by
 rcases h with h|h
 ·refine (Oj b w h.cell0 h.shape h.frozen0).mono ?_
  rintro e w' ⟨rfl,rfl⟩;exact⟨rfl,h.used _,(DP B w).setCell (p:=⟨b,0,none⟩) h.1 _⟩
 ·refine (SF b w h.cell0).mono ?_
  rintro e w' ⟨rfl,rfl⟩;exact⟨rfl,h,DP B _⟩
theorem J8 (B b:Nat) (bs:List Value) (s:ByteArray) (w:World) (h:Lib.IsBuilder 229 5 B b bs w) (hlen:bs.length+s.size<=140737488355328) (hBw:B<=w.heap.size) :
  Calls prog 170 #[((),b),.string s] w fun e w'=>e=.returned (.tuple #[s.size,.nilIface])/\(Lib.BuilderAt 229 5 B b (.pointer (some ⟨b,0,none⟩)) (bs++Lib.strCells s) w'/\Below B w w'):=by
 obtain⟨i0,hi,hz0,hz1,hz2⟩:=jj infoByte;go_in;go_wp2_with fail;refine (Ol B b bs _ h).mono ?_;rintro e w1 ⟨rfl,h1,j_⟩;obtain⟨hB,v,hbk,hown,hne⟩:=h1;have c0:w1.cell? (b,0)=some (.pointer (some ⟨b,0,none⟩)):=by rw[Eb hbk];rfl
 have c1:w1.cell? (b,1)=some v:=by rw[Eb hbk];rfl
 go_wp2_with (at_builtin;refine Lib.wpList_append_own_string _ rfl _ _ 227 9 rfl B 5 i0 underlying227 underlying9 hi hz0 hz1 hz2 _ _ _ rfl hown s rfl ?c3 ?c4 ?c5 ?_)
 case c3=>unfold maxLen;omega
 case c4=>omega
 case c5=>have:=j_.size;omega
 intro v' w2 hown' hgrow _;have hlt:b<w1.heap.size:=by
  rcases lq b w1.heap.size with h'|h'
  ·exact h'
  ·simp[rf h']at hbk
 have hb2:w2.heap[b]?=some (.cells #[((),b),v] 229 (0,0)):=by
  rw[hgrow.block b hlt (fun e=>hne e.symm)];exact hbk
 have d0:w2.cell? (b,0)=some (.pointer (some ⟨b,0,none⟩)):=by rw[Eb hb2];rfl
 have d1:w2.cell? (b,1)=some v:=by rw[Eb hb2];rfl
 have f1:w2.frozen? (b,1)=false:=Lib.frozen_of_heap hb2 1;obtain⟨ao,n',cap,rfl⟩:∃ao n' cap,v'=.slice ao n' cap:=by
  rcases hown'.2 with⟨hv,_⟩|⟨g,cap,cur,hv,_⟩
  ·exact⟨_,_,_,hv⟩
  ·exact⟨_,_,_,hv⟩
 go_wp2;go_ret2;refine⟨rfl,?_,?_⟩
 ·exact Lib.BuilderAt.put (T:=229) (e:=5) hB hb2 (bs':=bs++Lib.strCells s) (by simpa [Lib.strCells_length]using hown') (by decide)
 ·exact (j_.grown hgrow (by have:=j_.size;omega) (fun k hk=>(hown.lt k hk).1)).setCell (p:=⟨b,1,none⟩) hB _
theorem Ext.grownBy {w w':World} (h:Ext w w'):w.grownBy w' none:=⟨h.os,h.tape,h.output,h.size,fun k hk _=>yX h k hk⟩
theorem GI {e:TypeId} {size:Nat} {v:Value} {n:Nat} {xs:List Value} (h:w.ownsRow B e size v n xs) (k:Ext w w'):w'.ownsRow B e size v n xs:=
 h.kept k.grownBy (by cases v.ownBlock<;>simp)
theorem SG (hu:aQ S.nodes S.last):Jf S 0=none:=by
 have h0:aa S.nodes 0=aj:=(aP (hu.zero (.inl (by decide)))).1;have ha:aC S 0=0:=by unfold aC;rw[h0];rfl
 unfold Jf;rw[ha,h0];rfl
theorem lV (hu:aQ S.nodes S.last):∀f,yL S f 0=none
 | 0=>rfl
 | f+1=>by rw[oy S f 0 (by decide),SG hu]
theorem sx {S:ag} {no:Int} (h:aC S no=no) (h1:no≠1):∀f,yL S f no=none
 | 0=>rfl
 | f+1=>by
  rw[oy S f no h1]
  cases Jf S no with
  | none=>rfl
  | some x=>show (yL S f (aC S no)).map _=none;rw[h,sx h h1 f];rfl
theorem Om {r:Int->Nat} (R:pG S r) (hu:aQ S.nodes S.last):∀(n:Nat) (no:Int),r no<=n->∀f g,r no<f->r no<g->yL S f no=yL S g no:=by
 intro n
 induction n with
 | zero =>
  intro no hn f g hf hg
  match f,g,hf,hg with
  | f + 1, g + 1,_,_ =>
   by_cases h1:no=1
   ·subst h1;unfold yL;rfl
   ·by_cases h0:no=0
    ·subst h0;rw[lV hu,lV hu]
    ·by_cases hs:aC S no=no
     ·rw[sx hs h1,sx hs h1]
     ·by_cases hz:aC S no=0
      ·rw [oy S f no h1,oy S g no h1,hz]
       cases Jf S no with
       | none=>rfl
       | some x=>show (yL S f 0).map _=(yL S g 0).map _;rw[lV hu,lV hu]
      ·have:=R.step no h0 hz hs;omega
 | succ n ih =>
  intro no hn f g hf hg
  match f,g,hf,hg with
  | f + 1, g + 1,hf,hg =>
   by_cases h1:no=1
   ·subst h1;unfold yL;rfl
   ·by_cases h0:no=0
    ·subst h0;rw[lV hu,lV hu]
    ·by_cases hs:aC S no=no
     ·rw[sx hs h1,sx hs h1]
     ·rw [oy S f no h1,oy S g no h1]
      cases Jf S no with
      | none=>rfl
      | some x =>
       show (yL S f (aC S no)).map _=(yL S g (aC S no)).map _
       by_cases hz:aC S no=0
       ·rw[hz,lV hu,lV hu]
       ·have:=R.step no h0 hz hs
        rw[ih _ (by omega) f g (by omega) (by omega)]
def B_ (S:ag) (no:Int):Option (List (List UInt8)):=yL S (S.nodes.length+1) no
theorem GJ {r:Int->Nat} (R:pG S r) (hu:aQ S.nodes S.last) {no:Int} (h1:no≠1) (hs:aC S no≠no):B_ S no=match Jf S no with|none=>none|some x=>(B_ S (aC S no)).map (x::·):=by
 by_cases h0:no=0
 ·subst h0
  have:aC S 0=0:=by
   have h0:aa S.nodes 0=aj:=(aP (hu.zero (.inl (by decide)))).1;unfold aC;rw[h0];rfl
  exact absurd this hs
 ·unfold B_
  rw[oy S _ no h1]
  cases Jf S no with
  | none=>rfl
  | some x =>
   show (yL S _ (aC S no)).map _=(yL S _ (aC S no)).map _
   by_cases hz:aC S no=0
   ·rw[hz,lV hu,lV hu]
   ·have h2:=R.step no h0 hz hs
    have h3:=R.top no;rw[Om R hu _ _ (aE _) S.nodes.length (S.nodes.length+1) (by omega) (by omega)]
theorem Xf (S:ag):B_ S 1=some []:=by unfold B_ yL;rfl
theorem SH {no:Int} (h:aC S no=no) (h1:no≠1):B_ S no=none:=sx h h1 _
def Zo (S:ag):Prop:=∀no,no≠0->aI S.ae (aa S.nodes no).dev=no->(aa S.nodes no).dev<=1->aC S no=no
theorem J9 {l:List (List UInt8)} (hk:k<l.length):eJ (l.drop k)=eJ (l.drop (k+1))++47::l[k]:=by
 have e:∀(x:List UInt8) (t:List (List UInt8)),eJ (x::t)=eJ t++47::x:=fun x t=>by unfold eJ;simp
 rw[jg hk,e]
theorem J_ (B:Nat) (g:dL) (S:ag) (r:Int->Nat) (no:Int) (w:World) (h:eL w B g S) (hl:S.nodes.length<=1000) (hd:0<S.ae.length) (mZ:S.ae.length<=8) (hr:eV S.ae) (hu:aQ S.nodes S.last) (hn:uR S) (hel:∀n∈S.nodes,n.ah.length<=1000000) (R:pG S r) (hto:Zo S) (h11:aC S 1=1) :
  Calls prog 140 #[((),g.bW),no] w (GG w (wP S no)):=by
 obtain⟨xQ,qd⟩:=ai (B_ S no);have hwf:Hid (wP S no=xQ.map tf):=by show _=_;rw[qd];rfl
 have J1:=zH qd;have HR:=zH R;have HTO:=zH hto;have SI:=zH h11;have aan:=fun n=>R.top n
 have HTP:=zH aan;clear qd R hto aan h11;obtain⟨i0,hi,hz0,hz1,hz2⟩:=jj uB;go_in;go_wp2_with fail;refine (ir B g S _ h hd).mono ?_;rintro e w1 ⟨rfl,b1⟩;go_wp2_with fail;refine (nJ B g S no _ (h.ext b1) hd mZ hr hu).mono ?_;rintro e w2 ⟨rfl,b2⟩;have E2:=b1.trans b2;go_wp2_with fail;go_loopw [1,6,7] (fun v1 v6 v7 wr=>∃(n u:Int) (acc:List (List UInt8)),v1=.int .i64 n/\v7=.int .i64 u/\Hid (u=aC S n)/\lJ wr w.heap.size v6 acc/\acc.length+(if n=0 then 0 else r n+1)<=1002/\Hid (∀x∈acc,x.length<=255)/\Hid ((B_ S n).map (fun l=>acc++l)=xQ)/\Ext w wr) (fun v1 _ _ _=>if intOf v1=0 then 0 else r (intOf v1)+1)
 case atStart =>
  refine⟨no,aC S no,[],rfl,rfl,rfl,⟨rfl,.inl ⟨rfl,rfl⟩⟩,?_,fun x hx=>by simp at hx,?_,E2⟩
  ·have:=HTP.o no
   split<;>simp<;>omega
  ·show _=_
   rw[J1.o];cases B_ S no<;>rfl
 case round =>
  obtain⟨n,u,acc,rfl,rfl,Zp,hown,ad5,hac,hw,hE⟩:=hrel
  by_cases hs:u=n
  ·have ts : (u == n)=true:=by simpa using hs
   have tsb:(u != n)=false:=by simpa using hs
   have oK:Hid (xQ=if n=1 then some acc else none):=by
    show _=_;rw[<-hw.o]
    by_cases h1:n=1
    ·rw[af h1,h1,Xf];simp
    ·rw[ac h1,SH (by rw[<-Zp.o];exact hs) h1];rfl
   obtain⟨A6,afN,rfl,ad6,ad7,SJ,_⟩:=hown.at_;obtain⟨m,hm⟩:=ai acc.length;have cq:m<=1002:=by omega
   rw[<-hm];have HM:=zH hm;have hpl:=wQ acc hac.o;clear hs hm hown ad6 ad7;go_wp2_with fail;go_loopw [15] (fun i wq=>∃j:Nat,i=.int .i64 ((j:Int)-1)/\j<=m/\Lib.IsBuilder 229 5 wr.heap.size wr.heap.size (Lib.byteCells (eJ (acc.drop j))) wq/\Ext wr wq) (fun i _=>(intOf i+1).toNat)
   case atStart=>exact⟨m,rfl,aE _,by rw[HM.o,uo];exact Lib.fresh_isBuilder _ _ wr,(Ext.refl _).alloc _⟩
   case round =>
    obtain⟨j,rfl,hj,hB,hq⟩:=hrel
    by_cases hj0:j=0
    ·subst hj0
     rw[jN]at hB
     by_cases h1:n=1
     ·have t1:(n == 1)=true:=by simpa using h1
      have qo:(n != 1)=false:=by simpa using h1
      have hv:Hid (xQ=some acc):=by show _=_;rw[oK.o,af h1]
      clear h1 SJ;go_wp2_with fail;refine (Builder_Len _ _ _ _ hB).mono ?_;rintro e w5 ⟨rfl,rfl⟩
      by_cases ha:acc=[]
      ·have hp0:(Lib.byteCells (eJ acc)).length=0:=by rw[ha];rfl
       rw[hp0];go_wp2;go_ret2;exact GG.yes (s:=[47]) (by rw[hwf.o,hv.o,ha];rfl) (hE.trans hq)
      ·have hp0:((((Lib.byteCells (eJ acc)).length:Nat):Int) == 0)=false:=by
        have h2:eJ acc≠[]:=fun h=>ha (CM.1 h)
        have h3:(Lib.byteCells (eJ acc)).length≠0:=by simpa [Lib.byteCells]using h2
        simpa using h3
       have hpt:Hid (tf acc=eJ acc):=by show _=_;unfold tf;rw[ac ha]
       generalize (((Lib.byteCells (eJ acc)).length:Nat):Int)=bl at hp0
       clear ha;go_wp2_with fail;refine (Builder_String_any _ _ _ _ hB hq.size).mono ?_;rintro e w6 ⟨rfl,b6⟩;go_wp2;go_ret2;exact GG.yes (by rw[hwf.o,hv.o,<-hpt.o];rfl) (hE.trans (Jq hq b6))
     ·have t1:(n == 1)=false:=by simpa using h1
      have qo:(n != 1)=true:=by simpa using h1
      have hv:Hid (xQ=none):=by show _=_;rw[oK.o,ac h1]
      clear h1;go_wp2;go_ret2;exact GG.no (by rw[hwf.o,hv.o];rfl) (hE.trans hq)
    ·obtain ⟨i,rfl⟩:∃i,j=i+1:=⟨j-1,by omega⟩
     have hil:i<acc.length:=by have:=HM.o;omega
     obtain⟨bE,oE,rfl,hbE,ca⟩:=SJ.at_ hq i hil;have po:=J9 hil;have hxl:=hac.o _ (jh hil);obtain⟨y,hy⟩:=ai (acc[i]);rw[<-hy]at ca po hxl;have Jg:=zH po;have q1:(((i+1:Nat):Int)-1)=i:=by omega
     rw [q1];have hs1:((⟨#[47]⟩:ByteArray)++bs y)=bs (47::y):=mW [47] y;have hsy:(bs y).size=y.length:=bo y;have mP:(eJ (acc.drop (i+1))).length<=1002*256:=by
      have:=wQ (acc.drop (i+1)) (fun x hx=>hac.o x (List.mem_of_mem_drop hx));rw[oh]at this;have:=HM.o;omega
     clear hy po hj0;go_wp2_with fail;refine (J8 _ _ _ _ _ hB (by rw[bo];simp[Lib.byteCells];omega) hq.size).mono ?_;rintro e w5 ⟨rfl,h5,b5⟩;have H5:=zH h5;clear h5;go_wp2_with fail;go_roundw
     case rel=>exact⟨i,by go_num,by omega,.inr (by rw[Jg.o];have:=H5.o;simpa [Lib.byteCells,Lib.strCells,bs]using this),Jq hq b5⟩
     case measure=>simp[intOf]
  ·have ts : (u == n)=false:=by simpa using hs
   have tsb:(u != n)=true:=by simpa using hs
   have yG:n≠1\/u≠n:=.inr hs;have hst:aC S n≠n:=by rw[<-Zp.o];exact hs
   have qQ:=zH hst;clear hs yG hst;obtain⟨_,_,cdr,hWr,_⟩:=id (h.ext hE);have v0:=aA hWr 0 rfl;have vz:=hWr.lt;clear hWr;go_wp2_with fail;refine (fW B g.bT g.bM S.nodes S.last n _ (h.ext hE).2.1).mono ?_;rintro e w3 ⟨A3,c3,rfl,mE,b3⟩;obtain⟨m,hm⟩:=ai (aa S.nodes n);obtain⟨im,NZ⟩:=ai (aW S.nodes n);rw[<-hm]at mE;rw[<-hm,<-NZ];obtain⟨W4,gb⟩:=ai (w3.alloc (.cells (m,A3,c3) 66));obtain⟨b8,gH⟩:=ai w3.heap.size;have N4:Has W4 b8 (.cells (m,A3,c3) 66):=by rw[gb,gH];exact Has.new _ _
   have yM:Ext wr W4:=b3.trans (by rw[gb];exact (Ext.refl _).alloc _);have MK:Ext w W4:=hE.trans yM;have HM:=zH hm;clear hm NZ mE v0 vz;go_upto_region 8 with fail;rw[<-gb];rw[<-gH];clear gb gH;have k1:=aA N4 1 rfl;have kz:=N4.lt;go_wp2_with fail;refine (fQ B g S m.dev _ (h.ext MK) hd (by omega)).mono ?_;rintro e w5 ⟨rfl,b5⟩;have hE5:=MK.trans b5;have N5:=N4.ext b5;clear k1 kz;obtain⟨ch,hch⟩:=ai (wO S n);have HCH:=zH hch;clear hch;go_upto_if 41 with fail;go_cut [1] (fun v wc=>v=.int .i64 ch/\Ext w5 wc)
   case first =>
    by_cases BQ:aI S.ae m.dev=n
    ·have tr:(aI S.ae m.dev == n)=true:=by simpa using BQ
     have Ka:n≠0/\1<m.dev:=by
      have hn0:n≠0:=by
       intro h0;have h00:aa S.nodes n=aj:=by rw[h0];exact (aP (hu.zero (.inl (by decide)))).1
       have:aC S n=n:=by unfold aC;rw[h00,h0];rfl
       exact qQ.o this
      refine⟨hn0,?_⟩
      by_cases h':1<m.dev
      ·exact h'
      ·exact absurd (HTO.o n hn0 (by rw[<-HM.o];exact BQ) (by rw[<-HM.o];exact Int.not_lt.1 h')) qQ.o
     have hv:Hid (ch=(jq S.ae m.dev).over):=by
      show _=_;rw[HCH.o];unfold wO;rw[<-HM.o,af ⟨BQ,Ka.2⟩]
     obtain ⟨q,hq,e1,e3⟩:∃q:Nat,∃hq:q<S.ae.length,m.dev=q+1/\jq S.ae m.dev=S.ae[q]:=by
      rcases cT hr m.dev with⟨r1,r2⟩|⟨q,hq,e1,_,e3,_,_,_⟩
      ·exact absurd (by rw[<-BQ];exact r1) Ka.1
      ·exact⟨q,hq,e1,e3⟩
     obtain⟨_,_,cd5,kT,Zm⟩:=id (h.ext hE5);obtain⟨_,d1,_,_,_,_⟩:=fg.at_ Zm q hq;rw[e3]at hv;obtain⟨ov,zM⟩:=ai (S.ae[q].over);rw[<-zM]at d1 hv;have p1:=aA kT 1 rfl;have pz:=kT.lt;have p2:=aA N5 1 rfl;have pz2:=N5.lt;have pz3:=(h.ext hE5).lt.2.2.2;have y0:(0:Int)<=m.dev-1:=by rw[e1];omega
     have y1:m.dev-1<(S.ae.length:Int):=by rw[e1];omega
     have y2:(m.dev-1).toNat=q:=by rw[e1];omega
     have y3:IntKind.i64.wrap (m.dev-1)=m.dev-1:=aU (by omega) (by omega);have y4:1<=m.dev:=by omega
     have y5:m.dev.toNat-1=q:=by omega
     clear Ka e1 e3 zM kT Zm BQ;go_upto_region 9 with fail;go_quiet (fail);go_wp2_with fail;go_meet;exact⟨by rw[hv.o],(Ext.refl _).drewN nq⟩
    ·have tr:(aI S.ae m.dev == n)=false:=by simpa using BQ
     have hv:Hid (ch=n):=by
      show _=_;rw[HCH.o];unfold wO;rw[<-HM.o,ac (fun h2=>BQ h2.1)]
     clear BQ;go_wp2_with fail;go_meet;exact⟨by rw[hv.o],Ext.refl _⟩
   case rest =>
   obtain ⟨rfl,E6⟩:=hcut;obtain⟨W6,tM⟩:=ai wc;rw[<-tM]at E6|-;have Zn:=hE5.trans E6;clear tM N5 N4;obtain⟨_,_,cd6,tM,_⟩:=id (h.ext Zn);have v0:=aA tM 0 rfl;have vz:=tM.lt;clear tM;go_wp2_with fail;refine (fW B g.bT g.bM S.nodes S.last u _ (h.ext Zn).2.1).mono ?_;rintro e w7 ⟨A7,c7,rfl,wF,b7⟩;obtain⟨mu,BZ⟩:=ai (aa S.nodes u);obtain⟨iu,hiu⟩:=ai (aW S.nodes u);rw[<-BZ]at wF;rw[<-BZ,<-hiu];have Oh:(∀x∈mu.ah,x.1≠[]/\x.1.length<=255)/\mu.ah.length<=1000000/\(iu=false->mu.ah=[]):=by
    cases hi:aW S.nodes u
    ·rw[BZ,(aP hi).1];exact⟨fun x hx=>by simp[aj]at hx,by simp[aj],fun _=>rfl⟩
    ·rw[BZ];exact⟨hn _ (ap hi).2.2,hel _ (ap hi).2.2,fun h=>by rw[hiu,hi]at h;cases h⟩
   have ie:Hid (Jf S n=(nameOf mu.ah ch).map (·.1)):=by show _=_;unfold Jf;rw[<-Zp.o,<-BZ,<-HCH.o]
   obtain⟨W8,uG⟩:=ai (w7.alloc (.cells (mu,A7,c7) 66));obtain⟨CN,lK⟩:=ai w7.heap.size;have N8:Has W8 CN (.cells (mu,A7,c7) 66):=by rw[uG,lK];exact Has.new _ _
   have E78:Ext w7 W8:=by rw[uG];exact (Ext.refl _).alloc _
   have Xd:Ext w W8:=(Zn.trans b7).trans E78;have ok8:=wF.ext E78;have Oi:=zH Oh;clear BZ hiu Oh v0 vz wF;go_upto_region 11 with fail;rw[<-uG];rw[<-lK];clear uG lK;have xR:=aA N8 11 rfl;have kz:=N8.lt;go_wp2_with fail;refine (RU A7 mu.ah c7 ch _ ok8.ah.ah Oi.o.2.1).mono ?_;rintro e w9 ⟨he,b9⟩;have Rf:=Xd.trans b9;have SK:=GI hown ((((yM.trans b5).trans E6).trans b7).trans (E78.trans b9));clear xR kz
   cases hx:nameOf mu.ah ch with
   | none =>
    rw [hx]at he;subst he;have hv:Hid (wP S no=none):=by
     show _=_;rw[hwf.o,<-hw.o]
     by_cases h1:n=1
     ·exact absurd (by rw[h1];exact SI.o) qQ.o
     ·rw[GJ HR.o hu h1 qQ.o,ie.o,hx];rfl
    clear hx
    cases iu
    all_goals
     go_wp2;go_ret2;exact GG.no hv.o Rf
   | some x =>
    rw [hx]at he;have hiu:iu=true:=by
     cases iu
     ·have:=Oi.o.2.2 rfl
      rw[this]at hx;cases hx
     ·rfl
    subst hiu;subst he;have hxo:=Oi.o.1 x (Ad hx);have hw3:Hid ((B_ S u).map (fun l=>(acc++[x.1])++l)=xQ):=by
     show _=_;rw[<-hw.o]
     by_cases h1:n=1
     ·exact absurd (by rw[h1];exact SI.o) qQ.o
     ·rw [GJ HR.o hu h1 qQ.o,ie.o,hx,<-Zp.o]
      simp only[Option.map_some,Option.map_map]
      congr 1
      funext l
      simp
    have aam:Hid (∀y∈acc++[x.1],y.length<=255):=by
     show ∀y∈acc++[x.1],y.length<=255;intro y hy;rcases dn.1 hy with hy|hy
     ·exact hac.o y hy
     ·rw[ax.1 hy];exact hxo.2
    have Ze:Hid ((if u=0 then 0 else r u+1)<(if n=0 then 0 else r n+1)):=by
     show (if u=0 then 0 else r u+1)<(if n=0 then 0 else r n+1);have hn0:n≠0:=by
      intro h0;have h00:aa S.nodes n=aj:=by rw[h0];exact (aP (hu.zero (.inl (by decide)))).1
      have:aC S n=n:=by unfold aC;rw[h00,h0];rfl
      exact qQ.o this
     rw[ac hn0];split
     ·omega
     ·rename_i h
      have:=HR.o.step n hn0 (by rw[<-Zp.o];exact h) qQ.o;rw[<-Zp.o]at this;omega
    have hal:acc.length<=1002:=by omega
    have hgt:acc.length+1+(if u=0 then 0 else r u+1)<=1002:=by have:=Ze.o;omega
    have HGT:=zH hgt;have HX:=zH hx;clear hx hxo hgt ad5;unfold lJ at hown;go_wp2_with (at_builtin;refine rh _ rfl _ _ 135 rfl w.heap.size 9 i0 (.string ⟨#[]⟩) 1 16 underlying135 hi hz0 hz1 hz2 rfl (by decide) _ _ _ rfl (SK.alloc _) ⟨w9.heap.size,0,none⟩ 1 1 (cD [x.1]) rfl rfl (uC w9 x.1) (k7 [x.1]) (by unfold maxLen;omega) (by omega) (by have:=Rf.size;simp;omega) ?_);intro v' tg SL hgrow _;obtain⟨abZ,ab0⟩:=Ey SK Rf SL hgrow;clear SL hgrow hown SK;have EL:=zH abZ;clear abZ;go_wp2_with fail;refine (nJ B g S u _ (h.ext ab0) hd mZ hr hu).mono ?_;rintro e Rg ⟨rfl,dI⟩;go_wp2_with fail;go_roundw
    case rel=>exact⟨u,aC S u,acc++[x.1],rfl,rfl,rfl,GI EL.o dI,by rw[aZ];exact HGT.o,aam,hw3,ab0.trans dI⟩
    case measure=>exact Ze.o
attribute [local irreducible] wpQuiet
structure ab1 (S:ag):Prop where
 bL:aQ S.nodes S.last
 last:1<=S.last
 ae:0<S.ae.length
 eight:S.ae.length<=8
 roots:eV S.ae
 count:S.nodes.length<=S.last
 ah:∀n∈S.nodes,n.ah.length<=1000000
structure Fit (S:ag):Prop where
 fJ:ab1 S
 names:uR S
 top:Zo S
 one:aC S 1=1
 GK:∃r,pG S r
 short:S.last<=1000
theorem Fit.len (h:Fit S):S.nodes.length<=1000:=by have:=h.fJ.count;have:=h.short;omega
theorem Fit.ah (h:Fit S):∀n∈S.nodes,n.ah.length<=1000000:=h.fJ.ah
theorem GG.val (o:Option (List UInt8)):∃X b,∀w e w',GG w o e w'->e=.returned (.tuple #[.string X,.bool b])/\Ext w w':=by
 cases o with
 | none=>exact⟨_,_,fun w e w' h=>h⟩
 | some s=>exact⟨_,_,fun w e w' h=>h⟩
theorem Kb (B B':Nat) (g:dL) (f:cI) (S:ag) (X:cY) (w:World) (K:eL w B g S) (F:gv w B' f S X) (H:Fit S) :
  Calls prog 94 #[((),g.bW),((),f.bF)] w (aO w (.bool true)):=by
 have HF:=zH H;have hd:=H.fJ.ae;have mZ:=H.fJ.eight;have hr:=H.fJ.roots;have hu:=H.fJ.bL;have hl:=H.len;have jZ:=H.fJ.last;have xH:=H.short;clear H;have KD:Hid (∀u:Gr w,Calls prog 137 #[((),g.bW)] u.w (aO u.w (.int .i64 S.ae.length))):=by
  show ∀u:Gr w,_;exact fun u=>mY B g S _ (K.ext u.h) hd
 have KL:Hid (∀u:Gr w,Calls prog 49 #[((),g.bT)] u.w (aO u.w (.int .i64 S.nodes.length))):=by
  show ∀u:Gr w,_;exact fun u=>GF B g.bT g.bM S.nodes S.last _ (K.ext u.h).2.1
 obtain⟨_,_,cd,kW,_⟩:=id K;obtain⟨_,cn,ce,kF,_,_⟩:=id F;have y0:=Gr.cell kW.lt (kW.cell 0);have y1:=Gr.cell kF.lt (kF.cell 0);have y2:=Gr.cell kF.lt (kF.cell 1);clear kW kF;go_in;go_upto_region 1 with fail;refine Rd w ?_
 repeat (quiet_step (first
  | ((with_reducible refine (KD.o _).mono ?_);rintro e w'' ⟨rfl,mv⟩;exact⟨rfl,⟨w'',Ext.trans (Gr.h _) mv⟩,rfl⟩)
  | ((with_reducible refine (KL.o _).mono ?_);rintro e w'' ⟨rfl,mv⟩;exact⟨rfl,⟨w'',Ext.trans (Gr.h _) mv⟩,rfl⟩)))
 refine lH (NX fun w1 E1=>?_);clear y0 y1 y2 KD KL;obtain⟨D,hD⟩:=ai S.ae.length;have HD:=zH hD;have hD1:0<D:=by omega
 have hD8:D<=8:=by omega
 clear hD;go_wp2_with fail;go_loopw [5] (fun v5 wr=>∃d:Nat,v5=.int .i64 d/\d<=D+2/\Ext w wr) (fun v _=>D+2-(intOf v).toNat)
 case atStart=>exact⟨0,rfl,by omega,E1⟩
 case round =>
  obtain⟨d,rfl,MH,hE⟩:=hrel;have Kr:=K.ext hE;have Fr:=F.ext hE;obtain⟨_,cnr,cer,kF,_,kD⟩:=id Fr;have c1:wr.cell? (f.bF,1)=some (.slice (some f.bE) D cer):=by rw[HD.o];exact kF.cell 1
  have zF:=kF.lt
  by_cases lm:d<=D+1
  ·have tin:decide ((d:Int)<=(D:Int)+1)=true:=cj (by omega)
   obtain⟨W6,tM⟩:=ai (wr.alloc (.cells #[(),(),(),()] 189));obtain⟨b6,GL⟩:=ai wr.heap.size;have N6:Has W6 b6 (.cells #[ju.blocks,ju.nodes,ju.bH,ju.bG] 189):=by rw[tM,GL];exact Has.new _ _
   have E6:Ext wr W6:=by rw[tM];exact (Ext.refl _).alloc _
   have aao:wr.heap.size<=b6:=by omega
   clear kF kD;go_upto_region 7 with fail;rw[<-tM];rw[<-GL];have Hb6:=zH aao;clear tM GL aao;go_wp2_with fail;refine (iw B' f S X d _ (Fr.ext E6) (by omega)).mono ?_;rintro e w7 ⟨rfl,b7⟩;have N7:=N6.ext b7;have E7:=E6.trans b7;obtain⟨_,_,ce7,kF7,_,kD7⟩:=id (Fr.ext E7);have c7:w7.cell? (f.bF,1)=some (.slice (some f.bE) D ce7):=by rw[HD.o];exact kF7.cell 1
   have z7:=kF7.lt;have z7E:=(Fr.ext E7).lt.2.2;clear kF7;obtain⟨q,hq⟩:=ai (zR S.ae d);have HQ:=zH hq;clear hq;go_upto_if 49 with fail;go_cut [6] (fun v wc=>v=.pointer (some ⟨b6,0,none⟩)/\Has wc b6 (.cells #[q.blocks,q.nodes,q.bH,q.bG] 189)/\Ext wr wc)
   case first =>
    rcases cT hr d with⟨e1,e2⟩|⟨k,hk,e1,e2,e3,e4,e5,e6⟩
    ·have hv:q=ju:=by rw[HQ.o];unfold zR;rw[e2];rfl
     have t1:(aI S.ae d != 0)=false:=by simpa using e1
     have qo:(aI S.ae d == 0)=true:=by simpa using e1
     clear e1 e2 kD7;go_wp2_with fail;go_meet;exact⟨rfl,by rw[hv];exact N7,E7⟩
    ·have hv:q=S.ae[k].q:=by rw[HQ.o];unfold zR;rw[e2,e3];rfl
     have t1:(aI S.ae d != 0)=true:=by rw[e4];simpa using (by omega:S.ae[k].root≠0)
     have qo:(aI S.ae d == 0)=false:=by rw[e4];simpa using (by omega:S.ae[k].root≠0)
     obtain⟨d0,d1,d2,d3,d4,d5⟩:=fg.at_ kD7 k hk;rw[<-hv]at d2 d3 d4 d5;have hkD:k<D:=by have:=HD.o;omega
     have e1':(d:Int)-1=k:=by omega
     have y0:(0:Int)<=(k:Int):=cO _;have y1:(k:Int)<(D:Int):=by omega
     have y2:((d:Int)-1).toNat=k:=by omega
     have y3:IntKind.i64.wrap ((d:Int)-1)=k:=by rw[e1'];exact aU (by omega) (by omega)
     clear e1 e2 e3 e4 e5 e6 hv kD7 hkD d0 d1 hk;go_wp2_with (refine ko rfl _ _ rfl b6 q rfl rfl N7 ?_;intro w8 N8 O8);go_meet;exact⟨rfl,N8,O8.after E7 (by intro x hx;rw[ax]at hx;have:=Hb6.o;omega)⟩
   case rest =>
   obtain ⟨rfl,N8,E8⟩:=hcut;obtain⟨W8,uG⟩:=ai wc;rw[<-uG]at N8 E8|-;have KR:Hid (∀u:Gr W8,Calls prog 138 #[((),g.bW),d] u.w (aO u.w (.int .i64 (aI S.ae d)))):=by
    show ∀u:Gr W8,_;exact fun u=>fQ B g S d _ ((Kr.ext E8).ext u.h) hd (by omega)
   have KQ:Hid (∀u:Gr W8,Calls prog 133 #[((),f.bF),d] u.w (aO u.w (.int .i64 (aI S.ae d)))):=by
    show ∀u:Gr W8,_;exact fun u=>iw B' f S X d _ ((Fr.ext E8).ext u.h) (by omega)
   have KU:Hid (∀u:Gr W8,Calls prog 139 #[((),g.bW),d] u.w (aO u.w (.agg #[q.blocks,q.nodes,q.bH,q.bG]))):=by
    show ∀u:Gr W8,_;intro u;rw[HQ.o];exact SE B g S d _ ((Kr.ext E8).ext u.h) hd mZ hr
   have y0:=Gr.cell N8.lt (N8.cell 0);have y1:=Gr.cell N8.lt (N8.cell 1);have y2:=Gr.cell N8.lt (N8.cell 2);have y3:=Gr.cell N8.lt (N8.cell 3);have hc8:Ext w W8:=hE.trans E8;clear uG N8 N7 N6 c1 c7 zF z7 z7E kD7 E8 E7 E6 b7;go_upto_region 9 with fail;refine Rd W8 ?_
   repeat (quiet_step (first
    | ((with_reducible refine (KR.o _).mono ?_);rintro e w'' ⟨rfl,mv⟩;exact⟨rfl,⟨w'',Ext.trans (Gr.h _) mv⟩,rfl⟩)
    | ((with_reducible refine (KQ.o _).mono ?_);rintro e w'' ⟨rfl,mv⟩;exact⟨rfl,⟨w'',Ext.trans (Gr.h _) mv⟩,rfl⟩)
    | ((with_reducible refine (KU.o _).mono ?_);rintro e w'' ⟨rfl,mv⟩;exact⟨rfl,⟨w'',Ext.trans (Gr.h _) mv⟩,rfl⟩)))
   refine lH (NX fun w9 E9=>?_);clear y0 y1 y2 y3 KR KQ KU;go_wp2_with fail;go_roundw
   case rel=>exact⟨d+1,by go_num,by omega,hc8.trans E9⟩
   case measure=>simp[intOf];omega
  ·have tin:decide ((d:Int)<=(D:Int)+1)=false:=cG (by omega)
   clear lm kF kD;obtain⟨L,hL⟩:∃L:Nat,S.last=L:=⟨S.last.toNat,by omega⟩;have hL1:1<=L:=by omega
   have J2:L<=1000:=by omega
   have HL:=zH hL;clear hL jZ xH;go_wp2_with fail;go_loopw [7] (fun v7 wq=>∃k:Nat,v7=.int .i64 ((k:Int)-1)/\k<=L+3/\Ext w wq) (fun v _=>((L:Int)+2-intOf v).toNat)
   case atStart=>exact⟨0,rfl,by omega,hE⟩
   case round =>
    clear hE Kr Fr c1 zF;obtain⟨k,rfl,hkL,hE⟩:=hrel;have Kr:=K.ext hE;have Fr:=F.ext hE;obtain⟨_,cnr,cer,kF,_,kD⟩:=id Fr;have c2:wr.cell? (f.bF,2)=some (.int .i64 (L:Int)):=by rw[<-HL.o];exact kF.cell 2
    have zF:=kF.lt;clear kF kD
    by_cases lm:k<=L+2
    ·have ab2:decide ((k:Int)-1<=(L:Int)+1)=true:=cj (by omega)
     go_upto_region 14 with fail;obtain⟨no,bB⟩:=ai ((k:Int)-1);rw[<-bB];have yG:-1<=no:=by omega
     have ug:no<=1002:=by omega
     have uh:=zH bB;obtain⟨_,_,cdr,kW,_⟩:=id Kr;have v0:=aA kW 0 rfl;have vz:=kW.lt;obtain⟨A,c,ok,C14⟩:=nI B g S no wr Kr;obtain⟨m,hm⟩:=ai (aa S.nodes no);have hme:m.ah.length<=1000000:=by
      cases hi:aW S.nodes no
      ·rw[hm,(aP hi).1];simp[aj]
      ·rw[hm];exact HF.o.ah _ (ap hi).2.2
     obtain⟨im,NZ⟩:=ai (aW S.nodes no);rw[<-hm]at ok C14;rw[<-NZ]at C14;have HM:=zH hm;have ad8:=zH C14;clear kW hm NZ C14 bB ab2 c2;go_wp2_with fail;refine (ad8.o _ (Ext.refl _)).mono ?_;rintro e w3 ⟨rfl,b3⟩;obtain⟨W4,gb⟩:=ai (w3.alloc (.cells (m,A,c) 66));obtain⟨b8,gH⟩:=ai w3.heap.size;have N4:Has W4 b8 (.cells (m,A,c) 66):=by rw[gb,gH];exact Has.new _ _
     have E4:Ext wr W4:=b3.trans (by rw[gb];exact (Ext.refl _).alloc _);clear v0 vz;go_upto_region 15 with fail;rw[<-gb];rw[<-gH];clear gb gH;obtain⟨r,R⟩:=HF.o.GK;obtain⟨X5,t5,hX5⟩:=GG.val (wP S no);have HX5:=zH hX5;have HR:=zH R;clear hX5 R;go_wp2_with fail;refine (J_ B g S r no _ (Kr.ext E4) hl hd mZ hr hu HF.o.names HF.o.ah HR.o HF.o.top HF.o.one).mono ?_;intro e w5 Xg;obtain⟨rfl,b5⟩:=HX5.o _ _ _ Xg;clear Xg;go_wp2_with fail;refine (J5 B' f S X no _ (Fr.ext (E4.trans b5)) (by omega) hd mZ hr hu HF.o.names HF.o.ah).mono ?_;intro e w6 Xg;obtain⟨rfl,b6⟩:=HX5.o _ _ _ Xg;clear Xg;have N6:=N4.ext (b5.trans b6);have E6:=E4.trans (b5.trans b6);go_upto_region 17 with fail;obtain⟨A',c',ok',C17⟩:=pF B' f S X no w6 (Fr.ext E6) (by omega) hu;rw[<-HM.o]at ok' C17;have ad9:=zH C17;have uj:=ok.ext E6;have KS:Hid (∀u:Gr w6,Calls prog 56 #[.agg (m,A,c),.agg (m,A',c')] u.w (aO u.w (.bool true))):=by
      show ∀u:Gr w6,_;intro u;exact Og m A A' c c' u.w (uj.ext u.h).ah.ah (ok'.ext u.h).ah.ah hme
     have K1:Hid (∀u:Gr w6,Calls prog 101 #[((),g.bW),no] u.w (aO u.w (.int .i64 (aw S.ae no)))):=by
      show ∀u:Gr w6,_;exact fun u=>iZ B g S no _ ((Kr.ext E6).ext u.h) hd (by omega)
     have K2:Hid (∀u:Gr w6,Calls prog 84 #[((),f.bF),no] u.w (aO u.w (.int .i64 (aw S.ae no)))):=by
      show ∀u:Gr w6,_;exact fun u=>iy B' f S X no _ ((Fr.ext E6).ext u.h) (by omega)
     have K3:Hid (∀u:Gr w6,Calls prog 142 #[((),g.bW),no] u.w (aO u.w (.int .i64 (aC S no)))):=by
      show ∀u:Gr w6,_;exact fun u=>nJ B g S no _ ((Kr.ext E6).ext u.h) hd mZ hr hu
     have K4:Hid (∀u:Gr w6,Calls prog 83 #[((),f.bF),no] u.w (aO u.w (.int .i64 (aC S no)))):=by
      show ∀u:Gr w6,_;exact fun u=>qp B' f S X no _ ((Fr.ext E6).ext u.h) (by omega) mZ hr hu
     have K5:Hid (∀u:Gr w6,Calls prog 143 #[((),g.bW),no] u.w (aO u.w (.bool (pH S no)))):=by
      show ∀u:Gr w6,_;exact fun u=>Od B g S r no _ ((Kr.ext E6).ext u.h) hd mZ hr hu HR.o
     have K6:Hid (∀u:Gr w6,Calls prog 144 #[((),f.bF),no] u.w (aO u.w (.bool (pH S no)))):=by
      show ∀u:Gr w6,_;exact fun u=>Oe B' f S X no _ ((Fr.ext E6).ext u.h) (by omega) mZ hr hu
     have zb:=N6.lt;obtain⟨x0',Za,Xh,Zq,x4',x5',x6',x7',x8',x9',SM,SN⟩:=N6.da;have y0:=Gr.cell zb x0';have y1:=Gr.cell zb Za;have y2:=Gr.cell zb Xh;have y3:=Gr.cell zb Zq;have y4:=Gr.cell zb x4';have y5:=Gr.cell zb x5';have y6:=Gr.cell zb x6';have y7:=Gr.cell zb x7';have y8:=Gr.cell zb x8';have y9:=Gr.cell zb x9';have pY:=Gr.cell zb SM;have nL:=Gr.cell zb SN;obtain⟨ov,zM⟩:=ai (aw S.ae no);obtain⟨ab,hab⟩:=ai (aC S no);obtain⟨bu,hbu⟩:=ai (pH S no);rw[<-zM]at K1 K2;rw[<-hab]at K3 K4;rw[<-hbu]at K5 K6;have Zn:=hE.trans E6;clear x0' Za Xh Zq x4' x5' x6' x7' x8' x9' SM SN C17 zM hab hbu N4 N6 ok ok' uj E4 b5 b6 b3 E6;refine Rd w6 ?_
     repeat (quiet_step (first
      | ((with_reducible refine (ad9.o _ (Gr.h _)).mono ?_);rintro e w'' ⟨rfl,mv⟩;exact⟨rfl,⟨w'',Ext.trans (Gr.h _) mv⟩,rfl⟩)
      | ((with_reducible refine (KS.o _).mono ?_);rintro e w'' ⟨rfl,mv⟩;exact⟨rfl,⟨w'',Ext.trans (Gr.h _) mv⟩,rfl⟩)
      | ((with_reducible refine (K1.o _).mono ?_);rintro e w'' ⟨rfl,mv⟩;exact⟨rfl,⟨w'',Ext.trans (Gr.h _) mv⟩,rfl⟩)
      | ((with_reducible refine (K2.o _).mono ?_);rintro e w'' ⟨rfl,mv⟩;exact⟨rfl,⟨w'',Ext.trans (Gr.h _) mv⟩,rfl⟩)
      | ((with_reducible refine (K3.o _).mono ?_);rintro e w'' ⟨rfl,mv⟩;exact⟨rfl,⟨w'',Ext.trans (Gr.h _) mv⟩,rfl⟩)
      | ((with_reducible refine (K4.o _).mono ?_);rintro e w'' ⟨rfl,mv⟩;exact⟨rfl,⟨w'',Ext.trans (Gr.h _) mv⟩,rfl⟩)
      | ((with_reducible refine (K5.o _).mono ?_);rintro e w'' ⟨rfl,mv⟩;exact⟨rfl,⟨w'',Ext.trans (Gr.h _) mv⟩,rfl⟩)
      | ((with_reducible refine (K6.o _).mono ?_);rintro e w'' ⟨rfl,mv⟩;exact⟨rfl,⟨w'',Ext.trans (Gr.h _) mv⟩,rfl⟩)))
     refine lH (NX fun w7 b7'=>?_);clear y0 y1 y2 y3 y4 y5 y6 y7 y8 y9 pY nL K1 K2 K3 K4 K5 K6 KS;go_wp2_with fail;go_roundw
     case rel=>exact⟨k+1,by rw[uh.o];go_num,by omega,Zn.trans b7'⟩
     case measure=>have:=uh.o;simp[intOf];omega
    ·have ab2:decide ((k:Int)-1<=(L:Int)+1)=false:=cG (by omega)
     go_wp2;go_ret;exact aO.mk rfl hE
end
def cK (m:Int) (i:Nat):Bool:=m / 2 ^ i % 2 == 1
theorem Xi (mode:Int) (i:Nat):(bits BinOp.and IntKind.i64 (mode / 2 ^ i) 1 == 1)=cK mode i:=by rw[abN];rfl
theorem Ae (mode:Int):(bits BinOp.and IntKind.i64 mode 512 != 0)=cK mode 9:=by
 rw[WH];unfold cK;have h:mode / 512 % 2=0\/mode / 512 % 2=1:=by omega
 rcases h with h|h<;>simp[h]
def EM (m want:Int):Bool:=bits .and .i64 (bits .and .i64 m want) 7 == bits .and .i64 want 7
def part (u g uid gid mode:Int):Int:=if u=uid then mode / 64 else if g=gid then mode / 8 else mode
def fh (u g uid gid mode want:Int):Bool:=if u=0 then true else EM (part u g uid gid mode) want
theorem SP (g uid gid mode want:Int) (h:u=0):fh u g uid gid mode want=true:=by unfold fh;rw[af h]
theorem aap (g gid mode want:Int) (h:¬u=0) (h1:u=uid):fh u g uid gid mode want=EM (mode / 64) want:=by unfold fh part;rw[ac h,af h1]
theorem aaq (mode want:Int) (h:¬u=0) (h1:¬u=uid) (h2:g=gid):fh u g uid gid mode want=EM (mode / 8) want:=by unfold fh part;rw[ac h,ac h1,af h2]
theorem aar (mode want:Int) (h:¬u=0) (h1:¬u=uid) (h2:¬g=gid):fh u g uid gid mode want=EM mode want:=by unfold fh part;rw[ac h,ac h1,ac h2]
theorem Xj (u g uid gid mode want:Int) (w:World) :
  Calls prog 95 #[.agg #[u,g],uid,gid,mode,want] w (aO w (.bool (fh u g uid gid mode want))):=by
 by_cases h0:u=0
 ·have oK:=zH (SP g uid gid mode want h0)
  have b0:(u == 0)=true:=il.2 h0;clear h0;go_in;go_wp2;go_ret;exact aO.mk (by rw[oK.o];rfl) ((Ext.refl _).alloc _)
 ·have b0:(u == 0)=false:=ji.2 h0
  by_cases h1:u=uid
  ·have oK:=zH (aap g gid mode want h0 h1)
   have b1:(u == uid)=true:=il.2 h1;clear h0 h1;go_in;go_wp2;go_ret;exact aO.mk (by rw[oK.o];rfl) ((Ext.refl _).alloc _)
  ·have b1:(u == uid)=false:=ji.2 h1
   by_cases h2:g=gid
   ·have oK:=zH (aaq mode want h0 h1 h2)
    have b2:(g == gid)=true:=il.2 h2;clear h0 h1 h2;go_in;go_wp2;go_ret;exact aO.mk (by rw[oK.o];rfl) ((Ext.refl _).alloc _)
   ·have oK:=zH (aar mode want h0 h1 h2)
    have b2:(g == gid)=false:=ji.2 h2;clear h0 h1 h2;go_in;go_wp2;go_ret;exact aO.mk (by rw[oK.o];rfl) ((Ext.refl _).alloc _)
theorem wR (x:Int) (i:Nat) (hi:i<=2):cK x i=((x % 18446744073709551616).toNat).testBit i:=by
 have:i=0\/i=1\/i=2:=by omega
 rw[Y1];unfold cK;rcases this with rfl|rfl|rfl<;>rw[zu,il,decide_eq_true_iff]<;>omega
theorem CO (x:Int):x % 8=(if cK x 0=true then 1 else 0)+(if cK x 1=true then 2 else 0)+(if cK x 2=true then 4 else 0):=by
 unfold cK;simp only[il];split<;>split<;>split<;>omega
theorem SQ (n:Nat) (h:n<2 ^ 64):((((n:Int)+9223372036854775808) % 18446744073709551616-9223372036854775808) % 18446744073709551616).toNat=n:=by omega
theorem wS (x y:Int) (i:Nat) (hi:i<=2):cK (bits .and .i64 x y) i=(cK x i&&cK y i):=by
 have h:bits .and .i64 x y=IntKind.i64.wrap ((BitVec.ofInt 64 x &&& BitVec.ofInt 64 y).toNat:Int):=rfl;rw[h,IntKind.wrap_i64,wR _ i hi,wR x i hi,wR y i hi,<-RD,<-kA,<-kA x,<-kA y,<-Z8];rw[kA,SQ _ (BitVec.ofInt 64 x &&& BitVec.ofInt 64 y).isLt]
theorem SR (m want:Int):EM m want=((!cK want 0 || cK m 0)&&((!cK want 1 || cK m 1)&&(!cK want 2 || cK m 2))):=by
 unfold EM;rw[Y3,Y3,CO,CO want,wS _ _ 0 (by omega),wS _ _ 1 (by omega),wS _ _ 2 (by omega)]
 cases cK want 0<;>cases cK want 1<;>cases cK want 2<;>cases cK m 0<;>cases cK m 1<;>cases cK m 2<;>rfl
theorem wT (m:Int) (k i:Nat):cK (m / 2 ^ k) i=cK m (k+i):=by
 unfold cK;rw[Int.pow_add,Int.ediv_ediv_of_nonneg (Int.le_of_lt (WD (by decide)))]
theorem SS (m:Int) (k:Nat):m / 2 ^ k / 2=m / 2 ^ (k+1):=by
 rw[Int.ediv_ediv_of_nonneg (Int.le_of_lt (WD (by decide))),Int.pow_succ]
theorem ST (mode:Int) (n:Nat) (w:World) (hn:n<=1000):Calls prog 104 #[mode,n] w (aO w (.bool (cK mode n))):=by
 go_in;go_wp2_with fail;go_loop [0,5] (fun m i=>∃k:Nat,k<=n/\i=.int .i64 k/\m=.int .i64 (mode / 2 ^ k)) (fun _ i=>n-(intOf i).toNat)
 case atStart=>exact⟨0,by omega,rfl,by simp⟩
 case round =>
  obtain⟨k,hk,rfl,rfl⟩:=hrel
  by_cases hlt:k<n
  ·have hd:=zH (SS mode k)
   go_wp2_with fail;go_round
   case rel=>exact⟨k+1,by omega,by go_num,by rw[<-hd.o]⟩
   case measure=>simp[intOf];omega
  ·obtain rfl:k=n:=by omega
   have oK:=zH (Xi mode k);go_wp2;go_ret;exact aO.mk (by rw[oK.o];rfl) (Ext.refl _)
theorem l9 (mode at_:Int) (w:World) (h0:0<=at_) (h1:at_<=1000):Calls prog 104 #[mode,at_] w (aO w (.bool (cK mode at_.toNat))):=by
 obtain⟨n,rfl⟩:=Int.eq_ofNat_of_zero_le h0;exact ST mode n w (by omega)
def pI (m want:Int) (f:Nat) (k:Nat):Bool:=(List.range k).all fun j=>!cK want j || cK m (f+j)
theorem kH (m want:Int) (f k:Nat):pI m want f (k+1)=(pI m want f k&&(!cK want k || cK m (f+k))):=by
 simp[pI,List.range_succ]
theorem aas (m want:Int) (f:Nat):pI m want f 3=EM (m / 2 ^ f) want:=by
 rw[SR,wT,wT,wT];simp[pI,List.range,List.range.loop]
theorem CP (m want:Int) (f:Nat):∀k j,pI m want f (k+j)=true->pI m want f k=true
 | _,0,h=>h
 | k,j+1,h=>CP m want f k j (by rw[<-un,kH]at h;simp at h;exact h.1)
def lL (u g uid gid:Int):Nat:=if u=uid then 6 else if g=gid then 3 else 0
theorem GM (u g uid gid mode want:Int):fh u g uid gid mode want=(u == 0 || pI mode want (lL u g uid gid) 3):=by
 rw[aas];unfold fh part lL
 by_cases h0:u=0
 ·rw[af h0];simp[h0]
 ·rw [ac h0,ji.2 h0,Bool.false_or]
  split
  ·rfl
  ·split<;>simp
theorem wU {mode want:Int} (h:pI mode want (lL u g uid gid) 3=true):fh u g uid gid mode want=true:=by rw[GM,h];simp
theorem wV {mode want:Int} (hk:k<3) (h:(cK want k&&!cK mode (lL u g uid gid+k))=true):fh u g uid gid mode want=(u == 0):=by
 have : pI mode want (lL u g uid gid) 3=false:=by
  cases hh:pI mode want (lL u g uid gid) 3 with
  | false=>rfl
  | true =>
   have h1:=CP mode want (lL u g uid gid) (k+1) (3-(k+1)) (by rw[show k+1+(3-(k+1))=3 from by omega];exact hh);rw[kH]at h1;simp at h1 h;rcases h1.2 with h2|h2
   ·rw[h.1]at h2;cases h2
   ·rw[h.2]at h2;cases h2
 rw[GM,this];simp
theorem SU (u g uid gid mode want:Int) (w:World) :
  Calls prog 103 #[.agg #[u,g],uid,gid,mode,want] w (aO w (.bool (fh u g uid gid mode want))):=by
 have A0:Has (w.alloc (.cells #[u,g] 27)) w.heap.size (.cells #[u,g] 27):=Has.new _ _
 by_cases h1:u=uid
 ·have FM : Hid (lL u g uid gid=6):=by show _=_;unfold lL;rw[af h1]
  have b1:(u == uid)=true:=il.2 h1;clear h1;go_in;go_wp2_with fail;go_loopw [12] (fun i wr=>∃k:Nat,k<=3/\i=.int .i64 k/\Hid (pI mode want 6 k=true)/\Ext (w.alloc (.cells #[u,g] 27)) wr) (fun i _=>3-(intOf i).toNat)
  case atStart=>exact⟨0,by omega,rfl,rfl,Ext.refl _⟩
  case round =>
   obtain⟨k,hk,rfl,hr,hx⟩:=hrel
   by_cases hlt:k<3
   ·go_wp2_with fail
    refine (l9 _ _ _ (by omega) (by omega)).mono ?_;rintro e w1 ⟨rfl,b1⟩;rw[Ec]
    cases hw:cK want k with
    | false =>
     have hs:Hid (pI mode want 6 (k+1)=true):=by show _=_;rw[kH,hr.o,hw];rfl
     clear hw;go_wp2_with fail;go_roundw
     case rel=>exact⟨k+1,by omega,by go_num,hs,hx.trans b1⟩
     case measure=>simp[intOf];omega
    | true =>
     have hW:Hid (cK want k=true):=hw;clear hw;go_wp2_with fail;refine (l9 _ _ _ (by omega) (by omega)).mono ?_;rintro e w2 ⟨rfl,b2⟩;rw[show (6+(k:Int)).toNat=6+k from by omega]
     cases hm:cK mode (6+k) with
     | true =>
      have hs:Hid (pI mode want 6 (k+1)=true):=by show _=_;rw[kH,hr.o,hm];simp
      clear hm;go_wp2_with fail;go_roundw
      case rel=>exact⟨k+1,by omega,by go_num,hs,(hx.trans b1).trans b2⟩
      case measure=>simp[intOf];omega
     | false =>
      have hs:Hid (fh u g uid gid mode want=(u == 0)):=by show _=_;refine wV (k:=k) hlt ?_;rw[FM.o,hW.o,hm];rfl
      clear hm;have A1:=((A0.ext hx).ext b1).ext b2;have hc:∀i,w2.cell? ⟨w.heap.size,i,none⟩=_:=fun i=>A1.cell i
      go_wp2;go_ret;exact aO.mk (by rw[hs.o];rfl) ((((Ext.refl _).alloc _).trans hx).trans (b1.trans b2))
   ·obtain rfl:k=3:=by omega
    have hs:Hid (fh u g uid gid mode want=true):=by show _=_;refine wU ?_;rw[FM.o];exact hr.o
    go_wp2;go_ret;exact aO.mk (by rw[hs.o];rfl) (((Ext.refl _).alloc _).trans hx)
 ·have b1 : (u == uid)=false:=ji.2 h1
  by_cases h2:g=gid
  ·have FM : Hid (lL u g uid gid=3):=by show _=_;unfold lL;rw[ac h1,af h2]
   have b2:(g == gid)=true:=il.2 h2;clear h1 h2;go_in;go_wp2_with fail;go_loopw [12] (fun i wr=>∃k:Nat,k<=3/\i=.int .i64 k/\Hid (pI mode want 3 k=true)/\Ext (w.alloc (.cells #[u,g] 27)) wr) (fun i _=>3-(intOf i).toNat)
   case atStart=>exact⟨0,by omega,rfl,rfl,Ext.refl _⟩
   case round =>
    obtain⟨k,hk,rfl,hr,hx⟩:=hrel
    by_cases hlt:k<3
    ·go_wp2_with fail
     refine (l9 _ _ _ (by omega) (by omega)).mono ?_;rintro e w1 ⟨rfl,b1⟩;rw[Ec]
     cases hw:cK want k with
     | false =>
      have hs:Hid (pI mode want 3 (k+1)=true):=by show _=_;rw[kH,hr.o,hw];rfl
      clear hw;go_wp2_with fail;go_roundw
      case rel=>exact⟨k+1,by omega,by go_num,hs,hx.trans b1⟩
      case measure=>simp[intOf];omega
     | true =>
      have hW:Hid (cK want k=true):=hw;clear hw;go_wp2_with fail;refine (l9 _ _ _ (by omega) (by omega)).mono ?_;rintro e w2 ⟨rfl,b2⟩;rw[show (3+(k:Int)).toNat=3+k from by omega]
      cases hm:cK mode (3+k) with
      | true =>
       have hs:Hid (pI mode want 3 (k+1)=true):=by show _=_;rw[kH,hr.o,hm];simp
       clear hm;go_wp2_with fail;go_roundw
       case rel=>exact⟨k+1,by omega,by go_num,hs,(hx.trans b1).trans b2⟩
       case measure=>simp[intOf];omega
      | false =>
       have hs:Hid (fh u g uid gid mode want=(u == 0)):=by show _=_;refine wV (k:=k) hlt ?_;rw[FM.o,hW.o,hm];rfl
       clear hm;have A1:=((A0.ext hx).ext b1).ext b2;have hc:∀i,w2.cell? ⟨w.heap.size,i,none⟩=_:=fun i=>A1.cell i
       go_wp2;go_ret;exact aO.mk (by rw[hs.o];rfl) ((((Ext.refl _).alloc _).trans hx).trans (b1.trans b2))
    ·obtain rfl:k=3:=by omega
     have hs:Hid (fh u g uid gid mode want=true):=by show _=_;refine wU ?_;rw[FM.o];exact hr.o
     go_wp2;go_ret;exact aO.mk (by rw[hs.o];rfl) (((Ext.refl _).alloc _).trans hx)
  ·have FM : Hid (lL u g uid gid=0):=by show _=_;unfold lL;rw[ac h1,ac h2]
   have b2:(g == gid)=false:=ji.2 h2;clear h1 h2;go_in;go_wp2_with fail;go_loopw [12] (fun i wr=>∃k:Nat,k<=3/\i=.int .i64 k/\Hid (pI mode want 0 k=true)/\Ext (w.alloc (.cells #[u,g] 27)) wr) (fun i _=>3-(intOf i).toNat)
   case atStart=>exact⟨0,by omega,rfl,rfl,Ext.refl _⟩
   case round =>
    obtain⟨k,hk,rfl,hr,hx⟩:=hrel
    by_cases hlt:k<3
    ·go_wp2_with fail
     refine (l9 _ _ _ (by omega) (by omega)).mono ?_;rintro e w1 ⟨rfl,b1⟩;rw[Ec]
     cases hw:cK want k with
     | false =>
      have hs:Hid (pI mode want 0 (k+1)=true):=by show _=_;rw[kH,hr.o,hw];rfl
      clear hw;go_wp2_with fail;go_roundw
      case rel=>exact⟨k+1,by omega,by go_num,hs,hx.trans b1⟩
      case measure=>simp[intOf];omega
     | true =>
      have hW:Hid (cK want k=true):=hw;clear hw;go_wp2_with fail;refine (l9 _ _ _ (by omega) (by omega)).mono ?_;rintro e w2 ⟨rfl,b2⟩;rw[show ((k:Int)).toNat=0+k from by omega]
      cases hm:cK mode (0+k) with
      | true =>
       have hs:Hid (pI mode want 0 (k+1)=true):=by show _=_;rw[kH,hr.o,hm];simp
       clear hm;go_wp2_with fail;go_roundw
       case rel=>exact⟨k+1,by omega,by go_num,hs,(hx.trans b1).trans b2⟩
       case measure=>simp[intOf];omega
      | false =>
       have hs:Hid (fh u g uid gid mode want=(u == 0)):=by show _=_;refine wV (k:=k) hlt ?_;rw[FM.o,hW.o,hm];rfl
       clear hm;have A1:=((A0.ext hx).ext b1).ext b2;have hc:∀i,w2.cell? ⟨w.heap.size,i,none⟩=_:=fun i=>A1.cell i
       go_wp2;go_ret;exact aO.mk (by rw[hs.o];rfl) ((((Ext.refl _).alloc _).trans hx).trans (b1.trans b2))
    ·obtain rfl:k=3:=by omega
     have hs:Hid (fh u g uid gid mode want=true):=by show _=_;refine wU ?_;rw[FM.o];exact hr.o
     go_wp2;go_ret;exact aO.mk (by rw[hs.o];rfl) (((Ext.refl _).alloc _).trans hx)
def rN (u g:Int):Bool:=decide (0<=u)&&(decide (u<=2147483648)&&(decide (0<=g)&&decide (g<=2147483648)))
def fp (u o:Int):Bool:=u == 0 || u == o
def gR (u ab3 tN no:Int):Bool:=!cK ab3 9 || (fp u tN || fp u no)
theorem CQ (u g:Int) (w:World):Calls prog 161 #[.agg #[u,g]] w (aO w (.bool (rN u g))):=by
 go_in;go_wp2_with fail
 all_goals
  go_ret;exact aO.mk (by simp[rN, *]<;>omega) ((Ext.refl _).alloc _)
theorem sy (u g:Int) (x0 x1 x2 x3:Value) (o:Int) (x5 x6 x7 x8 x9 kC kn:Value) (w:World) :
  Calls prog 96 #[.agg #[u,g],.agg #[x0,x1,x2,x3,o,x5,x6,x7,x8,x9,kC,kn]] w (aO w (.bool (fp u o))):=by
 cases h:(u == 0) with
 | true =>
  have hf:Hid (fp u o=true):=by show _=_;unfold fp;rw[h];rfl
  go_in;go_wp2;go_ret;exact aO.mk (by rw[hf.o];rfl) (((Ext.refl _).alloc _).alloc _)
 | false =>
  have hf:Hid (fp u o=(u == o)):=by show _=_;unfold fp;rw[h];rfl
  go_in;go_wp2;go_ret;exact aO.mk (by rw[hf.o];rfl) (((Ext.refl _).alloc _).alloc _)
theorem pJ (u g:Int) (x0 x1 x2:Value) (mode o gr:Int) (x6 x7 x8 x9 kC kn:Value) (want:Int) (w:World) :
  Calls prog 51 #[.agg #[u,g],.agg #[x0,x1,x2,mode,o,gr,x6,x7,x8,x9,kC,kn],want] w (aO w (.bool (fh u g o gr mode want))):=by
 go_in;go_wp2_with fail;refine (Xj _ _ _ _ _ _ _).mono ?_;rintro e w1 ⟨rfl,b1⟩;go_wp2;go_ret;exact aO.mk rfl ((((Ext.refl _).alloc _).alloc _).trans b1)
theorem CR (u g:Int) (x0 x1 x2:Value) (dm tN:Int) (x5 x6 x7 x8 x9 kC kn y0 y1 y2 y3:Value) (no:Int) (y5 y6 y7 y8 y9 pY nL:Value) (w:World) :
  Calls prog 52 #[.agg #[u,g],.agg #[x0,x1,x2,dm,tN,x5,x6,x7,x8,x9,kC,kn],.agg #[y0,y1,y2,y3,no,y5,y6,y7,y8,y9,pY,nL]] w (aO w (.bool (gR u dm tN no))):=by
 have A0:Has (((w.alloc (.cells #[u,g] 27)).alloc (.cells #[x0,x1,x2,dm,tN,x5,x6,x7,x8,x9,kC,kn] 66)).alloc (.cells #[y0,y1,y2,y3,no,y5,y6,y7,y8,y9,pY,nL] 66)) w.heap.size (.cells #[u,g] 27):=((Has.new _ _).alloc _).alloc _;have B0:Has (((w.alloc (.cells #[u,g] 27)).alloc (.cells #[x0,x1,x2,dm,tN,x5,x6,x7,x8,x9,kC,kn] 66)).alloc (.cells #[y0,y1,y2,y3,no,y5,y6,y7,y8,y9,pY,nL] 66)) (w.heap.size+1) (.cells #[x0,x1,x2,dm,tN,x5,x6,x7,x8,x9,kC,kn] 66):=by
  have:=(Has.new (w.alloc (.cells #[u,g] 27)) (.cells #[x0,x1,x2,dm,tN,x5,x6,x7,x8,x9,kC,kn] 66)).alloc (.cells #[y0,y1,y2,y3,no,y5,y6,y7,y8,y9,pY,nL] 66)
  rwa [bi]at this
 have C0:Has (((w.alloc (.cells #[u,g] 27)).alloc (.cells #[x0,x1,x2,dm,tN,x5,x6,x7,x8,x9,kC,kn] 66)).alloc (.cells #[y0,y1,y2,y3,no,y5,y6,y7,y8,y9,pY,nL] 66)) (w.heap.size+2) (.cells #[y0,y1,y2,y3,no,y5,y6,y7,y8,y9,pY,nL] 66):=by
  have:=Has.new ((w.alloc (.cells #[u,g] 27)).alloc (.cells #[x0,x1,x2,dm,tN,x5,x6,x7,x8,x9,kC,kn] 66)) (.cells #[y0,y1,y2,y3,no,y5,y6,y7,y8,y9,pY,nL] 66)
  rwa [bi,bi]at this
 cases hb:cK dm 9 with
 | false =>
  have hf:Hid (gR u dm tN no=true):=by show _=_;unfold gR;rw[hb];rfl
  have h5:(bits BinOp.and IntKind.i64 dm 512 == 0)=true:=by have:=Ae dm;rw[hb]at this;simpa [bne]using this
  clear hb A0 B0 C0;go_in;go_wp2;go_ret;exact aO.mk (by rw[hf.o];rfl) ((((Ext.refl _).alloc _).alloc _).alloc _)
 | true =>
  have h5:(bits BinOp.and IntKind.i64 dm 512 == 0)=false:=by have:=Ae dm;rw[hb]at this;simpa [bne]using this
  have hf:Hid (gR u dm tN no=(fp u tN || fp u no)):=by show _=_;unfold gR;rw[hb];rfl
  clear hb;go_in;go_wp2_with fail;refine (sy _ _ _ _ _ _ _ _ _ _ _ _ _ _ _).mono ?_;rintro e w1 ⟨rfl,b1⟩
  cases ho:fp u tN with
  | true =>
   have Rb:Hid (gR u dm tN no=true):=by show _=_;rw[hf.o,ho];rfl
   clear ho;go_wp2;go_ret;exact aO.mk (by rw[Rb.o];rfl) (((((Ext.refl _).alloc _).alloc _).alloc _).trans b1)
  | false =>
   have Rb:Hid (gR u dm tN no=fp u no):=by show _=_;rw[hf.o,ho];rfl
   clear ho;have hcA:∀i,w1.cell? ⟨w.heap.size,i,none⟩=_:=fun i=>(A0.ext b1).cell i
   have hcC:∀i,w1.cell? ⟨w.heap.size+2,i,none⟩=_:=fun i=>(C0.ext b1).cell i
   go_wp2_with fail;refine (sy _ _ _ _ _ _ _ _ _ _ _ _ _ _ _).mono ?_;rintro e w2 ⟨rfl,b2⟩;go_wp2;go_ret;exact aO.mk (by rw[Rb.o];rfl) ((((((Ext.refl _).alloc _).alloc _).alloc _).trans b1).trans b2)
theorem Oo (u g:Int) (w:World):Calls prog 128 #[.agg #[u,g]] w (aO w (.bool (rN u g))):=by
 go_in;go_wp2_with fail
 all_goals
  go_ret;exact aO.mk (by simp[rN, *]<;>omega) ((Ext.refl _).alloc _)
theorem sA (u g:Int) (x0 x1 x2 x3:Value) (o:Int) (x5 x6 x7 x8 x9 kC kn:Value) (w:World) :
  Calls prog 105 #[.agg #[u,g],.agg #[x0,x1,x2,x3,o,x5,x6,x7,x8,x9,kC,kn]] w (aO w (.bool (fp u o))):=by
 cases h:(u == 0) with
 | true =>
  have hf:Hid (fp u o=true):=by show _=_;unfold fp;rw[h];rfl
  go_in;go_wp2;go_ret;exact aO.mk (by rw[hf.o];rfl) (((Ext.refl _).alloc _).alloc _)
 | false =>
  have hf:Hid (fp u o=(u == o)):=by show _=_;unfold fp;rw[h];rfl
  go_in;go_wp2;go_ret;exact aO.mk (by rw[hf.o];rfl) (((Ext.refl _).alloc _).alloc _)
theorem pK (u g:Int) (x0 x1 x2:Value) (mode o gr:Int) (x6 x7 x8 x9 kC kn:Value) (want:Int) (w:World) :
  Calls prog 59 #[.agg #[u,g],.agg #[x0,x1,x2,mode,o,gr,x6,x7,x8,x9,kC,kn],want] w (aO w (.bool (fh u g o gr mode want))):=by
 go_in;go_wp2_with fail;refine (SU _ _ _ _ _ _ _).mono ?_;rintro e w1 ⟨rfl,b1⟩;go_wp2;go_ret;exact aO.mk rfl ((((Ext.refl _).alloc _).alloc _).trans b1)
theorem CS (u g:Int) (x0 x1 x2:Value) (dm tN:Int) (x5 x6 x7 x8 x9 kC kn y0 y1 y2 y3:Value) (no:Int) (y5 y6 y7 y8 y9 pY nL:Value) (w:World) :
  Calls prog 60 #[.agg #[u,g],.agg #[x0,x1,x2,dm,tN,x5,x6,x7,x8,x9,kC,kn],.agg #[y0,y1,y2,y3,no,y5,y6,y7,y8,y9,pY,nL]] w (aO w (.bool (gR u dm tN no))):=by
 have A0:Has (((w.alloc (.cells #[u,g] 27)).alloc (.cells #[x0,x1,x2,dm,tN,x5,x6,x7,x8,x9,kC,kn] 66)).alloc (.cells #[y0,y1,y2,y3,no,y5,y6,y7,y8,y9,pY,nL] 66)) w.heap.size (.cells #[u,g] 27):=((Has.new _ _).alloc _).alloc _;have B0:Has (((w.alloc (.cells #[u,g] 27)).alloc (.cells #[x0,x1,x2,dm,tN,x5,x6,x7,x8,x9,kC,kn] 66)).alloc (.cells #[y0,y1,y2,y3,no,y5,y6,y7,y8,y9,pY,nL] 66)) (w.heap.size+1) (.cells #[x0,x1,x2,dm,tN,x5,x6,x7,x8,x9,kC,kn] 66):=by
  have:=(Has.new (w.alloc (.cells #[u,g] 27)) (.cells #[x0,x1,x2,dm,tN,x5,x6,x7,x8,x9,kC,kn] 66)).alloc (.cells #[y0,y1,y2,y3,no,y5,y6,y7,y8,y9,pY,nL] 66)
  rwa [bi]at this
 have C0:Has (((w.alloc (.cells #[u,g] 27)).alloc (.cells #[x0,x1,x2,dm,tN,x5,x6,x7,x8,x9,kC,kn] 66)).alloc (.cells #[y0,y1,y2,y3,no,y5,y6,y7,y8,y9,pY,nL] 66)) (w.heap.size+2) (.cells #[y0,y1,y2,y3,no,y5,y6,y7,y8,y9,pY,nL] 66):=by
  have:=Has.new ((w.alloc (.cells #[u,g] 27)).alloc (.cells #[x0,x1,x2,dm,tN,x5,x6,x7,x8,x9,kC,kn] 66)) (.cells #[y0,y1,y2,y3,no,y5,y6,y7,y8,y9,pY,nL] 66)
  rwa [bi,bi]at this
 go_in;go_wp2_with fail;refine (l9 _ _ _ (by omega) (by omega)).mono ?_;rintro e w0 ⟨rfl,b0⟩;have hA:=A0.ext b0;have hB:=B0.ext b0;have hC:=C0.ext b0;clear A0 B0 C0;have A0:=hA;have B0:=hB;have C0:=hC;clear hA hB hC;rw[show (9:Int).toNat=9 from rfl]
 cases hb:cK dm 9 with
 | false =>
  have hf:Hid (gR u dm tN no=true):=by show _=_;unfold gR;rw[hb];rfl
  clear hb;go_wp2;go_ret;exact aO.mk (by rw[hf.o];rfl) (((((Ext.refl _).alloc _).alloc _).alloc _).trans b0)
 | true =>
  have hf:Hid (gR u dm tN no=(fp u tN || fp u no)):=by show _=_;unfold gR;rw[hb];rfl
  clear hb;have hcA:∀i,w0.cell? ⟨w.heap.size,i,none⟩=_:=fun i=>A0.cell i
  have hcB:∀i,w0.cell? ⟨w.heap.size+1,i,none⟩=_:=fun i=>B0.cell i
  go_wp2_with fail;clear hcA hcB;refine (sA _ _ _ _ _ _ _ _ _ _ _ _ _ _ _).mono ?_;rintro e w1 ⟨rfl,b1⟩
  cases ho:fp u tN with
  | true =>
   have Rb:Hid (gR u dm tN no=true):=by show _=_;rw[hf.o,ho];rfl
   clear ho;go_wp2;go_ret;exact aO.mk (by rw[Rb.o];rfl) ((((((Ext.refl _).alloc _).alloc _).alloc _).trans b0).trans b1)
  | false =>
   have Rb:Hid (gR u dm tN no=fp u no):=by show _=_;rw[hf.o,ho];rfl
   clear ho;have hcA:∀i,w1.cell? ⟨w.heap.size,i,none⟩=_:=fun i=>(A0.ext b1).cell i
   have hcC:∀i,w1.cell? ⟨w.heap.size+2,i,none⟩=_:=fun i=>(C0.ext b1).cell i
   go_wp2_with fail;refine (sA _ _ _ _ _ _ _ _ _ _ _ _ _ _ _).mono ?_;rintro e w2 ⟨rfl,b2⟩;go_wp2;go_ret;exact aO.mk (by rw[Rb.o];rfl) (((((((Ext.refl _).alloc _).alloc _).alloc _).trans b0).trans b1).trans b2)
def fD (S:ag) (cu no:Int):Int:=if aW S.nodes no=false then 5 else if fp cu (aa S.nodes no).uid=false then 4 else 0
def mw (S:ag) (cu no:Int):ak:=if fD S cu no=0 then aa S.nodes no else aj
def aea (w:World) (B:Nat) (S:ag) (cu no:Int) (e:Ending) (w':World):Prop:=
 ∃ A c,e=.returned (.tuple #[.agg #[.int .i64 (mw S cu no).no,.int .i64 (mw S cu no).dev,.int .i64 (mw S cu no).kind,.int .i64 (mw S cu no).mode,.int .i64 (mw S cu no).uid,.int .i64 (mw S cu no).gid,.int .i64 (mw S cu no).mtime,.int .i64 (mw S cu no).ctime,.int .i64 (mw S cu no).ar,.int .i64 (mw S cu no).up,.string (bs (mw S cu no).data),.slice A (mw S cu no).ah.length c],.int .i64 (fD S cu no)])/\aD w' B (mw S cu no) A c/\Ext w w'
theorem Af (B:Nat) (g:dL) (S:ag) (cu cg no:Int) (w:World) (h:eL w B g S) (hd:0<S.ae.length):Calls prog 160 #[((),g.bW),.agg #[cu,cg],no] w (aea w B S cu no):=by
 have h0:=h;obtain⟨h1,h2,cd,h3,h4⟩:=h;have l8:((S.ae.length:Int) == 0)=false:=by simpa using (show ¬(S.ae.length:Int)=0 by omega)
 have E0:Ext w ((w.alloc (.cells #[cu,cg] 27)).alloc (.cells () 66)):=((Ext.refl _).alloc _).alloc _;go_in;go_wp2_with fail;refine (mY B g S _ (h0.ext E0) hd).mono ?_;rintro e w1 ⟨rfl,b1⟩;have E1:=E0.trans b1;have R0:=Has.new (w.alloc (.cells #[cu,cg] 27)) (.cells (aj,()) 66);rw[bi]at R0;have R1:=R0.ext b1;have C1:=((Has.new w (.cells #[cu,cg] 27)).alloc (.cells () 66)).ext b1;have v0:w1.cell? (g.bW,0)=some (.pointer (some ⟨g.bT,0,none⟩)):=(h3.ext E1).cell 0;have z1:=(h3.ext E1).lt;go_wp2_with fail;refine (fW B g.bT g.bM S.nodes S.last no _ (h2.ext E1)).mono ?_;rintro e w2 ⟨A2,k2,rfl,gG,b2⟩;have R2:=R1.ext b2;have C2:=C1.ext b2;have hm:Hid (fD S cu no=if aW S.nodes no=false then 5 else if fp cu (aa S.nodes no).uid=false then 4 else 0):=by show _=_;rfl
 have cq:Hid (mw S cu no=if fD S cu no=0 then aa S.nodes no else aj):=by show _=_;rfl
 obtain⟨m,hmm⟩:=ai (aa S.nodes no);rw[<-hmm]at gG hm cq|-;obtain⟨W3,cJ⟩:=ai (w2.alloc (.cells (m,A2,k2) 66));have iH:Ext w2 W3:=by rw[cJ];exact (Ext.refl _).alloc _
 have N3:Has W3 w2.heap.size (.cells (m,A2,k2) 66):=by rw[cJ];exact Has.new _ _
 have R3:=R2.ext iH;have C3:=C2.ext iH;have E3:Ext w W3:=(E1.trans b2).trans iH;obtain⟨b8,gH⟩:=ai w2.heap.size;obtain⟨i,hi⟩:=ai (aW S.nodes no);rw[<-hi]at hm|-;clear v0 hmm hi;go_upto_region 4 with fail;rw[<-cJ];rw[<-gH]at N3|-;clear cJ gH
 cases i
 ·have hE:Hid (fD S cu no=5):=by show _=_;rw[hm.o];rfl
  have hN:Hid (mw S cu no=aj):=by show _=_;rw[cq.o,hE.o];rfl
  clear hm cq;go_wp2_with (refine aq rfl _ _ rfl (w.heap.size+1) aj none 0 rfl rfl R3 ?_;intro w4 R4 O4);refine aT (v:=.tuple #[.agg (aj,()),.int .i64 5]) (db results160 _ _ (w.heap.size+1) aj none 0 _ rfl rfl R4) rfl ?_;exact⟨none,0,by rw[hE.o,hN.o],by rw[hN.o];exact aD.zero _ _,O4.after E3 (by simp)⟩
 ·obtain⟨u,hu⟩:=ai (fp cu m.uid)
  rw[<-hu]at hm;have HU:=zH hu;have c0:=aA C3 0 rfl;have c1:=aA C3 1 rfl;have zc:=C3.lt;clear hu;go_wp2_with (refine aB rfl _ rfl b8 m A2 k2 rfl N3 ?_);refine (sy cu cg _ _ _ _ m.uid _ _ _ _ _ _ _ _).mono ?_;rw[<-HU.o];rintro e w4 ⟨rfl,b4⟩;have R4:=R3.ext b4;have N4:=N3.ext b4
  cases u
  ·have hE:Hid (fD S cu no=4):=by show _=_;rw[hm.o];rfl
   have hN:Hid (mw S cu no=aj):=by show _=_;rw[cq.o,hE.o];rfl
   clear hm cq;go_wp2_with (refine aq rfl _ _ rfl (w.heap.size+1) aj none 0 rfl rfl R4 ?_;intro w5 R5 O5);refine aT (v:=.tuple #[.agg (aj,()),.int .i64 4]) (db results160 _ _ (w.heap.size+1) aj none 0 _ rfl rfl R5) rfl ?_;exact⟨none,0,by rw[hE.o,hN.o],by rw[hN.o];exact aD.zero _ _,O5.after (E3.trans b4) (by simp)⟩
  ·have hE:Hid (fD S cu no=0):=by show _=_;rw[hm.o];rfl
   have hN:Hid (mw S cu no=m):=by show _=_;rw[cq.o,hE.o];rfl
   clear hm cq c0 c1;go_wp2_with (first|(refine aB rfl _ rfl b8 m A2 k2 rfl N4 ?_)|(refine aq rfl _ _ rfl (w.heap.size+1) m A2 k2 rfl rfl R4 ?_;intro w5 R5 O5));refine aT (v:=.tuple #[.agg (m,A2,k2),()]) (db results160 _ _ (w.heap.size+1) m A2 k2 _ rfl rfl R5) rfl ?_;have EN:aD w5 B m A2 k2:=(((gG.ext iH).ext b4).only O5 (by
    intro b hb;rw[ax]at hb;subst hb;exact⟨by have:=h1;have:=h0.lt.1;omega,R4.fV (by decide)⟩))
   exact⟨A2,k2,by rw[hE.o,hN.o],by rw[hN.o];exact EN,O5.after (E3.trans b4) (by simp)⟩
def qq (w:World) (B:Nat) (g:dL) (T:ag) (x:Int) (e:Ending) (w':World):Prop:=
 e = .returned (.int .i64 x)/\eL w' B g T/\Only g.list w w'
theorem fR {g:dL} {T:ag} {x:Int} (h:eL w B g S) (hE:Ext w w') (hT:T=S):qq w B g T x (.returned (.int .i64 x)) w':=
 ⟨rfl,by rw[hT];exact h.ext hE,Only.az hE⟩
def g_ (S:ag) (cu no mode:Int):Int:=if fD S cu no≠0 then fD S cu no else if mode<0\/1023<mode\/(aa S.nodes no).kind=3 then 1 else 0
def gx (S:ag) (cu now no mode:Int):ag:=if g_ S cu no mode=0 then aV S {aa S.nodes no with mode:=mode,ctime:=now} else S
theorem jy {cu no:Int} (h:fD S cu no=0):aW S.nodes no=true/\fp cu (aa S.nodes no).uid=true/\mw S cu no=aa S.nodes no:=by
 refine⟨?_,?_,by unfold mw;rw[af h]⟩
 ·cases hi:aW S.nodes no
  ·unfold fD at h;rw[af hi]at h;cases h
  ·rfl
 ·unfold fD at h
  split at h
  ·cases h
  ·split at h
   ·cases h
   ·rename_i h2;simpa using h2
theorem pL (B:Nat) (g:dL) (S:ag) (n:ak) (A:Option Addr) (c:Nat) (w:World) (h:eL w B g S) (hu:aQ S.nodes S.last) (hn:aD w B n A c) :
  Calls prog 162 #[((),g.bT),.agg (n,A,c)] w (fun e w'=>e=.returned (.bool (aW S.nodes n.no))/\eL w' B g (aV S n)/\Only g.list w w'):=by
 refine (Gh B g.bT g.bM S.nodes S.last n A c w h.2.1 hu hn).mono ?_;rintro e w' ⟨rfl,h2,h3⟩;exact⟨rfl,eL.table h h3 h2,h3.mono (by simp)⟩
theorem Ot (B:Nat) (g:dL) (S:ag) (cu cg now no mode:Int) (w:World) (h:eL w B g S) (hd:0<S.ae.length) (hu:aQ S.nodes S.last) :
  Calls prog 118 #[((),g.bW),.agg #[cu,cg],now,no,mode] w (qq w B g (gx S cu now no mode) (g_ S cu no mode)):=by
 have E0:Ext w (w.alloc (.cells #[cu,cg] 27)):=(Ext.refl _).alloc _;have hm:Hid (g_ S cu no mode=if fD S cu no≠0 then fD S cu no else if mode<0\/1023<mode\/(aa S.nodes no).kind=3 then 1 else 0):=by show _=_;rfl
 have tj:Hid (fD S cu no=0->aW S.nodes no=true/\fp cu (aa S.nodes no).uid=true/\mw S cu no=aa S.nodes no):=jy;go_in;go_wp2_with fail;refine (Af B g S cu cg no _ (h.ext E0) hd).mono ?_;rintro e w2 ⟨A,c,rfl,gG,b2⟩;have E2:=E0.trans b2;obtain⟨m,hmm⟩:=ai (mw S cu no);obtain⟨x,hx⟩:=ai (fD S cu no);rw[<-hmm]at gG tj;rw[<-hx]at hm tj;rw[<-hmm,<-hx];clear hmm hx
 by_cases aX:x=0
 ·have t0 : (x == 0)=true:=by simpa using aX
  have nK:(x != 0)=false:=by simpa using aX
  obtain⟨hi,ho,oX⟩:=tj.o aX;have cq:Hid (g_ S cu no mode=if mode<0\/1023<mode\/m.kind=3 then 1 else 0):=by show _=_;rw[hm.o,ac (by simpa using aX),<-oX]
  have GN:m.no=no:=by rw[oX];exact (ap hi).2.1
  have Ag:=zH oX;have uh:=zH GN;clear hm tj oX GN hi ho aX
  by_cases c1:mode<0
  ·have t1:decide (mode<0)=true:=cj c1
   have hE:Hid (g_ S cu no mode=1):=by show _=_;rw[cq.o,af (.inl c1)]
   clear cq c1;go_wp2;go_ret;rw[hE.o];exact fR h (E2.alloc _) (by unfold gx;rw[hE.o];rfl)
  ·have t1:decide (mode<0)=false:=cG c1
   by_cases c2:1023<mode
   ·have t2:decide (1023<mode)=true:=cj c2
    have hE:Hid (g_ S cu no mode=1):=by show _=_;rw[cq.o,af (.inr (.inl c2))]
    clear cq c1 c2;go_wp2;go_ret;rw[hE.o];exact fR h (E2.alloc _) (by unfold gx;rw[hE.o];rfl)
   ·have t2:decide (1023<mode)=false:=cG c2
    by_cases c3:m.kind=3
    ·have t3:(m.kind == 3)=true:=by simpa using c3
     have hE:Hid (g_ S cu no mode=1):=by show _=_;rw[cq.o,af (.inr (.inr c3))]
     clear cq c1 c2 c3;go_wp2;go_ret;rw[hE.o];exact fR h (E2.alloc _) (by unfold gx;rw[hE.o];rfl)
    ·have t3:(m.kind == 3)=false:=by simpa using c3
     have hE:Hid (g_ S cu no mode=0):=by show _=_;rw[cq.o,ac (by rintro (g'|g'|g')<;>contradiction)]
     clear cq c1 c2 c3;go_upto_region 7 with fail;obtain⟨n,hn⟩:∃n:ak,n={m with mode:=mode,ctime:=now}:=⟨_,rfl⟩;obtain⟨V,hV⟩:=ai (w2.alloc (.cells (n,A,c) 66));have oM:=hV;rw[hn]at oM;rw[<-oM];have NV:Has V w2.heap.size (.cells (n,A,c) 66):=by rw[hV];exact Has.new _ _
     have EV:Ext w V:=by rw[hV];exact E2.alloc _
     have Ah:aD V B n A c:=((gG.ext (by rw[hV];exact (Ext.refl _).alloc _)).same (by rw[hn]));have HN:=zH hn;clear hV oM hn;have KV:=h.ext EV;obtain⟨_,_,cd,hW,_⟩:=id KV;have v0:=aA hW 0 rfl;have vz:=hW.lt;obtain⟨x0,x1,x2,x3,x4,x5,x6,x7,x8,x9,kC,kn⟩:=NV.da;have zN:=NV.lt;go_still_tail 5,(by kernel_rfl);change wpList _ _ _ _ _ V.drew;go_wp2_with fail;have ED:Ext V V.drew:=(Ext.refl _).drew;refine (pL B g S n A c _ (KV.ext ED) hu (Ah.ext ED)).mono ?_;rintro e w5 ⟨rfl,K5,O5⟩;go_wp2;go_ret;rw[hE.o];refine⟨rfl,?_,Only.pre (EV.trans ED) O5⟩;have:gx S cu now no mode=aV S n:=by unfold gx;rw[af hE.o,HN.o,Ag.o]
     rw[this];exact K5
 ·have t0:(x == 0)=false:=by simpa using aX
  have nK:(x != 0)=true:=by simpa using aX
  have hE:Hid (g_ S cu no mode=x):=by show _=_;rw[hm.o,af aX]
  have hT:Hid (gx S cu now no mode=S):=by show _=_;unfold gx;rw[ac (by rw[hE.o];exact aX)]
  clear hm tj aX;go_wp2;go_ret;rw[hE.o];exact fR h (E2.alloc _) hT.o
def GP (S:ag):Prop:=∀n∈S.nodes,ic S.ae n.dev=true/\n.data.length<=1048576
def Zr (n:ak) (dl:Int):Int:=cx n.kind dl-cx n.kind n.data.length
def GQ (S:ag) (no dl:Int):Int:=
 if aW S.nodes no=false then 5 else eZ (jq S.ae (aa S.nodes no).dev).q (Zr (aa S.nodes no) dl) 0
def lD (S:ag) (no:Int) (data:List UInt8):ag:=
 if GQ S no data.length=0 then⟨cP S.nodes {aa S.nodes no with data:=data},jb S.ae (aa S.nodes no).dev (bf (jq S.ae (aa S.nodes no).dev).q (Zr (aa S.nodes no) data.length) 0),S.last⟩ else S
theorem SV {α:Type} (l:List α) (x:α) (k:Nat) (h:k<l.length) (h':k<(l++[x]).length):(l++[x])[k]'h'=l[k]:=Mn h
theorem Ou {α:Type} (l:List α) (x:α) (k:Nat) (h:k=l.length) (h':k<(l++[x]).length):(l++[x])[k]'h'=x:=by subst h;simp
theorem aat (l:List fP) (i:Nat) (f:fP->fP) (k:Nat) (h:k<(l.modify i f).length) (h2:k<l.length):(l.modify i f)[k]'h=if i=k then f l[k] else l[k]:=List.getElem_modify ..
theorem ep (hu:aQ S.nodes S.last) {n:ak} (h:n∈S.nodes):aa S.nodes n.no=n/\aW S.nodes n.no=true:=by
 obtain⟨k,hk,rfl⟩:=mj h;have e:=Ew hu hk;exact⟨by unfold aa;rw[e];rfl,by unfold aW;rw[e];rfl⟩
def aeb (S:ag) (no:Int):Prop:=∃m∈S.nodes,m.no=no/\m.kind=1
structure Grown (S:ag):Prop where
 fJ:Good S
 names:uR S
 on:GP S
 first:∃m∈S.nodes,m.no=1
 one:∀n∈S.nodes,n.no=1->n.kind=1/\n.dev=1/\n.up=1
 ups:∀n∈S.nodes,n.kind=1->n.up<=n.no/\∃m∈S.nodes,m.no=n.up
 pM:∀h:0<S.ae.length,S.ae[0].root=1
 qK:∀k,(h:k+1<S.ae.length)->S.ae[k+1].over<S.ae[k+1].root/\aeb S S.ae[k+1].over
theorem bP {no:Int} (h:(aa S.nodes no).kind=1):aW S.nodes no=true/\(aa S.nodes no).no=no/\aa S.nodes no∈S.nodes:=by
 cases hi:aW S.nodes no
 ·rw[(aP hi).1]at h;cases h
 ·exact⟨rfl,(ap hi).2⟩
theorem Grown.aec (h:Grown S):aI S.ae 1=1:=by
 unfold aI ic jq;have:=h.fJ.ae;rw[af (by simp;omega)];simp only[show ((1:Int)-1).toNat=0 by decide];rw[rl,iq this];exact h.pM this
theorem EO {ds:List fP} {d:Int} {q:dW} (hk:k<(jb ds d q).length) (hk2:k<ds.length):(jb ds d q)[k].root=ds[k].root/\(jb ds d q)[k].over=ds[k].over:=by
 have e:=aat ds (d-1).toNat (fun x=>{x with q:=q}) k hk hk2;exact⟨(nu fP.root e).trans (by split<;>rfl),(nu fP.over e).trans (by split<;>rfl)⟩
theorem yN {ns:List ak} {n m:ak} (h:m∈ns):(if m.no=n.no then n else m)∈cP ns n:=by
 unfold cP;rw[fH];refine⟨m,h,?_⟩
 by_cases e:m.no=n.no
 ·rw[af e,af (by simpa using e)]
 ·rw[ac e,ac (by simpa using e)]
theorem j6 {x y:aK} (h:y∈fC l x):y∈l\/y=x:=by
 unfold fC kZ lB at h;simp only[dn,ax,gz]at h;rcases h with (h|h)|h
 ·exact .inl h.1
 ·exact .inr h
 ·exact .inl h.1
theorem uS {l:List UInt8} (h:cU l=0):l≠[]/\l.length<=255:=by
 unfold cU at h;split at h
 ·cases h
 ·split at h
  ·cases h
  ·rename_i h1 h2
   exact⟨fun e=>h1 (.inl e),by omega⟩
theorem GR {b n:Int} (hl:dg b n=true):Grown (cZ dF 0 b n):=by
 refine⟨JZ hl,?_,?_,⟨ct dF,jO _ (ax.2 rfl),rfl⟩,?_,?_,fun _=>rfl,?_⟩
 ·intro m hm x hx
  simp[cZ,dF]at hm;subst hm;cases hx
 ·intro m hm
  simp[cZ,dF]at hm;subst hm;exact⟨rfl,by decide⟩
 ·intro m hm _
  simp[cZ,dF]at hm;subst hm;exact⟨rfl,rfl,rfl⟩
 ·intro m hm _
  simp[cZ,dF]at hm;subst hm;exact⟨gE _,_,jO _ (ax.2 rfl),rfl⟩
 ·intro k hk
  have:k+1<1:=hk;omega
end Go.Proofs.YtpibnfdolojpcaaGreat
