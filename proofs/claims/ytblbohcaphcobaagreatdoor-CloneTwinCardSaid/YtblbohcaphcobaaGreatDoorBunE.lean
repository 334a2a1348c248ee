import Derived.Test.YtblbohcaphcobaaGreatDoorBunD
import Derived.Test.YtblbohcaphcobaaGreatDoorBunA
import Derived.Test.YtblbohcaphcobaaGreatDoorBunB
import Derived.Test.YtblbohcaphcobaaGreatDoorShelf
import Derived.Test.YtblbohcaphcobaaGreatDoorBunC
import Derived.Lib.Builder
import Derived.Lib.AppendStr
set_option maxHeartbeats 4000000
set_option maxRecDepth 100000
namespace Go.Proofs.YtblbohcaphcobaaGreatDoor
section
open Go.ChangeShapes Go.WideShapes Go.ChangeAt Go.RowKit
def aJ (S:ac) (no:Int):Int:=
 if (aa S.nodes no).kind=1 then
  if aE S.af (aa S.nodes no).dev=no/\1<(aa S.nodes no).dev then (aa S.nodes (i_ S.af (aa S.nodes no).dev).over).up else (aa S.nodes no).up
 else 0
theorem CW (B : Nat) (g:bQ) (S:ac) (no:Int) (w:World) (h:eD w B g S) (hd:0<S.af.length) (tI:S.af.length<=8) (hr:h_ S.af) (hu:aI S.nodes S.last) :
    Calls Tryz.prog 164 #[.pointer (some ⟨g.bW,0,none⟩),.int .i64 no] w (aH w (.int .i64 (aJ S no))):=by
  have hm:Hid (aJ S no=if (aa S.nodes no).kind=1 then if aE S.af (aa S.nodes no).dev=no/\1<(aa S.nodes no).dev then (aa S.nodes (i_ S.af (aa S.nodes no).dev).over).up else (aa S.nodes no).up else 0):=by show _=_;rfl
  go_enter Tryz.func164,Tryz.ntmps164
  go_wp2_with fail
  refine (iz B g S _ h hd).mono ?_
  rintro e w1 ⟨rfl,b1⟩
  obtain ⟨_,_,cd,hW,_⟩:=id (h.ext b1)
  have v0:w1.cell? ⟨g.bW,0,none⟩=some (.pointer (some ⟨g.bT,0,none⟩)):=hW.cell 0
  have z1:=hW.lt
  clear hW
  go_wp2_with fail
  refine (fP B g.bT g.bM S.nodes S.last no _ (h.ext b1).2.1).mono ?_
  rintro e w2 ⟨A,c,rfl,iC,b2⟩
  have hik:aQ S.nodes no=false->(aa S.nodes no).kind=0:=fun hi=>by rw[(aV hi).1];rfl
  have Pm:aQ S.nodes no=true->1<=no:=fun hi=>by
    obtain ⟨k,hk,e⟩:=l_.1 hi
    have:=(hu.2 _ (List.getElem_mem hk)).1
    omega
  obtain⟨n,hn⟩:=ar (aa S.nodes no)
  obtain⟨i,hi⟩:=ar (aQ S.nodes no)
  rw [<-hn]at iC hm hik
  rw [<-hi]at hik Pm
  rw [<-hn,<-hi]
  obtain⟨W3,du⟩:=ar (w2.alloc (.cells #[n.no,n.dev,n.kind,n.mode,n.uid,n.gid,n.mtime,n.ctime,n.ah,n.up,bs n.data,.slice A n.ae.length c] 58))
  have kD:Ext w2 W3:=by rw[du];exact (Ext.refl _).alloc _
  obtain ⟨b5,jP⟩:∃b,b=w2.heap.size:=⟨_,rfl⟩
  have N3:Has W3 b5 (.cells #[n.no,n.dev,n.kind,n.mode,n.uid,n.gid,n.mtime,n.ctime,n.ah,n.up,bs n.data,.slice A n.ae.length c] 58):=by rw[du,jP];exact Has.new _ _
  have E3:Ext w W3:=(b1.trans b2).trans kD
  have vQ:w.heap.size<=b5:=by rw[jP];exact (b1.trans b2).size
  have HIK:=zH hik
  have HI1:=zH Pm
  have vS:=zH hn
  clear v0 hn hi hik Pm
  go_upto_region 4 with fail
  rw [<-du]
  rw [<-jP]
  clear du jP
  have k2:W3.cell? ⟨b5,2,none⟩=some (.int .i64 n.kind):=N3.cell 2
  have k1:W3.cell? ⟨b5,1,none⟩=some (.int .i64 n.dev):=N3.cell 1
  have kz:=N3.lt
  cases i
  · have hE:Hid (aJ S no=0):=by show _=_;rw[hm.out,if_neg (by rw[HIK.out rfl];decide)]
    clear hm
    go_wp2_with fail
    go_ret
    exact aH.mk (aB hE.out.symm) E3
  · by_cases c1 : n.kind = 1
    · have t1 : (n.kind == 1)=true:=by simpa using c1
      have we:(n.kind != 1)=false:=by simpa using c1
      have bc:=HI1.out rfl
      have cL:Hid (aJ S no=if aE S.af n.dev=no/\1<n.dev then (aa S.nodes (i_ S.af n.dev).over).up else n.up):=by show _=_;rw[hm.out,if_pos c1]
      clear hm c1
      go_wp2_with fail
      refine (iA B g S n.dev _ (h.ext E3) hd (by omega)).mono ?_
      rintro e w4 ⟨rfl,b4⟩
      have N4:=N3.ext b4
      have E4:=E3.trans b4
      clear k1 k2 kz
      have k1:w4.cell? ⟨b5,1,none⟩=some (.int .i64 n.dev):=N4.cell 1
      have kz:=N4.lt
      by_cases c2:aE S.af n.dev=no
      · have t2 : (aE S.af n.dev == no)=true:=by simpa using c2
        by_cases c3:1<n.dev
        · have t3 : decide (1<n.dev)=true:=decide_eq_true c3
          have C23:=zH (And.intro c2 c3)
          clear c2 c3
          go_upto_region 7 with fail
          obtain ⟨c2,c3⟩:=C23.out
          rcases en hr n.dev with⟨r1,_⟩|⟨k,hk,e1,_,e3,_,_,_⟩
          · exfalso;omega
          have mM:Hid (aJ S no=(aa S.nodes S.af[k].over).up):=by show _=_;rw[cL.out,if_pos ⟨c2,c3⟩,e3]
          clear cL
          obtain⟨ov,Jo⟩:=ar (S.af[k].over)
          obtain ⟨A7,c7,tK,C7⟩:=tW B g S ov w4 (h.ext E4)
          obtain ⟨_,_,cd4,fN,Wv⟩:=id (h.ext E4)
          obtain ⟨_,d1,_,_,_,_⟩:=iT.at_ Wv k hk
          rw [<-Jo]at d1 mM
          obtain⟨m,Ww⟩:=ar (aa S.nodes ov)
          obtain⟨i7,hi7⟩:=ar (aQ S.nodes ov)
          rw [<-Ww]at tK C7 mM
          rw [<-hi7]at C7
          have HC7:=zH C7
          have Gi:=(h.ext E4).lt
          have u0:∀u:Gr w4,u.w.cell? ⟨g.bW,0,none⟩=some (.pointer (some ⟨g.bT,0,none⟩)):=Gr.cell fN.lt (fN.cell 0)
          have u1:∀u:Gr w4,u.w.cell? ⟨g.bW,1,none⟩=some (.slice (some ⟨g.bD,0,none⟩) S.af.length cd4):=Gr.cell fN.lt (fN.cell 1)
          have u5:∀u:Gr w4,u.w.cell? ⟨b5,1,none⟩=some (.int .i64 n.dev):=Gr.cell N4.lt (N4.cell 1)
          have ud:∀u:Gr w4,u.w.cell? ⟨g.bD,k*6+1,none⟩=some (.int .i64 ov):=Gr.cell Gi.2.2.2 d1
          have y0:(0:Int)<=n.dev-1:=by rw[e1];omega
          have y1:n.dev-1<(S.af.length:Int):=by rw[e1];omega
          have y2:(n.dev-1).toNat=k:=by rw[e1];omega
          have y3:IntKind.i64.wrap (n.dev-1)=n.dev-1:=bV (by omega) (by omega)
          have y4:1<=n.dev:=by omega
          have y5:n.dev.toNat-1=k:=by omega
          clear d1 fN Wv e1 e3 Jo Ww hi7 C7 k1 c2 c3 t2 t3
          go_cut [] (fun wc=>∃w0,Ext w4 w0/\Only [b5] w0 wc/\Has wc b5 (.cells #[m.no,m.dev,m.kind,m.mode,m.uid,m.gid,m.mtime,m.ctime,m.ah,m.up,bs m.data,.slice A7 m.ae.length c7] 58))
          case first =>
            refine mT w4 18 5 52 b5 m n A7 A c7 c N4 _ (by kernel_rfl) (by kernel_rfl) rfl rfl ((Ext.refl _).drew) ?_
            simp only[List.take_succ_cons,List.take_zero,List.drop_succ_cons,List.drop_nil]
            repeat (refine dv (fun K hK=>?_)
                    go_simp
                    first
                      | (refine hK _ ?_;clear hK K)
                      | (apply Exists.intro
                         refine ⟨fun u=>?_,hK _ ?_⟩
                         ((with_reducible refine (HC7.out _ (Gr.h _)).mono ?_);rintro e w'' ⟨rfl,hx⟩;exact⟨rfl,hx⟩)
                         clear hK K))
            refine bP ⟨rfl,rfl,?_⟩
            refine bP ?_
            intro w' hw'
            go_wp2_with fail
            go_meet
            exact hw'
          case rest =>
          obtain ⟨w0,E40,O,N5⟩:=hcut
          have k9:wc.cell? ⟨b5,9,none⟩=some (.int .i64 m.up):=N5.cell 9
          have kz5:=N5.lt
          clear kz y0 y1 y2 y3 y4 y5 u0 u1 u5 ud
          go_wp2_with fail
          go_ret
          exact aH.mk (aB mM.out.symm) (O.after (E4.trans E40) (by intro x hx;rw[List.mem_singleton]at hx;omega))
        · have t3:decide (1<n.dev)=false:=decide_eq_false c3
          have hE:Hid (aJ S no=n.up):=by show _=_;rw[cL.out,if_neg (fun h=>c3 h.2)]
          have k9:w4.cell? ⟨b5,9,none⟩=some (.int .i64 n.up):=N4.cell 9
          clear cL c2 c3
          go_wp2_with fail
          go_ret
          exact aH.mk (aB hE.out.symm) E4
      · have t2:(aE S.af n.dev == no)=false:=by simpa using c2
        have hE:Hid (aJ S no=n.up):=by show _=_;rw[cL.out,if_neg (fun h=>c2 h.1)]
        have k9:w4.cell? ⟨b5,9,none⟩=some (.int .i64 n.up):=N4.cell 9
        clear cL c2
        go_wp2_with fail
        go_ret
        exact aH.mk (aB hE.out.symm) E4
    · have t1:(n.kind == 1)=false:=by simpa using c1
      have we:(n.kind != 1)=true:=by simpa using c1
      have hE:Hid (aJ S no=0):=by show _=_;rw[hm.out,if_neg c1]
      clear hm c1
      go_wp2_with fail
      go_ret
      exact aH.mk (aB hE.out.symm) E3
theorem tY (B : Nat) (g:cJ) (S:ac) (X:cM) (no:Int) (w:World) (h:gV w B g S X) (hl:S.nodes.length<=1000000) (tI:S.af.length<=8) (hr:h_ S.af) (hu:aI S.nodes S.last) :
    Calls Tryz.prog 37 #[.pointer (some ⟨g.bF,0,none⟩),.int .i64 no] w (aH w (.int .i64 (aJ S no))):=by
  have hm:Hid (aJ S no=if (aa S.nodes no).kind=1 then if aE S.af (aa S.nodes no).dev=no/\1<(aa S.nodes no).dev then (aa S.nodes (i_ S.af (aa S.nodes no).dev).over).up else (aa S.nodes no).up else 0):=by show _=_;rfl
  go_enter Tryz.func37,Tryz.ntmps37
  go_wp2_with fail
  refine (eZ B g S X no _ h hl hu).mono ?_
  rintro e w2 ⟨A,c,rfl,iC,b2⟩
  have Pm:(aa S.nodes no).kind=1->1<=no:=fun hk=>by
    obtain ⟨k,hk,e⟩:=l_.1 (JY hk)
    have:=(hu.2 _ (List.getElem_mem hk)).1
    omega
  obtain⟨n,hn⟩:=ar (aa S.nodes no)
  rw [<-hn]at iC hm Pm
  rw [<-hn]
  obtain⟨W3,du⟩:=ar (w2.alloc (.cells #[n.no,n.dev,n.kind,n.mode,n.uid,n.gid,n.mtime,n.ctime,n.ah,n.up,bs n.data,.slice A n.ae.length c] 58))
  have kD:Ext w2 W3:=by rw[du];exact (Ext.refl _).alloc _
  obtain ⟨b5,jP⟩:∃b,b=w2.heap.size:=⟨_,rfl⟩
  have N3:Has W3 b5 (.cells #[n.no,n.dev,n.kind,n.mode,n.uid,n.gid,n.mtime,n.ctime,n.ah,n.up,bs n.data,.slice A n.ae.length c] 58):=by rw[du,jP];exact Has.new _ _
  have E3:Ext w W3:=b2.trans kD
  have vQ:w.heap.size<=b5:=by rw[jP];exact b2.size
  have HI1:=zH Pm
  have vS:=zH hn
  clear hn Pm
  go_upto_region 2 with fail
  rw [<-du]
  rw [<-jP]
  clear du jP
  have k2:W3.cell? ⟨b5,2,none⟩=some (.int .i64 n.kind):=N3.cell 2
  have k1:W3.cell? ⟨b5,1,none⟩=some (.int .i64 n.dev):=N3.cell 1
  have kz:=N3.lt
  by_cases c1:n.kind=1
  · have t1 : (n.kind == 1)=true:=by simpa using c1
    have we:(n.kind != 1)=false:=by simpa using c1
    have bc:=HI1.out c1
    have cL:Hid (aJ S no=if aE S.af n.dev=no/\1<n.dev then (aa S.nodes (i_ S.af n.dev).over).up else n.up):=by show _=_;rw[hm.out,if_pos c1]
    clear hm c1
    by_cases c3:1<n.dev
    · have t3 : decide (1<n.dev)=true:=decide_eq_true c3
      have C3:=zH c3
      go_wp2_with fail
      refine (jt B g S X n.dev _ (h.ext E3) (by omega)).mono ?_
      rintro e w4 ⟨rfl,b4⟩
      have N4:=N3.ext b4
      have E4:=E3.trans b4
      clear k1 k2 kz
      have k1:w4.cell? ⟨b5,1,none⟩=some (.int .i64 n.dev):=N4.cell 1
      have kz:=N4.lt
      by_cases c2:aE S.af n.dev=no
      · have t2 : (aE S.af n.dev == no)=true:=by simpa using c2
        have C2:=zH c2
        clear c2 c3
        go_upto_region 5 with fail
        have c2:=C2.out
        have c3:=C3.out
        rcases en hr n.dev with⟨r1,_⟩|⟨k,hk,e1,_,e3,_,_,_⟩
        · exfalso;omega
        have mM:Hid (aJ S no=(aa S.nodes S.af[k].over).up):=by show _=_;rw[cL.out,if_pos ⟨c2,c3⟩,e3]
        obtain⟨ov,Jo⟩:=ar (S.af[k].over)
        obtain ⟨A7,c7,tK,C7⟩:=Av B g S X ov w4 (h.ext E4) hl hu
        obtain ⟨_,cn4,cd4,fN,_,Wv⟩:=id (h.ext E4)
        obtain ⟨_,d1,_,_,_,_⟩:=iT.at_ Wv k hk
        rw [<-Jo]at d1 mM
        obtain⟨m,Ww⟩:=ar (aa S.nodes ov)
        rw [<-Ww]at tK C7 mM
        have HC7:=zH C7
        have Gi:=(h.ext E4).lt
        have u1:∀u:Gr w4,u.w.cell? ⟨g.bF,1,none⟩=some (.slice (some ⟨g.bE,0,none⟩) S.af.length cd4):=Gr.cell fN.lt (fN.cell 1)
        have u5:∀u:Gr w4,u.w.cell? ⟨b5,1,none⟩=some (.int .i64 n.dev):=Gr.cell N4.lt (N4.cell 1)
        have ud:∀u:Gr w4,u.w.cell? ⟨g.bE,k*6+1,none⟩=some (.int .i64 ov):=Gr.cell Gi.2.2 d1
        have y0:(0:Int)<=n.dev-1:=by rw[e1];omega
        have y1:n.dev-1<(S.af.length:Int):=by rw[e1];omega
        have y2:(n.dev-1).toNat=k:=by rw[e1];omega
        have y3:IntKind.i64.wrap (n.dev-1)=n.dev-1:=bV (by omega) (by omega)
        have y4:1<=n.dev:=by omega
        have y5:n.dev.toNat-1=k:=by omega
        clear d1 fN Wv e1 e3 Jo Ww C7 k1 c2 c3 t2 t3 cL
        go_cut [] (fun wc=>∃w0,Ext w4 w0/\Only [b5] w0 wc/\Has wc b5 (.cells #[m.no,m.dev,m.kind,m.mode,m.uid,m.gid,m.mtime,m.ctime,m.ah,m.up,bs m.data,.slice A7 m.ae.length c7] 58))
        case first =>
          refine mT w4 12 5 34 b5 m n A7 A c7 c N4 _ (by kernel_rfl) (by kernel_rfl) rfl rfl ((Ext.refl _).drew) ?_
          simp only[List.take_succ_cons,List.take_zero,List.drop_succ_cons,List.drop_nil]
          repeat (refine dv (fun K hK=>?_)
                  go_simp
                  first
                    | (refine hK _ ?_;clear hK K)
                    | (apply Exists.intro
                       refine ⟨fun u=>?_,hK _ ?_⟩
                       ((with_reducible refine (HC7.out _ (Gr.h _)).mono ?_);rintro e w'' ⟨rfl,hx⟩;exact⟨rfl,hx⟩)
                       clear hK K))
          refine bP ⟨rfl,rfl,?_⟩
          refine bP ?_
          intro w' hw'
          go_wp2_with fail
          go_meet
          exact hw'
        case rest =>
        obtain ⟨w0,E40,O,N5⟩:=hcut
        have k9:wc.cell? ⟨b5,9,none⟩=some (.int .i64 m.up):=N5.cell 9
        have kz5:=N5.lt
        clear kz y0 y1 y2 y3 y4 y5 u1 u5 ud
        go_wp2_with fail
        go_ret
        exact aH.mk (aB mM.out.symm) (O.after (E4.trans E40) (by intro x hx;rw[List.mem_singleton]at hx;omega))
      · have t2:(aE S.af n.dev == no)=false:=by simpa using c2
        have hE:Hid (aJ S no=n.up):=by show _=_;rw[cL.out,if_neg (fun h=>c2 h.1)]
        have k9:w4.cell? ⟨b5,9,none⟩=some (.int .i64 n.up):=N4.cell 9
        clear cL c2 c3
        go_wp2_with fail
        go_ret
        exact aH.mk (aB hE.out.symm) E4
    · have t3:decide (1<n.dev)=false:=decide_eq_false c3
      have hE:Hid (aJ S no=n.up):=by show _=_;rw[cL.out,if_neg (fun h=>c3 h.2)]
      have k9:W3.cell? ⟨b5,9,none⟩=some (.int .i64 n.up):=N3.cell 9
      clear cL c3
      go_wp2_with fail
      go_ret
      exact aH.mk (aB hE.out.symm) E3
  · have t1:(n.kind == 1)=false:=by simpa using c1
    have we:(n.kind != 1)=true:=by simpa using c1
    have hE:Hid (aJ S no=0):=by show _=_;rw[hm.out,if_neg c1]
    clear hm c1
    go_wp2_with fail
    go_ret
    exact aH.mk (aB hE.out.symm) E3
def Cv (S:ac) (base:Int):Nat->Int->Bool
 | 0,_=>false
 | f+1,no=>if no=0 then false else if no=base then true else Cv S base f (aJ S no)
structure pO (S:ac) (r:Int->Nat):Prop where
 step:∀no,no≠0->aJ S no≠0->aJ S no≠no->r (aJ S no)<r no
 top:∀no,r no<=S.nodes.length
def eL (S:ac) (no base:Int):Bool:=Cv S base (S.nodes.length+1) no
theorem nL (S:ac) (base:Int) (f:Nat):Cv S base f 0=false:=by cases f<;>simp[Cv]
theorem pP {S:ac} {base no:Int} (h:aJ S no=no) (hb:no≠base):∀f,Cv S base f no=false
 | 0=>rfl
 | f+1=>by
  unfold Cv;split
  ·rfl
  ·rw[h];exact pP h hb f
theorem Gj {S:ac} {r:Int->Nat} (R:pO S r) (base:Int):∀(n:Nat) (no:Int),r no<=n->∀f g,r no<f->r no<g->Cv S base f no=Cv S base g no:=by
 intro n
 induction n with
 | zero =>
  intro no hn f g hf hg
  match f,g,hf,hg with
  | f + 1, g+1,_,_ =>
   unfold Cv;split
   ·rfl
   ·split
    ·rfl
    ·rename_i h0 hb
     by_cases hu:aJ S no=0
     ·rw[hu,nL,nL]
     ·by_cases hs:aJ S no=no
      ·rw[hs,pP hs hb,pP hs hb]
      ·have:=R.step no h0 hu hs;omega
 | succ n ih =>
  intro no hn f g hf hg
  match f,g,hf,hg with
  | f + 1, g + 1,hf,hg =>
   unfold Cv;split
   ·rfl
   ·split
    ·rfl
    ·rename_i h0 hb
     by_cases hu:aJ S no=0
     ·rw[hu,nL,nL]
     ·by_cases hs:aJ S no=no
      ·rw[hs,pP hs hb,pP hs hb]
      ·have:=R.step no h0 hu hs
       exact ih _ (by omega) f g (by omega) (by omega)
theorem Ay (S:ac) (base:Int):eL S 0 base=false:=nL S base _
theorem rX {S:ac} {no base:Int} (h0:no≠0) (h:no=base):eL S no base=true:=by
 unfold eL Cv;rw[if_neg h0,if_pos h]
theorem Az {S:ac} {r:Int->Nat} (R:pO S r) {no base:Int} (h0:no≠0) (hb:no≠base) (hs:aJ S no≠no):eL S no base=eL S (aJ S no) base:=by
 have e:eL S no base=Cv S base S.nodes.length (aJ S no):=by
  conv=>lhs;unfold eL Cv
  rw [if_neg h0,if_neg hb]
 rw [e]
 by_cases hu:aJ S no=0
 ·rw[hu,Ay,nL]
 ·have h1:=R.step no h0 hu hs
  have h2:=R.top no;exact Gj R base _ _ (Nat.le_refl _) _ _ (by omega) (by omega)
theorem AA (B:Nat) (g:cJ) (S:ac) (X:cM) (no base:Int) (w:World) (h:gV w B g S X) (hl:S.nodes.length<=100000) (tI:S.af.length<=8) (hr:h_ S.af) (hu:aI S.nodes S.last) :
  Calls Tryz.prog 15 #[.pointer (some ⟨g.bF,0,none⟩),.int .i64 no,.int .i64 base] w (aH w (.bool (eL S no base))):=by
 obtain⟨Vs,hres⟩:=ar (eL S no base);rw [<-hres];have aaq:=zH hres;clear hres;obtain⟨L,hL⟩:=ar S.nodes.length;have Po:L<=100000:=by omega
 have HL:=zH hL;clear hL;go_enter Tryz.func15,Tryz.ntmps15;go_wp2_with fail;go_loopw [1,7] (fun v1 v7 wr=>∃(n:Int) (k:Nat),v1=.int .i64 n/\v7=.int .i64 k/\k<=L+1/\Hid (Cv S base (L+1-k) n=Vs)/\Ext w wr) (fun _ v7 _=>L+1-(intOf v7).toNat)
 case atStart=>exact⟨no,0,rfl,rfl,by omega,by show _=_;rw[aaq.out,HL.out];rfl,Ext.refl _⟩
 case round =>
  obtain ⟨n,k,rfl,rfl,hk,hw,hE⟩:=hrel;obtain ⟨_,cn,cd,hF,_,_⟩:=id (h.ext hE);have c0:wr.cell? ⟨g.bF,0,none⟩=some (.slice (some ⟨g.bN,0,none⟩) L cn):=by rw[HL.out];exact hF.cell 0
  have zF:=hF.lt;clear hF
  by_cases dq:(k:Int)<=L
  ·have tk:decide ((k:Int)<=L)=true:=decide_eq_true dq
   obtain ⟨f,hf⟩:∃f,L+1-k=f+1:=⟨L-k,by omega⟩;have Ri:Hid ((if n=0 then false else if n=base then true else Cv S base f (aJ S n))=Vs):=by
    show _=_;rw [<-hw.out,hf];rfl
   have JA:f=L+1-(k+1):=by omega
   have Vt:=zH JA;clear hf JA hw
   by_cases h0:n=0
   ·have hv:Hid (Vs=false):=by show _=_;rw[<-Ri.out,if_pos h0]
    subst h0;go_wp2_with fail;go_ret;exact aH.mk (gU hv.out.symm) hE
   ·have t0:(n == 0)=false:=by simpa using h0
    have oG:(n != 0)=true:=by simpa using h0
    by_cases hb:n=base
    ·have t1:(n == base)=true:=by simpa using hb
     have hv:Hid (Vs=true):=by show _=_;rw[<-Ri.out,if_neg h0,if_pos hb]
     clear h0 hb;go_wp2_with fail;go_ret;exact aH.mk (gU hv.out.symm) hE
    ·have t1:(n == base)=false:=by simpa using hb
     have SH:Hid (Cv S base f (aJ S n)=Vs):=by show _=_;rw[<-Ri.out,if_neg h0,if_neg hb]
     clear h0 hb Ri;go_wp2_with fail;refine (tY B g S X n _ (h.ext hE) (by have:=HL.out;omega) tI hr hu).mono ?_;rintro e w2 ⟨rfl,b2⟩;clear c0 zF;go_wp2_with fail;go_roundw
     case rel=>exact⟨aJ S n,k+1,rfl,by go_num,by omega,by show _=_;rw[<-Vt.out];exact SH.out,hE.trans b2⟩
     case measure=>simp[intOf];omega
  ·have tk:decide ((k:Int)<=L)=false:=decide_eq_false dq
   have hv:Hid (Vs=false):=by
    show _=_;rw [<-hw.out,show L+1-k=0 by omega];rfl
   go_wp2_with fail;go_ret;exact aH.mk (gU hv.out.symm) hE
theorem J0 (B bT bM:Nat) (ns:List ai) (last:Int) (w:World) (h:oC w B bT bM ns last):Calls Tryz.prog 22 #[.pointer (some ⟨bT,0,none⟩)] w (aH w (.int .i64 ns.length)):=by
 obtain ⟨h1,h2,h3,es,cl,h4,h5⟩:=h;have c0:=h3.cell 0;simp only[gA,gB]at c0;have z0:=h3.lt;have z1:=h4.lt;have hlen:(es.size:Int)=ns.length:=by have:=h5.1;rw[Array.length_toList]at this;omega
 have H4:w.heap[bM]?=some (.map es cl):=h4;have hr:(Builtin.len_ #[111] 3 #[.map (some bM)]).run Tryz.prog w=.ok (.int .i64 es.size) w:=by simp[Builtin.len_,run_underlying Tryz.underlying111,MapKept.run_getObj_map h4,goInt,Result.andThen]
 have HL:=zH hlen;clear h3 h4 h5 hlen H4;go_enter Tryz.func22,Tryz.ntmps22;go_wp2_with fail;go_ret;exact aH.mk (aB HL.out) (Ext.refl _)
theorem CX (a0 a1 a2 a3 a4 a5 a6 a7 a8 a9 Cu zA:Value) (w:World) :
  (Instr.field 58 (.agg #[a0,a1,a2,a3,a4,a5,a6,a7,a8,a9,Cu,zA]) 11).run Tryz.prog w=.ok zA w/\(Instr.field 58 (.agg #[a0,a1,a2,a3,a4,a5,a6,a7,a8,a9,Cu,zA]) 2).run Tryz.prog w=.ok a2 w:=by
 constructor<;>kernel_rfl
def EU (S:ac):Prop:=∀n∈S.nodes,∀x∈n.ae,x.1≠[]/\x.1.length<=255
theorem Ext.grownBy {w w':World} (h:Ext w w'):w.grownBy w' none:=⟨h.os,h.tape,h.output,h.size,fun k hk _=>Below.block h k hk⟩
attribute [local irreducible] wpQuiet
end
open Go.ChangeShapes Go.WideShapes Go.ChangeAt Go.RowKit
def cP (m:Int) (i:Nat):Bool:=m / 2 ^ i % 2 == 1
theorem Pp (mode:Int) (i:Nat):(bits BinOp.and IntKind.i64 (mode / 2 ^ i) 1 == 1)=cP mode i:=by rw[V6];rfl
def CY (m want:Int):Bool:=bits .and .i64 (bits .and .i64 m want) 7 == bits .and .i64 want 7
def part (u g uid gid mode:Int):Int:=if u=uid then mode / 64 else if g=gid then mode / 8 else mode
def fL (u g uid gid mode want:Int):Bool:=if u=0 then true else CY (part u g uid gid mode) want
theorem SI (g uid gid mode want:Int) {u:Int} (h:u=0):fL u g uid gid mode want=true:=by unfold fL;rw[if_pos h]
theorem SJ (g gid mode want:Int) {u uid:Int} (h:¬u=0) (h1:u=uid):fL u g uid gid mode want=CY (mode / 64) want:=by unfold fL part;rw[if_neg h,if_pos h1]
theorem SK (mode want:Int) {u g uid gid:Int} (h:¬u=0) (h1:¬u=uid) (h2:g=gid):fL u g uid gid mode want=CY (mode / 8) want:=by unfold fL part;rw[if_neg h,if_neg h1,if_pos h2]
theorem SL (mode want:Int) {u g uid gid:Int} (h:¬u=0) (h1:¬u=uid) (h2:¬g=gid):fL u g uid gid mode want=CY mode want:=by unfold fL part;rw[if_neg h,if_neg h1,if_neg h2]
theorem Pq (u g uid gid mode want:Int) (w:World) :
  Calls Tryz.prog 167 #[.agg #[.int .i64 u,.int .i64 g],.int .i64 uid,.int .i64 gid,.int .i64 mode,.int .i64 want] w (aH w (.bool (fL u g uid gid mode want))):=by
 by_cases h0:u=0
 ·have oT:=zH (SI g uid gid mode want h0)
  have b0:(u == 0)=true:=beq_iff_eq.2 h0;clear h0;go_enter Tryz.func167,Tryz.ntmps167;go_wp2_with fail;go_ret;exact aH.mk (by rw[oT.out];rfl) ((Ext.refl _).alloc _)
 ·have b0:(u == 0)=false:=beq_eq_false_iff_ne.2 h0
  by_cases h1:u=uid
  ·have oT:=zH (SJ g gid mode want h0 h1)
   have b1:(u == uid)=true:=beq_iff_eq.2 h1;clear h0 h1;go_enter Tryz.func167,Tryz.ntmps167;go_wp2_with fail;go_ret;exact aH.mk (by rw[oT.out];rfl) ((Ext.refl _).alloc _)
  ·have b1:(u == uid)=false:=beq_eq_false_iff_ne.2 h1
   by_cases h2:g=gid
   ·have oT:=zH (SK mode want h0 h1 h2)
    have b2:(g == gid)=true:=beq_iff_eq.2 h2;clear h0 h1 h2;go_enter Tryz.func167,Tryz.ntmps167;go_wp2_with fail;go_ret;exact aH.mk (by rw[oT.out];rfl) ((Ext.refl _).alloc _)
   ·have oT:=zH (SL mode want h0 h1 h2)
    have b2:(g == gid)=false:=beq_eq_false_iff_ne.2 h2;clear h0 h1 h2;go_enter Tryz.func167,Tryz.ntmps167;go_wp2_with fail;go_ret;exact aH.mk (by rw[oT.out];rfl) ((Ext.refl _).alloc _)
theorem qO (x:Int) (i:Nat) (hi:i<=2):cP x i=((x % 18446744073709551616).toNat).testBit i:=by
 have:i=0\/i=1\/i=2:=by omega
 rw [Nat.testBit_eq_decide_div_mod_eq];unfold cP;rcases this with rfl|rfl|rfl<;>rw[Bool.eq_iff_iff,beq_iff_eq,decide_eq_true_iff]<;>omega
theorem xb (x:Int):x % 8=(if cP x 0=true then 1 else 0)+(if cP x 1=true then 2 else 0)+(if cP x 2=true then 4 else 0):=by
 unfold cP;simp only[beq_iff_eq];split<;>split<;>split<;>omega
theorem J1 (n:Nat) (h:n<2 ^ 64):((((n:Int)+9223372036854775808) % 18446744073709551616-9223372036854775808) % 18446744073709551616).toNat=n:=by omega
theorem qP (x y:Int) (i:Nat) (hi:i<=2):cP (bits .and .i64 x y) i=(cP x i&&cP y i):=by
 have h:bits .and .i64 x y=IntKind.i64.wrap ((BitVec.ofInt 64 x &&& BitVec.ofInt 64 y).toNat:Int):=rfl;rw [h,IntKind.wrap_i64,qO _ i hi,qO x i hi,qO y i hi,<-Nat.testBit_and,<-jE,<-jE x,<-jE y,<-BitVec.toNat_and];rw [jE,J1 _ (BitVec.ofInt 64 x &&& BitVec.ofInt 64 y).isLt]
theorem J2 (m want:Int):CY m want=((!cP want 0 || cP m 0)&&((!cP want 1 || cP m 1)&&(!cP want 2 || cP m 2))):=by
 unfold CY;rw [Q5,Q5,xb,xb want,qP _ _ 0 (by omega),qP _ _ 1 (by omega),qP _ _ 2 (by omega)]
 cases cP want 0<;>cases cP want 1<;>cases cP want 2<;>cases cP m 0<;>cases cP m 1<;>cases cP m 2<;>rfl
theorem qQ (m:Int) (k i:Nat):cP (m / 2 ^ k) i=cP m (k+i):=by
 unfold cP;rw [Int.pow_add,Int.ediv_ediv_of_nonneg (Int.le_of_lt (Int.pow_pos (by decide)))]
theorem J3 (m:Int) (k:Nat):m / 2 ^ k / 2=m / 2 ^ (k+1):=by
 rw [Int.ediv_ediv_of_nonneg (Int.le_of_lt (Int.pow_pos (by decide))),Int.pow_succ]
theorem J4 (mode:Int) (n:Nat) (w:World) (hn:n<=1000):Calls Tryz.prog 123 #[.int .i64 mode,.int .i64 n] w (aH w (.bool (cP mode n))):=by
 go_enter Tryz.func123,Tryz.ntmps123;go_wp2_with fail;go_loop [0,5] (fun m i=>∃k:Nat,k<=n/\i=.int .i64 k/\m=.int .i64 (mode / 2 ^ k)) (fun _ i=>n-(intOf i).toNat)
 case atStart=>exact⟨0,by omega,rfl,by simp⟩
 case round =>
  obtain ⟨k,hk,rfl,rfl⟩:=hrel
  by_cases hlt:k<n
  ·have hd:=zH (J3 mode k)
   go_wp2_with fail;go_round
   case rel=>exact⟨k+1,by omega,by go_num,by rw[<-hd.out]⟩
   case measure=>simp[intOf];omega
  ·obtain rfl:k=n:=by omega
   have oT:=zH (Pp mode k);go_wp2_with fail;go_ret;exact aH.mk (by rw[oT.out];rfl) (Ext.refl _)
theorem lL (mode at_:Int) (w:World) (h0:0<=at_) (h1:at_<=1000):Calls Tryz.prog 123 #[.int .i64 mode,.int .i64 at_] w (aH w (.bool (cP mode at_.toNat))):=by
 obtain ⟨n,rfl⟩:=Int.eq_ofNat_of_zero_le h0;exact J4 mode n w (by omega)
def lM (m want:Int) (f:Nat) (k:Nat):Bool:=(List.range k).all fun j=>!cP want j || cP m (f+j)
theorem iF (m want:Int) (f k:Nat):lM m want f (k+1)=(lM m want f k&&(!cP want k || cP m (f+k))):=by
 simp [lM,List.range_succ]
theorem SM (m want:Int) (f:Nat):lM m want f 3=CY (m / 2 ^ f) want:=by
 rw [J2,qQ,qQ,qQ];simp[lM,List.range,List.range.loop]
theorem xc (m want:Int) (f:Nat):∀k j,lM m want f (k+j)=true->lM m want f k=true
 | _,0,h=>h
 | k,j+1,h=>xc m want f k j (by rw[<-Nat.add_assoc,iF]at h;simp at h;exact h.1)
def ju (u g uid gid:Int):Nat:=if u=uid then 6 else if g=gid then 3 else 0
theorem AB (u g uid gid mode want:Int):fL u g uid gid mode want=(u == 0 || lM mode want (ju u g uid gid) 3):=by
 rw [SM];unfold fL part ju
 by_cases h0:u=0
 ·rw[if_pos h0];simp[h0]
 ·rw [if_neg h0,beq_eq_false_iff_ne.2 h0,Bool.false_or]
  split
  ·rfl
  ·split<;>simp
theorem qR {u g uid gid mode want:Int} (h:lM mode want (ju u g uid gid) 3=true):fL u g uid gid mode want=true:=by rw[AB,h];simp
theorem qT {u g uid gid mode want:Int} {k:Nat} (hk:k<3) (h:(cP want k&&!cP mode (ju u g uid gid+k))=true):fL u g uid gid mode want=(u == 0):=by
 have : lM mode want (ju u g uid gid) 3=false:=by
  cases hh:lM mode want (ju u g uid gid) 3 with
  | false=>rfl
  | true =>
   have h1:=xc mode want (ju u g uid gid) (k+1) (3-(k+1)) (by rw[show k+1+(3-(k+1))=3 from by omega];exact hh);rw [iF]at h1;simp at h1 h;rcases h1.2 with h2|h2
   ·rw[h.1]at h2;cases h2
   ·rw[h.2]at h2;cases h2
 rw [AB,this];simp
theorem J5 (u g uid gid mode want:Int) (w:World) :
  Calls Tryz.prog 97 #[.agg #[.int .i64 u,.int .i64 g],.int .i64 uid,.int .i64 gid,.int .i64 mode,.int .i64 want] w (aH w (.bool (fL u g uid gid mode want))):=by
 have A0:Has (w.alloc (.cells #[.int .i64 u,.int .i64 g] 27)) w.heap.size (.cells #[.int .i64 u,.int .i64 g] 27):=Has.new _ _
 by_cases h1:u=uid
 ·have J6 : Hid (ju u g uid gid=6):=by show _=_;unfold ju;rw[if_pos h1]
  have b1:(u == uid)=true:=beq_iff_eq.2 h1;clear h1;go_enter Tryz.func97,Tryz.ntmps97;go_wp2_with fail;go_loopw [12] (fun i wr=>∃k:Nat,k<=3/\i=.int .i64 k/\Hid (lM mode want 6 k=true)/\Ext (w.alloc (.cells #[.int .i64 u,.int .i64 g] 27)) wr) (fun i _=>3-(intOf i).toNat)
  case atStart=>exact⟨0,by omega,rfl,rfl,Ext.refl _⟩
  case round =>
   obtain ⟨k,hk,rfl,hr,hx⟩:=hrel
   by_cases hlt:k<3
   ·go_wp2_with fail
    refine (lL _ _ _ (by omega) (by omega)).mono ?_;rintro e w1 ⟨rfl,b1⟩;rw [Int.toNat_natCast]
    cases hw:cP want k with
    | false =>
     have hs:Hid (lM mode want 6 (k+1)=true):=by show _=_;rw[iF,hr.out,hw];rfl
     clear hw;go_wp2_with fail;go_roundw
     case rel=>exact⟨k+1,by omega,by go_num,hs,hx.trans b1⟩
     case measure=>simp[intOf];omega
    | true =>
     have hW:Hid (cP want k=true):=hw;clear hw;go_wp2_with fail;refine (lL _ _ _ (by omega) (by omega)).mono ?_;rintro e w2 ⟨rfl,b2⟩;rw [show (6+(k:Int)).toNat=6+k from by omega]
     cases hm:cP mode (6+k) with
     | true =>
      have hs:Hid (lM mode want 6 (k+1)=true):=by show _=_;rw[iF,hr.out,hm];simp
      clear hm;go_wp2_with fail;go_roundw
      case rel=>exact⟨k+1,by omega,by go_num,hs,(hx.trans b1).trans b2⟩
      case measure=>simp[intOf];omega
     | false =>
      have hs:Hid (fL u g uid gid mode want=(u == 0)):=by show _=_;refine qT (k:=k) hlt ?_;rw[J6.out,hW.out,hm];rfl
      clear hm;have A1:=((A0.ext hx).ext b1).ext b2;have hc:∀i,w2.cell? ⟨w.heap.size,i,none⟩=_:=fun i=>A1.cell i
      go_wp2_with fail;go_ret;exact aH.mk (by rw[hs.out];rfl) ((((Ext.refl _).alloc _).trans hx).trans (b1.trans b2))
   ·obtain rfl:k=3:=by omega
    have hs:Hid (fL u g uid gid mode want=true):=by show _=_;refine qR ?_;rw[J6.out];exact hr.out
    go_wp2_with fail;go_ret;exact aH.mk (by rw[hs.out];rfl) (((Ext.refl _).alloc _).trans hx)
 ·have b1 : (u == uid)=false:=beq_eq_false_iff_ne.2 h1
  by_cases h2:g=gid
  ·have J6 : Hid (ju u g uid gid=3):=by show _=_;unfold ju;rw[if_neg h1,if_pos h2]
   have b2:(g == gid)=true:=beq_iff_eq.2 h2;clear h1 h2;go_enter Tryz.func97,Tryz.ntmps97;go_wp2_with fail;go_loopw [12] (fun i wr=>∃k:Nat,k<=3/\i=.int .i64 k/\Hid (lM mode want 3 k=true)/\Ext (w.alloc (.cells #[.int .i64 u,.int .i64 g] 27)) wr) (fun i _=>3-(intOf i).toNat)
   case atStart=>exact⟨0,by omega,rfl,rfl,Ext.refl _⟩
   case round =>
    obtain ⟨k,hk,rfl,hr,hx⟩:=hrel
    by_cases hlt:k<3
    ·go_wp2_with fail
     refine (lL _ _ _ (by omega) (by omega)).mono ?_;rintro e w1 ⟨rfl,b1⟩;rw [Int.toNat_natCast]
     cases hw:cP want k with
     | false =>
      have hs:Hid (lM mode want 3 (k+1)=true):=by show _=_;rw[iF,hr.out,hw];rfl
      clear hw;go_wp2_with fail;go_roundw
      case rel=>exact⟨k+1,by omega,by go_num,hs,hx.trans b1⟩
      case measure=>simp[intOf];omega
     | true =>
      have hW:Hid (cP want k=true):=hw;clear hw;go_wp2_with fail;refine (lL _ _ _ (by omega) (by omega)).mono ?_;rintro e w2 ⟨rfl,b2⟩;rw [show (3+(k:Int)).toNat=3+k from by omega]
      cases hm:cP mode (3+k) with
      | true =>
       have hs:Hid (lM mode want 3 (k+1)=true):=by show _=_;rw[iF,hr.out,hm];simp
       clear hm;go_wp2_with fail;go_roundw
       case rel=>exact⟨k+1,by omega,by go_num,hs,(hx.trans b1).trans b2⟩
       case measure=>simp[intOf];omega
      | false =>
       have hs:Hid (fL u g uid gid mode want=(u == 0)):=by show _=_;refine qT (k:=k) hlt ?_;rw[J6.out,hW.out,hm];rfl
       clear hm;have A1:=((A0.ext hx).ext b1).ext b2;have hc:∀i,w2.cell? ⟨w.heap.size,i,none⟩=_:=fun i=>A1.cell i
       go_wp2_with fail;go_ret;exact aH.mk (by rw[hs.out];rfl) ((((Ext.refl _).alloc _).trans hx).trans (b1.trans b2))
    ·obtain rfl:k=3:=by omega
     have hs:Hid (fL u g uid gid mode want=true):=by show _=_;refine qR ?_;rw[J6.out];exact hr.out
     go_wp2_with fail;go_ret;exact aH.mk (by rw[hs.out];rfl) (((Ext.refl _).alloc _).trans hx)
  ·have J6 : Hid (ju u g uid gid=0):=by show _=_;unfold ju;rw[if_neg h1,if_neg h2]
   have b2:(g == gid)=false:=beq_eq_false_iff_ne.2 h2;clear h1 h2;go_enter Tryz.func97,Tryz.ntmps97;go_wp2_with fail;go_loopw [12] (fun i wr=>∃k:Nat,k<=3/\i=.int .i64 k/\Hid (lM mode want 0 k=true)/\Ext (w.alloc (.cells #[.int .i64 u,.int .i64 g] 27)) wr) (fun i _=>3-(intOf i).toNat)
   case atStart=>exact⟨0,by omega,rfl,rfl,Ext.refl _⟩
   case round =>
    obtain ⟨k,hk,rfl,hr,hx⟩:=hrel
    by_cases hlt:k<3
    ·go_wp2_with fail
     refine (lL _ _ _ (by omega) (by omega)).mono ?_;rintro e w1 ⟨rfl,b1⟩;rw [Int.toNat_natCast]
     cases hw:cP want k with
     | false =>
      have hs:Hid (lM mode want 0 (k+1)=true):=by show _=_;rw[iF,hr.out,hw];rfl
      clear hw;go_wp2_with fail;go_roundw
      case rel=>exact⟨k+1,by omega,by go_num,hs,hx.trans b1⟩
      case measure=>simp[intOf];omega
     | true =>
      have hW:Hid (cP want k=true):=hw;clear hw;go_wp2_with fail;refine (lL _ _ _ (by omega) (by omega)).mono ?_;rintro e w2 ⟨rfl,b2⟩;rw [show ((k:Int)).toNat=0+k from by omega]
      cases hm:cP mode (0+k) with
      | true =>
       have hs:Hid (lM mode want 0 (k+1)=true):=by show _=_;rw[iF,hr.out,hm];simp
       clear hm;go_wp2_with fail;go_roundw
       case rel=>exact⟨k+1,by omega,by go_num,hs,(hx.trans b1).trans b2⟩
       case measure=>simp[intOf];omega
      | false =>
       have hs:Hid (fL u g uid gid mode want=(u == 0)):=by show _=_;refine qT (k:=k) hlt ?_;rw[J6.out,hW.out,hm];rfl
       clear hm;have A1:=((A0.ext hx).ext b1).ext b2;have hc:∀i,w2.cell? ⟨w.heap.size,i,none⟩=_:=fun i=>A1.cell i
       go_wp2_with fail;go_ret;exact aH.mk (by rw[hs.out];rfl) ((((Ext.refl _).alloc _).trans hx).trans (b1.trans b2))
    ·obtain rfl:k=3:=by omega
     have hs:Hid (fL u g uid gid mode want=true):=by show _=_;refine qR ?_;rw[J6.out];exact hr.out
     go_wp2_with fail;go_ret;exact aH.mk (by rw[hs.out];rfl) (((Ext.refl _).alloc _).trans hx)
def mU (u g:Int):Bool:=decide (0<=u)&&(decide (u<=2147483648)&&(decide (0<=g)&&decide (g<=2147483648)))
def gW (u o:Int):Bool:=u == 0 || u == o
def Rj (u Wx do_ no:Int):Bool:=!cP Wx 9 || (gW u do_ || gW u no)
theorem xd (u g:Int) (w:World):Calls Tryz.prog 115 #[.agg #[.int .i64 u,.int .i64 g]] w (aH w (.bool (mU u g))):=by
 go_enter Tryz.func115,Tryz.ntmps115;go_wp2_with fail
 all_goals
  go_ret;exact aH.mk (by simp[mU, *]<;>omega) ((Ext.refl _).alloc _)
theorem Gk (u g:Int) (x0 x1 x2 x3:Value) (o:Int) (x5 x6 x7 x8 x9 sy sA:Value) (w:World) :
  Calls Tryz.prog 145 #[.agg #[.int .i64 u,.int .i64 g],.agg #[x0,x1,x2,x3,.int .i64 o,x5,x6,x7,x8,x9,sy,sA]] w (aH w (.bool (gW u o))):=by
 cases h:(u == 0) with
 | true =>
  have hf:Hid (gW u o=true):=by show _=_;unfold gW;rw[h];rfl
  go_enter Tryz.func145,Tryz.ntmps145;go_wp2_with fail;go_ret;exact aH.mk (by rw[hf.out];rfl) (((Ext.refl _).alloc _).alloc _)
 | false =>
  have hf:Hid (gW u o=(u == o)):=by show _=_;unfold gW;rw[h];rfl
  go_enter Tryz.func145,Tryz.ntmps145;go_wp2_with fail;go_ret;exact aH.mk (by rw[hf.out];rfl) (((Ext.refl _).alloc _).alloc _)
theorem qU (u g:Int) (x0 x1 x2:Value) (mode o gr:Int) (x6 x7 x8 x9 sy sA:Value) (want:Int) (w:World) :
  Calls Tryz.prog 149 #[.agg #[.int .i64 u,.int .i64 g],.agg #[x0,x1,x2,.int .i64 mode,.int .i64 o,.int .i64 gr,x6,x7,x8,x9,sy,sA],.int .i64 want] w (aH w (.bool (fL u g o gr mode want))):=by
 go_enter Tryz.func149,Tryz.ntmps149;go_wp2_with fail;refine (Pq _ _ _ _ _ _ _).mono ?_;rintro e w1 ⟨rfl,b1⟩;go_wp2_with fail;go_ret;exact aH.mk rfl ((((Ext.refl _).alloc _).alloc _).trans b1)
theorem Gl (u g:Int) (w:World):Calls Tryz.prog 93 #[.agg #[.int .i64 u,.int .i64 g]] w (aH w (.bool (mU u g))):=by
 go_enter Tryz.func93,Tryz.ntmps93;go_wp2_with fail
 all_goals
  go_ret;exact aH.mk (by simp[mU, *]<;>omega) ((Ext.refl _).alloc _)
theorem Gm (u g:Int) (x0 x1 x2 x3:Value) (o:Int) (x5 x6 x7 x8 x9 sy sA:Value) (w:World) :
  Calls Tryz.prog 122 #[.agg #[.int .i64 u,.int .i64 g],.agg #[x0,x1,x2,x3,.int .i64 o,x5,x6,x7,x8,x9,sy,sA]] w (aH w (.bool (gW u o))):=by
 cases h:(u == 0) with
 | true =>
  have hf:Hid (gW u o=true):=by show _=_;unfold gW;rw[h];rfl
  go_enter Tryz.func122,Tryz.ntmps122;go_wp2_with fail;go_ret;exact aH.mk (by rw[hf.out];rfl) (((Ext.refl _).alloc _).alloc _)
 | false =>
  have hf:Hid (gW u o=(u == o)):=by show _=_;unfold gW;rw[h];rfl
  go_enter Tryz.func122,Tryz.ntmps122;go_wp2_with fail;go_ret;exact aH.mk (by rw[hf.out];rfl) (((Ext.refl _).alloc _).alloc _)
theorem xe (u g:Int) (x0 x1 x2:Value) (mode o gr:Int) (x6 x7 x8 x9 sy sA:Value) (want:Int) (w:World) :
  Calls Tryz.prog 62 #[.agg #[.int .i64 u,.int .i64 g],.agg #[x0,x1,x2,.int .i64 mode,.int .i64 o,.int .i64 gr,x6,x7,x8,x9,sy,sA],.int .i64 want] w (aH w (.bool (fL u g o gr mode want))):=by
 go_enter Tryz.func62,Tryz.ntmps62;go_wp2_with fail;refine (J5 _ _ _ _ _ _ _).mono ?_;rintro e w1 ⟨rfl,b1⟩;go_wp2_with fail;go_ret;exact aH.mk rfl ((((Ext.refl _).alloc _).alloc _).trans b1)
def ew (S:ac) (cu no:Int):Int:=if aQ S.nodes no=false then 5 else if gW cu (aa S.nodes no).uid=false then 4 else 0
def jQ (S:ac) (cu no:Int):ai:=if ew S cu no=0 then aa S.nodes no else ag
def aar (w:World) (B:Nat) (S:ac) (cu no:Int) (e:Ending) (w':World):Prop:=
 ∃ A c,e=.returned (.tuple #[.agg #[.int .i64 (jQ S cu no).no,.int .i64 (jQ S cu no).dev,.int .i64 (jQ S cu no).kind,.int .i64 (jQ S cu no).mode,.int .i64 (jQ S cu no).uid,.int .i64 (jQ S cu no).gid,.int .i64 (jQ S cu no).mtime,.int .i64 (jQ S cu no).ctime,.int .i64 (jQ S cu no).ah,.int .i64 (jQ S cu no).up,.string (bs (jQ S cu no).data),.slice A (jQ S cu no).ae.length c],.int .i64 (ew S cu no)])/\ay w' B (jQ S cu no) A c/\Ext w w'
theorem tZ (B:Nat) (g:bQ) (S:ac) (cu cg no:Int) (w:World) (h:eD w B g S) (hd:0<S.af.length):Calls Tryz.prog 114 #[.pointer (some ⟨g.bW,0,none⟩),.agg #[cu,cg],.int .i64 no] w (aar w B S cu no):=by
 have h0:=h;obtain ⟨h1,h2,cd,h3,h4⟩:=h;have jF:((S.af.length:Int) == 0)=false:=by simpa using (show ¬(S.af.length:Int)=0 by omega)
 have E0:Ext w ((w.alloc (.cells #[cu,cg] 27)).alloc (.cells #[.int .i64 0,.int .i64 0,.int .i64 0,.int .i64 0,.int .i64 0,.int .i64 0,.int .i64 0,.int .i64 0,.int .i64 0,.int .i64 0,.string ⟨#[]⟩,.slice none 0 0] 58)):=((Ext.refl _).alloc _).alloc _;go_enter Tryz.func114,Tryz.ntmps114;go_wp2_with fail;refine (lI B g S _ (h0.ext E0) hd).mono ?_;rintro e w1 ⟨rfl,b1⟩;have E1:=E0.trans b1;have R0:=Has.new (w.alloc (.cells #[cu,cg] 27)) (.cells #[ag.no,ag.dev,ag.kind,ag.mode,ag.uid,ag.gid,ag.mtime,ag.ctime,ag.ah,ag.up,bs ag.data,.slice none ag.ae.length 0] 58);rw [World.size_alloc]at R0;have R1:=R0.ext b1;have C1:=((Has.new w (.cells #[cu,cg] 27)).alloc (.cells #[.int .i64 0,.int .i64 0,.int .i64 0,.int .i64 0,.int .i64 0,.int .i64 0,.int .i64 0,.int .i64 0,.int .i64 0,.int .i64 0,.string ⟨#[]⟩,.slice none 0 0] 58)).ext b1;have v0:w1.cell? ⟨g.bW,0,none⟩=some (.pointer (some ⟨g.bT,0,none⟩)):=(h3.ext E1).cell 0;have z1:=(h3.ext E1).lt;go_wp2_with fail;refine (fP B g.bT g.bM S.nodes S.last no _ (h2.ext E1)).mono ?_;rintro e w2 ⟨A2,k2,rfl,iC,b2⟩;have R2:=R1.ext b2;have C2:=C1.ext b2;have hm:Hid (ew S cu no=if aQ S.nodes no=false then 5 else if gW cu (aa S.nodes no).uid=false then 4 else 0):=by show _=_;rfl
 have cL:Hid (jQ S cu no=if ew S cu no=0 then aa S.nodes no else ag):=by show _=_;rfl
 obtain⟨m,hmm⟩:=ar (aa S.nodes no);rw [<-hmm]at iC hm cL|-;obtain⟨W3,du⟩:=ar (w2.alloc (.cells #[m.no,m.dev,m.kind,m.mode,m.uid,m.gid,m.mtime,m.ctime,m.ah,m.up,bs m.data,.slice A2 m.ae.length k2] 58));have kD:Ext w2 W3:=by rw[du];exact (Ext.refl _).alloc _
 have N3:Has W3 w2.heap.size (.cells #[m.no,m.dev,m.kind,m.mode,m.uid,m.gid,m.mtime,m.ctime,m.ah,m.up,bs m.data,.slice A2 m.ae.length k2] 58):=by rw[du];exact Has.new _ _
 have R3:=R2.ext kD;have C3:=C2.ext kD;have E3:Ext w W3:=(E1.trans b2).trans kD;obtain⟨b8,fZ⟩:=ar w2.heap.size;obtain⟨i,hi⟩:=ar (aQ S.nodes no);rw [<-hi]at hm|-;clear v0 hmm hi;go_upto_region 4 with fail;rw [<-du];rw [<-fZ]at N3|-;clear du fZ
 cases i
 ·have hE:Hid (ew S cu no=5):=by show _=_;rw[hm.out];rfl
  have hN:Hid (jQ S cu no=ag):=by show _=_;rw[cL.out,hE.out];rfl
  clear hm cL;go_wp2_with (refine az rfl _ _ rfl (w.heap.size+1) ag none 0 rfl rfl R3 ?_;intro w4 R4 O4);refine bodyPost_ret (v:=.tuple #[.agg #[ag.no,ag.dev,ag.kind,ag.mode,ag.uid,ag.gid,ag.mtime,ag.ctime,ag.ah,ag.up,bs ag.data,.slice none ag.ae.length 0],.int .i64 5]) (dx Tryz.results114 _ _ (w.heap.size+1) ag none 0 _ rfl rfl R4) rfl ?_;exact ⟨none,0,by rw[hE.out,hN.out],by rw[hN.out];exact ay.zero _ _,O4.after E3 (by simp)⟩
 ·obtain⟨u,hu⟩:=ar (gW cu m.uid)
  rw [<-hu]at hm;have HU:=zH hu;have c0:W3.cell? ⟨w.heap.size,0,none⟩=some (.int .i64 cu):=C3.cell 0;have c1:W3.cell? ⟨w.heap.size,1,none⟩=some (.int .i64 cg):=C3.cell 1;have zc:=C3.lt;clear hu;go_wp2_with (refine aP rfl _ rfl b8 m A2 k2 rfl N3 ?_);refine (Gk cu cg _ _ _ _ m.uid _ _ _ _ _ _ _ _).mono ?_;rw [<-HU.out];rintro e w4 ⟨rfl,b4⟩;have R4:=R3.ext b4;have N4:=N3.ext b4
  cases u
  ·have hE:Hid (ew S cu no=4):=by show _=_;rw[hm.out];rfl
   have hN:Hid (jQ S cu no=ag):=by show _=_;rw[cL.out,hE.out];rfl
   clear hm cL;go_wp2_with (refine az rfl _ _ rfl (w.heap.size+1) ag none 0 rfl rfl R4 ?_;intro w5 R5 O5);refine bodyPost_ret (v:=.tuple #[.agg #[ag.no,ag.dev,ag.kind,ag.mode,ag.uid,ag.gid,ag.mtime,ag.ctime,ag.ah,ag.up,bs ag.data,.slice none ag.ae.length 0],.int .i64 4]) (dx Tryz.results114 _ _ (w.heap.size+1) ag none 0 _ rfl rfl R5) rfl ?_;exact ⟨none,0,by rw[hE.out,hN.out],by rw[hN.out];exact ay.zero _ _,O5.after (E3.trans b4) (by simp)⟩
  ·have hE:Hid (ew S cu no=0):=by show _=_;rw[hm.out];rfl
   have hN:Hid (jQ S cu no=m):=by show _=_;rw[cL.out,hE.out];rfl
   clear hm cL c0 c1;go_wp2_with (first|(refine aP rfl _ rfl b8 m A2 k2 rfl N4 ?_)|(refine az rfl _ _ rfl (w.heap.size+1) m A2 k2 rfl rfl R4 ?_;intro w5 R5 O5));refine bodyPost_ret (v:=.tuple #[.agg #[m.no,m.dev,m.kind,m.mode,m.uid,m.gid,m.mtime,m.ctime,m.ah,m.up,bs m.data,.slice A2 m.ae.length k2],.int .i64 0]) (dx Tryz.results114 _ _ (w.heap.size+1) m A2 k2 _ rfl rfl R5) rfl ?_;have yw:ay w5 B m A2 k2:=(((iC.ext kD).ext b4).only O5 (by
    intro b hb;rw [List.mem_singleton]at hb;subst hb;exact ⟨by have:=h1;have:=h0.lt.1;omega,R4.gi (by decide)⟩))
   exact ⟨A2,k2,by rw[hE.out,hN.out],by rw[hN.out];exact yw,O5.after (E3.trans b4) (by simp)⟩
def wg (w:World) (B:Nat) (g:bQ) (T:ac) (x:Int) (e:Ending) (w':World):Prop:=
 e = .returned (.int .i64 x)/\eD w' B g T/\Only g.list w w'
theorem fB {w w':World} {B:Nat} {g:bQ} {S T:ac} {x:Int} (h:eD w B g S) (hE:Ext w w') (hT:T=S):wg w B g T x (.returned (.int .i64 x)) w':=
 ⟨rfl,by rw[hT];exact h.ext hE,Only.aw hE⟩
def eJ (S:ac) (cu no mode:Int):Int:=if ew S cu no≠0 then ew S cu no else if mode<0\/1023<mode\/(aa S.nodes no).kind=3 then 1 else 0
def d_ (S:ac) (cu now no mode:Int):ac:=if eJ S cu no mode=0 then aK S {aa S.nodes no with mode:=mode,ctime:=now} else S
theorem gI {S:ac} {cu no:Int} (h:ew S cu no=0):aQ S.nodes no=true/\gW cu (aa S.nodes no).uid=true/\jQ S cu no=aa S.nodes no:=by
 refine ⟨?_,?_,by unfold jQ;rw[if_pos h]⟩
 ·cases hi:aQ S.nodes no
  ·unfold ew at h;rw[if_pos hi]at h;cases h
  ·rfl
 ·unfold ew at h
  split at h
  ·cases h
  ·split at h
   ·cases h
   ·rename_i h2;simpa using h2
theorem mV (B:Nat) (g:bQ) (S:ac) (n:ai) (A:Option Addr) (c:Nat) (w:World) (h:eD w B g S) (hu:aI S.nodes S.last) (hn:ay w B n A c) :
  Calls Tryz.prog 116 #[.pointer (some ⟨g.bT,0,none⟩),.agg #[n.no,n.dev,n.kind,n.mode,n.uid,n.gid,n.mtime,n.ctime,n.ah,n.up,bs n.data,.slice A n.ae.length c]] w (fun e w'=>e=.returned (.bool (aQ S.nodes n.no))/\eD w' B g (aK S n)/\Only g.list w w'):=by
 refine (zX B g.bT g.bM S.nodes S.last n A c w h.2.1 hu hn).mono ?_;rintro e w' ⟨rfl,h2,h3⟩;exact ⟨rfl,eD.table h h3 h2,h3.mono (by simp)⟩
theorem Gn (B:Nat) (g:bQ) (S:ac) (cu cg now no mode:Int) (w:World) (h:eD w B g S) (hd:0<S.af.length) (hu:aI S.nodes S.last) :
  Calls Tryz.prog 83 #[.pointer (some ⟨g.bW,0,none⟩),.agg #[cu,cg],.int .i64 now,.int .i64 no,.int .i64 mode] w (wg w B g (d_ S cu now no mode) (eJ S cu no mode)):=by
 have E0:Ext w (w.alloc (.cells #[cu,cg] 27)):=(Ext.refl _).alloc _;have hm:Hid (eJ S cu no mode=if ew S cu no≠0 then ew S cu no else if mode<0\/1023<mode\/(aa S.nodes no).kind=3 then 1 else 0):=by show _=_;rfl
 have oH:Hid (ew S cu no=0->aQ S.nodes no=true/\gW cu (aa S.nodes no).uid=true/\jQ S cu no=aa S.nodes no):=gI;go_enter Tryz.func83,Tryz.ntmps83;go_wp2_with fail;refine (tZ B g S cu cg no _ (h.ext E0) hd).mono ?_;rintro e w2 ⟨A,c,rfl,iC,b2⟩;have E2:=E0.trans b2;obtain⟨m,hmm⟩:=ar (jQ S cu no);obtain⟨x,hx⟩:=ar (ew S cu no);rw [<-hmm]at iC oH;rw [<-hx]at hm oH;rw [<-hmm,<-hx];clear hmm hx
 by_cases hx0:x=0
 ·have t0 : (x == 0)=true:=by simpa using hx0
  have oG:(x != 0)=false:=by simpa using hx0
  obtain ⟨hi,ho,oI⟩:=oH.out hx0;have cL:Hid (eJ S cu no mode=if mode<0\/1023<mode\/m.kind=3 then 1 else 0):=by show _=_;rw[hm.out,if_neg (by simpa using hx0),<-oI]
  have AE:m.no=no:=by rw[oI];exact (aj hi).2.1
  have CZ:=zH oI;have sC:=zH AE;clear hm oH oI AE hi ho hx0
  by_cases c1:mode<0
  ·have t1:decide (mode<0)=true:=decide_eq_true c1
   have hE:Hid (eJ S cu no mode=1):=by show _=_;rw[cL.out,if_pos (.inl c1)]
   clear cL c1;go_wp2_with fail;go_ret;rw [hE.out];exact fB h (E2.alloc _) (by unfold d_;rw[hE.out];rfl)
  ·have t1:decide (mode<0)=false:=decide_eq_false c1
   by_cases c2:1023<mode
   ·have t2:decide (1023<mode)=true:=decide_eq_true c2
    have hE:Hid (eJ S cu no mode=1):=by show _=_;rw[cL.out,if_pos (.inr (.inl c2))]
    clear cL c1 c2;go_wp2_with fail;go_ret;rw [hE.out];exact fB h (E2.alloc _) (by unfold d_;rw[hE.out];rfl)
   ·have t2:decide (1023<mode)=false:=decide_eq_false c2
    by_cases c3:m.kind=3
    ·have t3:(m.kind == 3)=true:=by simpa using c3
     have hE:Hid (eJ S cu no mode=1):=by show _=_;rw[cL.out,if_pos (.inr (.inr c3))]
     clear cL c1 c2 c3;go_wp2_with fail;go_ret;rw [hE.out];exact fB h (E2.alloc _) (by unfold d_;rw[hE.out];rfl)
    ·have t3:(m.kind == 3)=false:=by simpa using c3
     have hE:Hid (eJ S cu no mode=0):=by show _=_;rw[cL.out,if_neg (by rintro (g'|g'|g')<;>contradiction)]
     clear cL c1 c2 c3;go_upto_region 7 with fail;obtain ⟨n,hn⟩:∃n:ai,n={m with mode:=mode,ctime:=now}:=⟨_,rfl⟩;obtain⟨V,hV⟩:=ar (w2.alloc (.cells #[n.no,n.dev,n.kind,n.mode,n.uid,n.gid,n.mtime,n.ctime,n.ah,n.up,bs n.data,.slice A n.ae.length c] 58));have lZ:=hV;rw [hn]at lZ;rw [<-lZ];have NV:Has V w2.heap.size (.cells #[n.no,n.dev,n.kind,n.mode,n.uid,n.gid,n.mtime,n.ctime,n.ah,n.up,bs n.data,.slice A n.ae.length c] 58):=by rw[hV];exact Has.new _ _
     have EV:Ext w V:=by rw[hV];exact E2.alloc _
     have yx:ay V B n A c:=((iC.ext (by rw[hV];exact (Ext.refl _).alloc _)).same (by rw[hn]));have HN:=zH hn;clear hV lZ hn;have KV:=h.ext EV;obtain ⟨_,_,cd,hW,_⟩:=id KV;have v0:V.cell? ⟨g.bW,0,none⟩=some (.pointer (some ⟨g.bT,0,none⟩)):=hW.cell 0;have vz:=hW.lt;obtain ⟨x0,x1,x2,x3,x4,x5,x6,x7,x8,x9,sy,sA⟩:=NV.dS;have zN:=NV.lt;go_still_tail 5,(by kernel_rfl);change wpList _ _ _ _ _ V.drew;go_wp2_with fail;have ED:Ext V V.drew:=(Ext.refl _).drew;refine (mV B g S n A c _ (KV.ext ED) hu (yx.ext ED)).mono ?_;rintro e w5 ⟨rfl,K5,O5⟩;go_wp2_with fail;go_ret;rw [hE.out];refine ⟨rfl,?_,Only.pre (EV.trans ED) O5⟩;have:d_ S cu now no mode=aK S n:=by unfold d_;rw[if_pos hE.out,HN.out,CZ.out]
     rw [this];exact K5
 ·have t0:(x == 0)=false:=by simpa using hx0
  have oG:(x != 0)=true:=by simpa using hx0
  have hE:Hid (eJ S cu no mode=x):=by show _=_;rw[hm.out,if_pos hx0]
  have hT:Hid (d_ S cu now no mode=S):=by show _=_;unfold d_;rw[if_neg (by rw[hE.out];exact hx0)]
  clear hm oH hx0;go_wp2_with fail;go_ret;rw [hE.out];exact fB h (E2.alloc _) hT.out
def J7 (S:ac):Prop:=∀n∈S.nodes,fY S.af n.dev=true/\n.data.length<=1048576
def Rk (n:ai) (dl:Int):Int:=bC n.kind dl-bC n.kind n.data.length
def AF (S:ac) (no dl:Int):Int:=
 if aQ S.nodes no=false then 5 else eu (i_ S.af (aa S.nodes no).dev).q (Rk (aa S.nodes no) dl) 0
def jp (S:ac) (no:Int) (data:List UInt8):ac:=
 if AF S no data.length=0 then⟨bn S.nodes {aa S.nodes no with data:=data},ja S.af (aa S.nodes no).dev (aT (i_ S.af (aa S.nodes no).dev).q (Rk (aa S.nodes no) data.length) 0),S.last⟩ else S
theorem J8 {α:Type} (l:List α) (x:α) (k:Nat) (h:k<l.length) (h':k<(l++[x]).length):(l++[x])[k]'h'=l[k]:=List.getElem_append_left h
theorem Gp {α:Type} (l:List α) (x:α) (k:Nat) (h:k=l.length) (h':k<(l++[x]).length):(l++[x])[k]'h'=x:=by subst h;simp
theorem SN (l:List eC) (i:Nat) (f:eC->eC) (k:Nat) (h:k<(l.modify i f).length) (h2:k<l.length):(l.modify i f)[k]'h=if i=k then f l[k] else l[k]:=List.getElem_modify ..
theorem dy {S:ac} (hu:aI S.nodes S.last) {n:ai} (h:n∈S.nodes):aa S.nodes n.no=n/\aQ S.nodes n.no=true:=by
 obtain ⟨k,hk,rfl⟩:=List.getElem_of_mem h;have e:=yi hu hk;exact ⟨by unfold aa;rw[e];rfl,by unfold aQ;rw[e];rfl⟩
def aas (S:ac) (no:Int):Prop:=∃m∈S.nodes,m.no=no/\m.kind=1
structure Grown (S:ac):Prop where
 fC:Good S
 names:EU S
 on:J7 S
 first:∃m∈S.nodes,m.no=1
 one:∀n∈S.nodes,n.no=1->n.kind=1/\n.dev=1/\n.up=1
 SP:∀n∈S.nodes,n.kind=1->n.up<=n.no/\∃m∈S.nodes,m.no=n.up
 oJ:∀h:0<S.af.length,S.af[0].root=1
 kZ:∀k,(h:k+1<S.af.length)->S.af[k+1].over<S.af[k+1].root/\aas S S.af[k+1].over
theorem bh {S:ac} {no:Int} (h:(aa S.nodes no).kind=1):aQ S.nodes no=true/\(aa S.nodes no).no=no/\aa S.nodes no∈S.nodes:=by
 cases hi:aQ S.nodes no
 ·rw[(aV hi).1]at h;cases h
 ·exact⟨rfl,(aj hi).2⟩
theorem Grown.aat {S:ac} (h:Grown S):aE S.af 1=1:=by
 unfold aE fY i_;have:=h.fC.af;rw [if_pos (by simp;omega)];simp only[show ((1:Int)-1).toNat=0 by decide];rw [List.getD_eq_getElem?_getD,List.getElem?_eq_getElem this];exact h.oJ this
theorem yy {ds:List eC} {d:Int} {q:dH} {k:Nat} (hk:k<(ja ds d q).length) (hk2:k<ds.length):(ja ds d q)[k].root=ds[k].root/\(ja ds d q)[k].over=ds[k].over:=by
 have e:=SN ds (d-1).toNat (fun x=>{x with q:=q}) k hk hk2;exact ⟨(congrArg eC.root e).trans (by split<;>rfl),(congrArg eC.over e).trans (by split<;>rfl)⟩
theorem yA {ns:List ai} {n m:ai} (h:m∈ns):(if m.no=n.no then n else m)∈bn ns n:=by
 unfold bn;rw [List.mem_map];refine ⟨m,h,?_⟩
 by_cases e:m.no=n.no
 ·rw[if_pos e,if_pos (by simpa using e)]
 ·rw[if_neg e,if_neg (by simpa using e)]
theorem gX {l:List ax} {x y:ax} (h:y∈dk l x):y∈l\/y=x:=by
 unfold dk iw i6 at h;simp only[List.mem_append,List.mem_singleton,List.mem_filter]at h;rcases h with (h|h)|h
 ·exact .inl h.1
 ·exact .inr h
 ·exact .inl h.1
theorem pQ {l:List UInt8} (h:cj l=0):l≠[]/\l.length<=255:=by
 unfold cj at h;split at h
 ·cases h
 ·split at h
  ·cases h
  ·rename_i h1 h2
   exact ⟨fun e=>h1 (.inl e),by omega⟩
theorem AG {b n:Int} (hl:cA b n=true):Grown (cr cE 0 b n):=by
 refine ⟨CU hl,?_,?_,⟨bo cE,List.mem_append_right _ (List.mem_singleton.2 rfl),rfl⟩,?_,?_,fun _=>rfl,?_⟩
 ·intro m hm x hx
  simp [cr,cE]at hm;subst hm;cases hx
 ·intro m hm
  simp [cr,cE]at hm;subst hm;exact ⟨rfl,by decide⟩
 ·intro m hm _
  simp [cr,cE]at hm;subst hm;exact⟨rfl,rfl,rfl⟩
 ·intro m hm _
  simp [cr,cE]at hm;subst hm;exact ⟨Int.le_refl _,_,List.mem_append_right _ (List.mem_singleton.2 rfl),rfl⟩
 ·intro k hk
  have:k+1<1:=hk;omega
end Go.Proofs.YtblbohcaphcobaaGreatDoor
