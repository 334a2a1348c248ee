import Derived.Test.YtblbohcaphcobaaGreatDoorBunD
import Derived.Test.YtblbohcaphcobaaGreatDoorBunA
import Derived.Test.YtblbohcaphcobaaGreatDoorBunB
import Derived.Test.YtblbohcaphcobaaGreatDoorShelf
import Derived.Test.YtblbohcaphcobaaGreatDoorBunC
import Derived.Lib.Builder
import Derived.Lib.AppendStr
set_option maxHeartbeats 4000000
set_option maxRecDepth 100000
namespace Go.Proofs.YtblbohcaphcobaaGreatDoor
section
open Go.ChangeShapes Go.WideShapes Go.ChangeAt Go.RowKit
def a_ (S:aa) (no:Int):Int:=
 if (ac S.nodes no).kind=1 then
  if aB S.ag (ac S.nodes no).dev=no/\1<(ac S.nodes no).dev then (ac S.nodes (iO S.ag (ac S.nodes no).dev).over).up else (ac S.nodes no).up
 else 0
theorem Cl (B : Nat) (g:bJ) (S:aa) (no:Int) (w:World) (h:ep w B g S) (hd:0<S.ag.length) (vc:S.ag.length<=8) (hr:iP S.ag) (hu:aD S.nodes S.last) :
    Calls Tryz.prog 164 #[.pointer (some ⟨g.bW,0,none⟩),.int .i64 no] w (aH w (.int .i64 (a_ S no))):=by
  have hm:Hid (a_ S no=if (ac S.nodes no).kind=1 then if aB S.ag (ac S.nodes no).dev=no/\1<(ac S.nodes no).dev then (ac S.nodes (iO S.ag (ac S.nodes no).dev).over).up else (ac S.nodes no).up else 0):=by show _=_;rfl
  go_enter Tryz.func164,Tryz.ntmps164
  go_wp2_with fail
  refine (il B g S _ h hd).mono ?_
  rintro e w1 ⟨rfl,b1⟩
  obtain ⟨_,_,cd,hW,_⟩:=id (h.ext b1)
  have v0:w1.cell? ⟨g.bW,0,none⟩=some (.pointer (some ⟨g.bT,0,none⟩)):=hW.cell 0
  have z1:=hW.lt
  clear hW
  go_wp2_with fail
  refine (fU B g.bT g.bM S.nodes S.last no _ (h.ext b1).2.1).mono ?_
  rintro e w2 ⟨A,c,rfl,ir,b2⟩
  have hik:aK S.nodes no=false->(ac S.nodes no).kind=0:=fun hi=>by rw[(aZ hi).1];rfl
  have NF:aK S.nodes no=true->1<=no:=fun hi=>by
    obtain ⟨k,hk,e⟩:=lN.1 hi
    have:=(hu.2 _ (List.getElem_mem hk)).1
    omega
  obtain⟨n,hn⟩:=aq (ac S.nodes no)
  obtain⟨i,hi⟩:=aq (aK S.nodes no)
  rw [<-hn]at ir hm hik
  rw [<-hi]at hik NF
  rw [<-hn,<-hi]
  obtain⟨W3,dg⟩:=aq (w2.alloc (.cells #[n.no,n.dev,n.kind,n.mode,n.uid,n.gid,n.mtime,n.ctime,n.ah,n.up,bs n.data,.slice A n.af.length c] 58))
  have km:Ext w2 W3:=by rw[dg];exact (Ext.refl _).alloc _
  obtain ⟨b5,kF⟩:∃b,b=w2.heap.size:=⟨_,rfl⟩
  have N3:Has W3 b5 (.cells #[n.no,n.dev,n.kind,n.mode,n.uid,n.gid,n.mtime,n.ctime,n.ah,n.up,bs n.data,.slice A n.af.length c] 58):=by rw[dg,kF];exact Has.new _ _
  have E3:Ext w W3:=(b1.trans b2).trans km
  have uY:w.heap.size<=b5:=by rw[kF];exact (b1.trans b2).size
  have HIK:=zH hik
  have ZM:=zH NF
  have u9:=zH hn
  clear v0 hn hi hik NF
  go_upto_region 4 with fail
  rw [<-dg]
  rw [<-kF]
  clear dg kF
  have k2:W3.cell? ⟨b5,2,none⟩=some (.int .i64 n.kind):=N3.cell 2
  have k1:W3.cell? ⟨b5,1,none⟩=some (.int .i64 n.dev):=N3.cell 1
  have kz:=N3.lt
  cases i
  · have hE:Hid (a_ S no=0):=by show _=_;rw[hm.out,if_neg (by rw[HIK.out rfl];decide)]
    clear hm
    go_wp2_with fail
    go_ret
    exact aH.mk (aA hE.out.symm) E3
  · by_cases c1 : n.kind = 1
    · have t1 : (n.kind == 1)=true:=by simpa using c1
      have vr:(n.kind != 1)=false:=by simpa using c1
      have aU:=ZM.out rfl
      have cF:Hid (a_ S no=if aB S.ag n.dev=no/\1<n.dev then (ac S.nodes (iO S.ag n.dev).over).up else n.up):=by show _=_;rw[hm.out,if_pos c1]
      clear hm c1
      go_wp2_with fail
      refine (im B g S n.dev _ (h.ext E3) hd (by omega)).mono ?_
      rintro e w4 ⟨rfl,b4⟩
      have N4:=N3.ext b4
      have E4:=E3.trans b4
      clear k1 k2 kz
      have k1:w4.cell? ⟨b5,1,none⟩=some (.int .i64 n.dev):=N4.cell 1
      have kz:=N4.lt
      by_cases c2:aB S.ag n.dev=no
      · have t2 : (aB S.ag n.dev == no)=true:=by simpa using c2
        by_cases c3:1<n.dev
        · have t3 : decide (1<n.dev)=true:=decide_eq_true c3
          have C23:=zH (And.intro c2 c3)
          clear c2 c3
          go_upto_region 7 with fail
          obtain ⟨c2,c3⟩:=C23.out
          rcases dQ hr n.dev with⟨r1,_⟩|⟨k,hk,e1,_,e3,_,_,_⟩
          · exfalso;omega
          have mC:Hid (a_ S no=(ac S.nodes S.ag[k].over).up):=by show _=_;rw[cF.out,if_pos ⟨c2,c3⟩,e3]
          clear cF
          obtain⟨ov,Ib⟩:=aq (S.ag[k].over)
          obtain ⟨A7,c7,xH,C7⟩:=tc B g S ov w4 (h.ext E4)
          obtain ⟨_,_,ZN,fO,UH⟩:=id (h.ext E4)
          obtain ⟨_,d1,_,_,_,_⟩:=iJ.at_ UH k hk
          rw [<-Ib]at d1 mC
          obtain⟨m,UI⟩:=aq (ac S.nodes ov)
          obtain⟨i7,hi7⟩:=aq (aK S.nodes ov)
          rw [<-UI]at xH C7 mC
          rw [<-hi7]at C7
          have ZO:=zH C7
          have Fu:=(h.ext E4).lt
          have u0:∀u:Gr w4,u.w.cell? ⟨g.bW,0,none⟩=some (.pointer (some ⟨g.bT,0,none⟩)):=Gr.cell fO.lt (fO.cell 0)
          have u1:∀u:Gr w4,u.w.cell? ⟨g.bW,1,none⟩=some (.slice (some ⟨g.bD,0,none⟩) S.ag.length ZN):=Gr.cell fO.lt (fO.cell 1)
          have u5:∀u:Gr w4,u.w.cell? ⟨b5,1,none⟩=some (.int .i64 n.dev):=Gr.cell N4.lt (N4.cell 1)
          have ud:∀u:Gr w4,u.w.cell? ⟨g.bD,k*6+1,none⟩=some (.int .i64 ov):=Gr.cell Fu.2.2.2 d1
          have y0:(0:Int)<=n.dev-1:=by rw[e1];omega
          have y1:n.dev-1<(S.ag.length:Int):=by rw[e1];omega
          have y2:(n.dev-1).toNat=k:=by rw[e1];omega
          have y3:IntKind.i64.wrap (n.dev-1)=n.dev-1:=bQ (by omega) (by omega)
          have y4:1<=n.dev:=by omega
          have y5:n.dev.toNat-1=k:=by omega
          clear d1 fO UH e1 e3 Ib UI hi7 C7 k1 c2 c3 t2 t3
          go_cut [] (fun wc=>∃w0,Ext w4 w0/\Only [b5] w0 wc/\Has wc b5 (.cells #[m.no,m.dev,m.kind,m.mode,m.uid,m.gid,m.mtime,m.ctime,m.ah,m.up,bs m.data,.slice A7 m.af.length c7] 58))
          case first =>
            refine mJ w4 18 5 52 b5 m n A7 A c7 c N4 _ (by kernel_rfl) (by kernel_rfl) rfl rfl ((Ext.refl _).drew) ?_
            simp only[List.take_succ_cons,List.take_zero,List.drop_succ_cons,List.drop_nil]
            repeat (refine di (fun K hK=>?_)
                    go_simp
                    first
                      | (refine hK _ ?_;clear hK K)
                      | (apply Exists.intro
                         refine ⟨fun u=>?_,hK _ ?_⟩
                         ((with_reducible refine (ZO.out _ (Gr.h _)).mono ?_);rintro e w'' ⟨rfl,hx⟩;exact⟨rfl,hx⟩)
                         clear hK K))
            refine bG ⟨rfl,rfl,?_⟩
            refine bG ?_
            intro w' hw'
            go_wp2_with fail
            go_meet
            exact hw'
          case rest =>
          obtain ⟨w0,ZP,O,N5⟩:=hcut
          have k9:wc.cell? ⟨b5,9,none⟩=some (.int .i64 m.up):=N5.cell 9
          have kz5:=N5.lt
          clear kz y0 y1 y2 y3 y4 y5 u0 u1 u5 ud
          go_wp2_with fail
          go_ret
          exact aH.mk (aA mC.out.symm) (O.after (E4.trans ZP) (by intro x hx;rw[List.mem_singleton]at hx;omega))
        · have t3:decide (1<n.dev)=false:=decide_eq_false c3
          have hE:Hid (a_ S no=n.up):=by show _=_;rw[cF.out,if_neg (fun h=>c3 h.2)]
          have k9:w4.cell? ⟨b5,9,none⟩=some (.int .i64 n.up):=N4.cell 9
          clear cF c2 c3
          go_wp2_with fail
          go_ret
          exact aH.mk (aA hE.out.symm) E4
      · have t2:(aB S.ag n.dev == no)=false:=by simpa using c2
        have hE:Hid (a_ S no=n.up):=by show _=_;rw[cF.out,if_neg (fun h=>c2 h.1)]
        have k9:w4.cell? ⟨b5,9,none⟩=some (.int .i64 n.up):=N4.cell 9
        clear cF c2
        go_wp2_with fail
        go_ret
        exact aH.mk (aA hE.out.symm) E4
    · have t1:(n.kind == 1)=false:=by simpa using c1
      have vr:(n.kind != 1)=true:=by simpa using c1
      have hE:Hid (a_ S no=0):=by show _=_;rw[hm.out,if_neg c1]
      clear hm c1
      go_wp2_with fail
      go_ret
      exact aH.mk (aA hE.out.symm) E3
theorem Cm (B : Nat) (g:cE) (S:aa) (X:cQ) (no:Int) (w:World) (h:gU w B g S X) (hl:S.nodes.length<=1000000) (vc:S.ag.length<=8) (hr:iP S.ag) (hu:aD S.nodes S.last) :
    Calls Tryz.prog 37 #[.pointer (some ⟨g.bF,0,none⟩),.int .i64 no] w (aH w (.int .i64 (a_ S no))):=by
  have hm:Hid (a_ S no=if (ac S.nodes no).kind=1 then if aB S.ag (ac S.nodes no).dev=no/\1<(ac S.nodes no).dev then (ac S.nodes (iO S.ag (ac S.nodes no).dev).over).up else (ac S.nodes no).up else 0):=by show _=_;rfl
  go_enter Tryz.func37,Tryz.ntmps37
  go_wp2_with fail
  refine (fc B g S X no _ h hl hu).mono ?_
  rintro e w2 ⟨A,c,rfl,ir,b2⟩
  have NF:(ac S.nodes no).kind=1->1<=no:=fun hk=>by
    obtain ⟨k,hk,e⟩:=lN.1 (IZ hk)
    have:=(hu.2 _ (List.getElem_mem hk)).1
    omega
  obtain⟨n,hn⟩:=aq (ac S.nodes no)
  rw [<-hn]at ir hm NF
  rw [<-hn]
  obtain⟨W3,dg⟩:=aq (w2.alloc (.cells #[n.no,n.dev,n.kind,n.mode,n.uid,n.gid,n.mtime,n.ctime,n.ah,n.up,bs n.data,.slice A n.af.length c] 58))
  have km:Ext w2 W3:=by rw[dg];exact (Ext.refl _).alloc _
  obtain ⟨b5,kF⟩:∃b,b=w2.heap.size:=⟨_,rfl⟩
  have N3:Has W3 b5 (.cells #[n.no,n.dev,n.kind,n.mode,n.uid,n.gid,n.mtime,n.ctime,n.ah,n.up,bs n.data,.slice A n.af.length c] 58):=by rw[dg,kF];exact Has.new _ _
  have E3:Ext w W3:=b2.trans km
  have uY:w.heap.size<=b5:=by rw[kF];exact b2.size
  have ZM:=zH NF
  have u9:=zH hn
  clear hn NF
  go_upto_region 2 with fail
  rw [<-dg]
  rw [<-kF]
  clear dg kF
  have k2:W3.cell? ⟨b5,2,none⟩=some (.int .i64 n.kind):=N3.cell 2
  have k1:W3.cell? ⟨b5,1,none⟩=some (.int .i64 n.dev):=N3.cell 1
  have kz:=N3.lt
  by_cases c1:n.kind=1
  · have t1 : (n.kind == 1)=true:=by simpa using c1
    have vr:(n.kind != 1)=false:=by simpa using c1
    have aU:=ZM.out c1
    have cF:Hid (a_ S no=if aB S.ag n.dev=no/\1<n.dev then (ac S.nodes (iO S.ag n.dev).over).up else n.up):=by show _=_;rw[hm.out,if_pos c1]
    clear hm c1
    by_cases c3:1<n.dev
    · have t3 : decide (1<n.dev)=true:=decide_eq_true c3
      have C3:=zH c3
      go_wp2_with fail
      refine (jk B g S X n.dev _ (h.ext E3) (by omega)).mono ?_
      rintro e w4 ⟨rfl,b4⟩
      have N4:=N3.ext b4
      have E4:=E3.trans b4
      clear k1 k2 kz
      have k1:w4.cell? ⟨b5,1,none⟩=some (.int .i64 n.dev):=N4.cell 1
      have kz:=N4.lt
      by_cases c2:aB S.ag n.dev=no
      · have t2 : (aB S.ag n.dev == no)=true:=by simpa using c2
        have C2:=zH c2
        clear c2 c3
        go_upto_region 5 with fail
        have c2:=C2.out
        have c3:=C3.out
        rcases dQ hr n.dev with⟨r1,_⟩|⟨k,hk,e1,_,e3,_,_,_⟩
        · exfalso;omega
        have mC:Hid (a_ S no=(ac S.nodes S.ag[k].over).up):=by show _=_;rw[cF.out,if_pos ⟨c2,c3⟩,e3]
        obtain⟨ov,Ib⟩:=aq (S.ag[k].over)
        obtain ⟨A7,c7,xH,C7⟩:=zD B g S X ov w4 (h.ext E4) hl hu
        obtain ⟨_,ZA,ZN,fO,_,UH⟩:=id (h.ext E4)
        obtain ⟨_,d1,_,_,_,_⟩:=iJ.at_ UH k hk
        rw [<-Ib]at d1 mC
        obtain⟨m,UI⟩:=aq (ac S.nodes ov)
        rw [<-UI]at xH C7 mC
        have ZO:=zH C7
        have Fu:=(h.ext E4).lt
        have u1:∀u:Gr w4,u.w.cell? ⟨g.bF,1,none⟩=some (.slice (some ⟨g.bE,0,none⟩) S.ag.length ZN):=Gr.cell fO.lt (fO.cell 1)
        have u5:∀u:Gr w4,u.w.cell? ⟨b5,1,none⟩=some (.int .i64 n.dev):=Gr.cell N4.lt (N4.cell 1)
        have ud:∀u:Gr w4,u.w.cell? ⟨g.bE,k*6+1,none⟩=some (.int .i64 ov):=Gr.cell Fu.2.2 d1
        have y0:(0:Int)<=n.dev-1:=by rw[e1];omega
        have y1:n.dev-1<(S.ag.length:Int):=by rw[e1];omega
        have y2:(n.dev-1).toNat=k:=by rw[e1];omega
        have y3:IntKind.i64.wrap (n.dev-1)=n.dev-1:=bQ (by omega) (by omega)
        have y4:1<=n.dev:=by omega
        have y5:n.dev.toNat-1=k:=by omega
        clear d1 fO UH e1 e3 Ib UI C7 k1 c2 c3 t2 t3 cF
        go_cut [] (fun wc=>∃w0,Ext w4 w0/\Only [b5] w0 wc/\Has wc b5 (.cells #[m.no,m.dev,m.kind,m.mode,m.uid,m.gid,m.mtime,m.ctime,m.ah,m.up,bs m.data,.slice A7 m.af.length c7] 58))
        case first =>
          refine mJ w4 12 5 34 b5 m n A7 A c7 c N4 _ (by kernel_rfl) (by kernel_rfl) rfl rfl ((Ext.refl _).drew) ?_
          simp only[List.take_succ_cons,List.take_zero,List.drop_succ_cons,List.drop_nil]
          repeat (refine di (fun K hK=>?_)
                  go_simp
                  first
                    | (refine hK _ ?_;clear hK K)
                    | (apply Exists.intro
                       refine ⟨fun u=>?_,hK _ ?_⟩
                       ((with_reducible refine (ZO.out _ (Gr.h _)).mono ?_);rintro e w'' ⟨rfl,hx⟩;exact⟨rfl,hx⟩)
                       clear hK K))
          refine bG ⟨rfl,rfl,?_⟩
          refine bG ?_
          intro w' hw'
          go_wp2_with fail
          go_meet
          exact hw'
        case rest =>
        obtain ⟨w0,ZP,O,N5⟩:=hcut
        have k9:wc.cell? ⟨b5,9,none⟩=some (.int .i64 m.up):=N5.cell 9
        have kz5:=N5.lt
        clear kz y0 y1 y2 y3 y4 y5 u1 u5 ud
        go_wp2_with fail
        go_ret
        exact aH.mk (aA mC.out.symm) (O.after (E4.trans ZP) (by intro x hx;rw[List.mem_singleton]at hx;omega))
      · have t2:(aB S.ag n.dev == no)=false:=by simpa using c2
        have hE:Hid (a_ S no=n.up):=by show _=_;rw[cF.out,if_neg (fun h=>c2 h.1)]
        have k9:w4.cell? ⟨b5,9,none⟩=some (.int .i64 n.up):=N4.cell 9
        clear cF c2 c3
        go_wp2_with fail
        go_ret
        exact aH.mk (aA hE.out.symm) E4
    · have t3:decide (1<n.dev)=false:=decide_eq_false c3
      have hE:Hid (a_ S no=n.up):=by show _=_;rw[cF.out,if_neg (fun h=>c3 h.2)]
      have k9:W3.cell? ⟨b5,9,none⟩=some (.int .i64 n.up):=N3.cell 9
      clear cF c3
      go_wp2_with fail
      go_ret
      exact aH.mk (aA hE.out.symm) E3
  · have t1:(n.kind == 1)=false:=by simpa using c1
    have vr:(n.kind != 1)=true:=by simpa using c1
    have hE:Hid (a_ S no=0):=by show _=_;rw[hm.out,if_neg c1]
    clear hm c1
    go_wp2_with fail
    go_ret
    exact aH.mk (aA hE.out.symm) E3
def wiF (S:aa) (base:Int):Nat->Int->Bool
 | 0,_=>false
 | f+1,no=>if no=0 then false else if no=base then true else wiF S base f (a_ S no)
structure tf (S:aa) (r:Int->Nat):Prop where
 step:∀no,no≠0->a_ S no≠0->a_ S no≠no->r (a_ S no)<r no
 top:∀no,r no<=S.nodes.length
def NG (S:aa) (no base:Int):Bool:=wiF S base (S.nodes.length+1) no
theorem Cn (a0 a1 a2 a3 a4 a5 a6 a7 a8 a9 BJ yU:Value) (w:World) :
  (Instr.field 58 (.agg #[a0,a1,a2,a3,a4,a5,a6,a7,a8,a9,BJ,yU]) 11).run Tryz.prog w=.ok yU w/\(Instr.field 58 (.agg #[a0,a1,a2,a3,a4,a5,a6,a7,a8,a9,BJ,yU]) 2).run Tryz.prog w=.ok a2 w:=by
 constructor<;>kernel_rfl
def Eh (S:aa):Prop:=∀n∈S.nodes,∀x∈n.af,x.1≠[]/\x.1.length<=255
theorem Ext.grownBy {w w':World} (h:Ext w w'):w.grownBy w' none:=⟨h.os,h.tape,h.output,h.size,fun k hk _=>Below.block h k hk⟩
attribute [local irreducible] wpQuiet
end
open Go.ChangeShapes Go.WideShapes Go.ChangeAt Go.RowKit
def cH (m:Int) (i:Nat):Bool:=m / 2 ^ i % 2 == 1
theorem NH (mode:Int) (i:Nat):(bits BinOp.and IntKind.i64 (mode / 2 ^ i) 1 == 1)=cH mode i:=by rw[Uk];rfl
def Co (m want:Int):Bool:=bits .and .i64 (bits .and .i64 m want) 7 == bits .and .i64 want 7
def part (u g uid gid mode:Int):Int:=if u=uid then mode / 64 else if g=gid then mode / 8 else mode
def fy (u g uid gid mode want:Int):Bool:=if u=0 then true else Co (part u g uid gid mode) want
theorem Cp (g uid gid mode want:Int) {u:Int} (h:u=0):fy u g uid gid mode want=true:=by unfold fy;rw[if_pos h]
theorem Q5 (g gid mode want:Int) {u uid:Int} (h:¬u=0) (h1:u=uid):fy u g uid gid mode want=Co (mode / 64) want:=by unfold fy part;rw[if_neg h,if_pos h1]
theorem Q6 (mode want:Int) {u g uid gid:Int} (h:¬u=0) (h1:¬u=uid) (h2:g=gid):fy u g uid gid mode want=Co (mode / 8) want:=by unfold fy part;rw[if_neg h,if_neg h1,if_pos h2]
theorem Q7 (mode want:Int) {u g uid gid:Int} (h:¬u=0) (h1:¬u=uid) (h2:¬g=gid):fy u g uid gid mode want=Co mode want:=by unfold fy part;rw[if_neg h,if_neg h1,if_neg h2]
theorem NI (u g uid gid mode want:Int) (w:World) :
  Calls Tryz.prog 167 #[.agg #[.int .i64 u,.int .i64 g],.int .i64 uid,.int .i64 gid,.int .i64 mode,.int .i64 want] w (aH w (.bool (fy u g uid gid mode want))):=by
 by_cases h0:u=0
 ·have oH:=zH (Cp g uid gid mode want h0)
  have b0:(u == 0)=true:=beq_iff_eq.2 h0;clear h0;go_enter Tryz.func167,Tryz.ntmps167;go_wp2_with fail;go_ret;exact aH.mk (by rw[oH.out];rfl) ((Ext.refl _).alloc _)
 ·have b0:(u == 0)=false:=beq_eq_false_iff_ne.2 h0
  by_cases h1:u=uid
  ·have oH:=zH (Q5 g gid mode want h0 h1)
   have b1:(u == uid)=true:=beq_iff_eq.2 h1;clear h0 h1;go_enter Tryz.func167,Tryz.ntmps167;go_wp2_with fail;go_ret;exact aH.mk (by rw[oH.out];rfl) ((Ext.refl _).alloc _)
  ·have b1:(u == uid)=false:=beq_eq_false_iff_ne.2 h1
   by_cases h2:g=gid
   ·have oH:=zH (Q6 mode want h0 h1 h2)
    have b2:(g == gid)=true:=beq_iff_eq.2 h2;clear h0 h1 h2;go_enter Tryz.func167,Tryz.ntmps167;go_wp2_with fail;go_ret;exact aH.mk (by rw[oH.out];rfl) ((Ext.refl _).alloc _)
   ·have oH:=zH (Q7 mode want h0 h1 h2)
    have b2:(g == gid)=false:=beq_eq_false_iff_ne.2 h2;clear h0 h1 h2;go_enter Tryz.func167,Tryz.ntmps167;go_wp2_with fail;go_ret;exact aH.mk (by rw[oH.out];rfl) ((Ext.refl _).alloc _)
theorem qt (x:Int) (i:Nat) (hi:i<=2):cH x i=((x % 18446744073709551616).toNat).testBit i:=by
 have:i=0\/i=1\/i=2:=by omega
 rw [Nat.testBit_eq_decide_div_mod_eq];unfold cH;rcases this with rfl|rfl|rfl<;>rw[Bool.eq_iff_iff,beq_iff_eq,decide_eq_true_iff]<;>omega
theorem wC (x:Int):x % 8=(if cH x 0=true then 1 else 0)+(if cH x 1=true then 2 else 0)+(if cH x 2=true then 4 else 0):=by
 unfold cH;simp only[beq_iff_eq];split<;>split<;>split<;>omega
theorem I2 (n:Nat) (h:n<2 ^ 64):((((n:Int)+9223372036854775808) % 18446744073709551616-9223372036854775808) % 18446744073709551616).toNat=n:=by omega
theorem qu (x y:Int) (i:Nat) (hi:i<=2):cH (bits .and .i64 x y) i=(cH x i&&cH y i):=by
 have h:bits .and .i64 x y=IntKind.i64.wrap ((BitVec.ofInt 64 x &&& BitVec.ofInt 64 y).toNat:Int):=rfl;rw [h,IntKind.wrap_i64,qt _ i hi,qt x i hi,qt y i hi,<-Nat.testBit_and,<-jw,<-jw x,<-jw y,<-BitVec.toNat_and];rw [jw,I2 _ (BitVec.ofInt 64 x &&& BitVec.ofInt 64 y).isLt]
theorem I3 (m want:Int):Co m want=((!cH want 0 || cH m 0)&&((!cH want 1 || cH m 1)&&(!cH want 2 || cH m 2))):=by
 unfold Co;rw [PB,PB,wC,wC want,qu _ _ 0 (by omega),qu _ _ 1 (by omega),qu _ _ 2 (by omega)]
 cases cH want 0<;>cases cH want 1<;>cases cH want 2<;>cases cH m 0<;>cases cH m 1<;>cases cH m 2<;>rfl
theorem qv (m:Int) (k i:Nat):cH (m / 2 ^ k) i=cH m (k+i):=by
 unfold cH;rw [Int.pow_add,Int.ediv_ediv_of_nonneg (Int.le_of_lt (Int.pow_pos (by decide)))]
theorem I4 (m:Int) (k:Nat):m / 2 ^ k / 2=m / 2 ^ (k+1):=by
 rw [Int.ediv_ediv_of_nonneg (Int.le_of_lt (Int.pow_pos (by decide))),Int.pow_succ]
theorem I5 (mode:Int) (n:Nat) (w:World) (hn:n<=1000):Calls Tryz.prog 123 #[.int .i64 mode,.int .i64 n] w (aH w (.bool (cH mode n))):=by
 go_enter Tryz.func123,Tryz.ntmps123;go_wp2_with fail;go_loop [0,5] (fun m i=>∃k:Nat,k<=n/\i=.int .i64 k/\m=.int .i64 (mode / 2 ^ k)) (fun _ i=>n-(intOf i).toNat)
 case atStart=>exact⟨0,by omega,rfl,by simp⟩
 case round =>
  obtain ⟨k,hk,rfl,rfl⟩:=hrel
  by_cases hlt:k<n
  ·have hd:=zH (I4 mode k)
   go_wp2_with fail;go_round
   case rel=>exact⟨k+1,by omega,by go_num,by rw[<-hd.out]⟩
   case measure=>simp[intOf];omega
  ·obtain rfl:k=n:=by omega
   have oH:=zH (NH mode k);go_wp2_with fail;go_ret;exact aH.mk (by rw[oH.out];rfl) (Ext.refl _)
theorem lA (mode at_:Int) (w:World) (h0:0<=at_) (h1:at_<=1000):Calls Tryz.prog 123 #[.int .i64 mode,.int .i64 at_] w (aH w (.bool (cH mode at_.toNat))):=by
 obtain ⟨n,rfl⟩:=Int.eq_ofNat_of_zero_le h0;exact I5 mode n w (by omega)
def lB (m want:Int) (f:Nat) (k:Nat):Bool:=(List.range k).all fun j=>!cH want j || cH m (f+j)
theorem iw (m want:Int) (f k:Nat):lB m want f (k+1)=(lB m want f k&&(!cH want k || cH m (f+k))):=by
 simp [lB,List.range_succ]
theorem Q8 (m want:Int) (f:Nat):lB m want f 3=Co (m / 2 ^ f) want:=by
 rw [I3,qv,qv,qv];simp[lB,List.range,List.range.loop]
theorem wD (m want:Int) (f:Nat):∀k j,lB m want f (k+j)=true->lB m want f k=true
 | _,0,h=>h
 | k,j+1,h=>wD m want f k j (by rw[<-Nat.add_assoc,iw]at h;simp at h;exact h.1)
def jm (u g uid gid:Int):Nat:=if u=uid then 6 else if g=gid then 3 else 0
theorem zI (u g uid gid mode want:Int):fy u g uid gid mode want=(u == 0 || lB mode want (jm u g uid gid) 3):=by
 rw [Q8];unfold fy part jm
 by_cases h0:u=0
 ·rw[if_pos h0];simp[h0]
 ·rw [if_neg h0,beq_eq_false_iff_ne.2 h0,Bool.false_or]
  split
  ·rfl
  ·split<;>simp
theorem qw {u g uid gid mode want:Int} (h:lB mode want (jm u g uid gid) 3=true):fy u g uid gid mode want=true:=by rw[zI,h];simp
theorem qx {u g uid gid mode want:Int} {k:Nat} (hk:k<3) (h:(cH want k&&!cH mode (jm u g uid gid+k))=true):fy u g uid gid mode want=(u == 0):=by
 have : lB mode want (jm u g uid gid) 3=false:=by
  cases hh:lB mode want (jm u g uid gid) 3 with
  | false=>rfl
  | true =>
   have h1:=wD mode want (jm u g uid gid) (k+1) (3-(k+1)) (by rw[show k+1+(3-(k+1))=3 from by omega];exact hh);rw [iw]at h1;simp at h1 h;rcases h1.2 with h2|h2
   ·rw[h.1]at h2;cases h2
   ·rw[h.2]at h2;cases h2
 rw [zI,this];simp
theorem I6 (u g uid gid mode want:Int) (w:World) :
  Calls Tryz.prog 97 #[.agg #[.int .i64 u,.int .i64 g],.int .i64 uid,.int .i64 gid,.int .i64 mode,.int .i64 want] w (aH w (.bool (fy u g uid gid mode want))):=by
 have A0:Has (w.alloc (.cells #[.int .i64 u,.int .i64 g] 27)) w.heap.size (.cells #[.int .i64 u,.int .i64 g] 27):=Has.new _ _
 by_cases h1:u=uid
 ·have I7 : Hid (jm u g uid gid=6):=by show _=_;unfold jm;rw[if_pos h1]
  have b1:(u == uid)=true:=beq_iff_eq.2 h1;clear h1;go_enter Tryz.func97,Tryz.ntmps97;go_wp2_with fail;go_loopw [12] (fun i wr=>∃k:Nat,k<=3/\i=.int .i64 k/\Hid (lB mode want 6 k=true)/\Ext (w.alloc (.cells #[.int .i64 u,.int .i64 g] 27)) wr) (fun i _=>3-(intOf i).toNat)
  case atStart=>exact⟨0,by omega,rfl,rfl,Ext.refl _⟩
  case round =>
   obtain ⟨k,hk,rfl,hr,hx⟩:=hrel
   by_cases hlt:k<3
   ·go_wp2_with fail
    refine (lA _ _ _ (by omega) (by omega)).mono ?_;rintro e w1 ⟨rfl,b1⟩;rw [Int.toNat_natCast]
    cases hw:cH want k with
    | false =>
     have hs:Hid (lB mode want 6 (k+1)=true):=by show _=_;rw[iw,hr.out,hw];rfl
     clear hw;go_wp2_with fail;go_roundw
     case rel=>exact⟨k+1,by omega,by go_num,hs,hx.trans b1⟩
     case measure=>simp[intOf];omega
    | true =>
     have hW:Hid (cH want k=true):=hw;clear hw;go_wp2_with fail;refine (lA _ _ _ (by omega) (by omega)).mono ?_;rintro e w2 ⟨rfl,b2⟩;rw [show (6+(k:Int)).toNat=6+k from by omega]
     cases hm:cH mode (6+k) with
     | true =>
      have hs:Hid (lB mode want 6 (k+1)=true):=by show _=_;rw[iw,hr.out,hm];simp
      clear hm;go_wp2_with fail;go_roundw
      case rel=>exact⟨k+1,by omega,by go_num,hs,(hx.trans b1).trans b2⟩
      case measure=>simp[intOf];omega
     | false =>
      have hs:Hid (fy u g uid gid mode want=(u == 0)):=by show _=_;refine qx (k:=k) hlt ?_;rw[I7.out,hW.out,hm];rfl
      clear hm;have A1:=((A0.ext hx).ext b1).ext b2;have hc:∀i,w2.cell? ⟨w.heap.size,i,none⟩=_:=fun i=>A1.cell i
      go_wp2_with fail;go_ret;exact aH.mk (by rw[hs.out];rfl) ((((Ext.refl _).alloc _).trans hx).trans (b1.trans b2))
   ·obtain rfl:k=3:=by omega
    have hs:Hid (fy u g uid gid mode want=true):=by show _=_;refine qw ?_;rw[I7.out];exact hr.out
    go_wp2_with fail;go_ret;exact aH.mk (by rw[hs.out];rfl) (((Ext.refl _).alloc _).trans hx)
 ·have b1 : (u == uid)=false:=beq_eq_false_iff_ne.2 h1
  by_cases h2:g=gid
  ·have I7 : Hid (jm u g uid gid=3):=by show _=_;unfold jm;rw[if_neg h1,if_pos h2]
   have b2:(g == gid)=true:=beq_iff_eq.2 h2;clear h1 h2;go_enter Tryz.func97,Tryz.ntmps97;go_wp2_with fail;go_loopw [12] (fun i wr=>∃k:Nat,k<=3/\i=.int .i64 k/\Hid (lB mode want 3 k=true)/\Ext (w.alloc (.cells #[.int .i64 u,.int .i64 g] 27)) wr) (fun i _=>3-(intOf i).toNat)
   case atStart=>exact⟨0,by omega,rfl,rfl,Ext.refl _⟩
   case round =>
    obtain ⟨k,hk,rfl,hr,hx⟩:=hrel
    by_cases hlt:k<3
    ·go_wp2_with fail
     refine (lA _ _ _ (by omega) (by omega)).mono ?_;rintro e w1 ⟨rfl,b1⟩;rw [Int.toNat_natCast]
     cases hw:cH want k with
     | false =>
      have hs:Hid (lB mode want 3 (k+1)=true):=by show _=_;rw[iw,hr.out,hw];rfl
      clear hw;go_wp2_with fail;go_roundw
      case rel=>exact⟨k+1,by omega,by go_num,hs,hx.trans b1⟩
      case measure=>simp[intOf];omega
     | true =>
      have hW:Hid (cH want k=true):=hw;clear hw;go_wp2_with fail;refine (lA _ _ _ (by omega) (by omega)).mono ?_;rintro e w2 ⟨rfl,b2⟩;rw [show (3+(k:Int)).toNat=3+k from by omega]
      cases hm:cH mode (3+k) with
      | true =>
       have hs:Hid (lB mode want 3 (k+1)=true):=by show _=_;rw[iw,hr.out,hm];simp
       clear hm;go_wp2_with fail;go_roundw
       case rel=>exact⟨k+1,by omega,by go_num,hs,(hx.trans b1).trans b2⟩
       case measure=>simp[intOf];omega
      | false =>
       have hs:Hid (fy u g uid gid mode want=(u == 0)):=by show _=_;refine qx (k:=k) hlt ?_;rw[I7.out,hW.out,hm];rfl
       clear hm;have A1:=((A0.ext hx).ext b1).ext b2;have hc:∀i,w2.cell? ⟨w.heap.size,i,none⟩=_:=fun i=>A1.cell i
       go_wp2_with fail;go_ret;exact aH.mk (by rw[hs.out];rfl) ((((Ext.refl _).alloc _).trans hx).trans (b1.trans b2))
    ·obtain rfl:k=3:=by omega
     have hs:Hid (fy u g uid gid mode want=true):=by show _=_;refine qw ?_;rw[I7.out];exact hr.out
     go_wp2_with fail;go_ret;exact aH.mk (by rw[hs.out];rfl) (((Ext.refl _).alloc _).trans hx)
  ·have I7 : Hid (jm u g uid gid=0):=by show _=_;unfold jm;rw[if_neg h1,if_neg h2]
   have b2:(g == gid)=false:=beq_eq_false_iff_ne.2 h2;clear h1 h2;go_enter Tryz.func97,Tryz.ntmps97;go_wp2_with fail;go_loopw [12] (fun i wr=>∃k:Nat,k<=3/\i=.int .i64 k/\Hid (lB mode want 0 k=true)/\Ext (w.alloc (.cells #[.int .i64 u,.int .i64 g] 27)) wr) (fun i _=>3-(intOf i).toNat)
   case atStart=>exact⟨0,by omega,rfl,rfl,Ext.refl _⟩
   case round =>
    obtain ⟨k,hk,rfl,hr,hx⟩:=hrel
    by_cases hlt:k<3
    ·go_wp2_with fail
     refine (lA _ _ _ (by omega) (by omega)).mono ?_;rintro e w1 ⟨rfl,b1⟩;rw [Int.toNat_natCast]
     cases hw:cH want k with
     | false =>
      have hs:Hid (lB mode want 0 (k+1)=true):=by show _=_;rw[iw,hr.out,hw];rfl
      clear hw;go_wp2_with fail;go_roundw
      case rel=>exact⟨k+1,by omega,by go_num,hs,hx.trans b1⟩
      case measure=>simp[intOf];omega
     | true =>
      have hW:Hid (cH want k=true):=hw;clear hw;go_wp2_with fail;refine (lA _ _ _ (by omega) (by omega)).mono ?_;rintro e w2 ⟨rfl,b2⟩;rw [show ((k:Int)).toNat=0+k from by omega]
      cases hm:cH mode (0+k) with
      | true =>
       have hs:Hid (lB mode want 0 (k+1)=true):=by show _=_;rw[iw,hr.out,hm];simp
       clear hm;go_wp2_with fail;go_roundw
       case rel=>exact⟨k+1,by omega,by go_num,hs,(hx.trans b1).trans b2⟩
       case measure=>simp[intOf];omega
      | false =>
       have hs:Hid (fy u g uid gid mode want=(u == 0)):=by show _=_;refine qx (k:=k) hlt ?_;rw[I7.out,hW.out,hm];rfl
       clear hm;have A1:=((A0.ext hx).ext b1).ext b2;have hc:∀i,w2.cell? ⟨w.heap.size,i,none⟩=_:=fun i=>A1.cell i
       go_wp2_with fail;go_ret;exact aH.mk (by rw[hs.out];rfl) ((((Ext.refl _).alloc _).trans hx).trans (b1.trans b2))
    ·obtain rfl:k=3:=by omega
     have hs:Hid (fy u g uid gid mode want=true):=by show _=_;refine qw ?_;rw[I7.out];exact hr.out
     go_wp2_with fail;go_ret;exact aH.mk (by rw[hs.out];rfl) (((Ext.refl _).alloc _).trans hx)
def mK (u g:Int):Bool:=decide (0<=u)&&(decide (u<=2147483648)&&(decide (0<=g)&&decide (g<=2147483648)))
def gO (u o:Int):Bool:=u == 0 || u == o
def PP (u UJ do_ no:Int):Bool:=!cH UJ 9 || (gO u do_ || gO u no)
theorem wE (u g:Int) (w:World):Calls Tryz.prog 115 #[.agg #[.int .i64 u,.int .i64 g]] w (aH w (.bool (mK u g))):=by
 go_enter Tryz.func115,Tryz.ntmps115;go_wp2_with fail
 all_goals
  go_ret;exact aH.mk (by simp[mK, *]<;>omega) ((Ext.refl _).alloc _)
theorem Fv (u g:Int) (x0 x1 x2 x3:Value) (o:Int) (x5 x6 x7 x8 x9 rO rP:Value) (w:World) :
  Calls Tryz.prog 145 #[.agg #[.int .i64 u,.int .i64 g],.agg #[x0,x1,x2,x3,.int .i64 o,x5,x6,x7,x8,x9,rO,rP]] w (aH w (.bool (gO u o))):=by
 cases h:(u == 0) with
 | true =>
  have hf:Hid (gO u o=true):=by show _=_;unfold gO;rw[h];rfl
  go_enter Tryz.func145,Tryz.ntmps145;go_wp2_with fail;go_ret;exact aH.mk (by rw[hf.out];rfl) (((Ext.refl _).alloc _).alloc _)
 | false =>
  have hf:Hid (gO u o=(u == o)):=by show _=_;unfold gO;rw[h];rfl
  go_enter Tryz.func145,Tryz.ntmps145;go_wp2_with fail;go_ret;exact aH.mk (by rw[hf.out];rfl) (((Ext.refl _).alloc _).alloc _)
theorem qy (u g:Int) (x0 x1 x2:Value) (mode o gr:Int) (x6 x7 x8 x9 rO rP:Value) (want:Int) (w:World) :
  Calls Tryz.prog 149 #[.agg #[.int .i64 u,.int .i64 g],.agg #[x0,x1,x2,.int .i64 mode,.int .i64 o,.int .i64 gr,x6,x7,x8,x9,rO,rP],.int .i64 want] w (aH w (.bool (fy u g o gr mode want))):=by
 go_enter Tryz.func149,Tryz.ntmps149;go_wp2_with fail;refine (NI _ _ _ _ _ _ _).mono ?_;rintro e w1 ⟨rfl,b1⟩;go_wp2_with fail;go_ret;exact aH.mk rfl ((((Ext.refl _).alloc _).alloc _).trans b1)
theorem Fw (u g:Int) (w:World):Calls Tryz.prog 93 #[.agg #[.int .i64 u,.int .i64 g]] w (aH w (.bool (mK u g))):=by
 go_enter Tryz.func93,Tryz.ntmps93;go_wp2_with fail
 all_goals
  go_ret;exact aH.mk (by simp[mK, *]<;>omega) ((Ext.refl _).alloc _)
theorem Fx (u g:Int) (x0 x1 x2 x3:Value) (o:Int) (x5 x6 x7 x8 x9 rO rP:Value) (w:World) :
  Calls Tryz.prog 122 #[.agg #[.int .i64 u,.int .i64 g],.agg #[x0,x1,x2,x3,.int .i64 o,x5,x6,x7,x8,x9,rO,rP]] w (aH w (.bool (gO u o))):=by
 cases h:(u == 0) with
 | true =>
  have hf:Hid (gO u o=true):=by show _=_;unfold gO;rw[h];rfl
  go_enter Tryz.func122,Tryz.ntmps122;go_wp2_with fail;go_ret;exact aH.mk (by rw[hf.out];rfl) (((Ext.refl _).alloc _).alloc _)
 | false =>
  have hf:Hid (gO u o=(u == o)):=by show _=_;unfold gO;rw[h];rfl
  go_enter Tryz.func122,Tryz.ntmps122;go_wp2_with fail;go_ret;exact aH.mk (by rw[hf.out];rfl) (((Ext.refl _).alloc _).alloc _)
theorem wF (u g:Int) (x0 x1 x2:Value) (mode o gr:Int) (x6 x7 x8 x9 rO rP:Value) (want:Int) (w:World) :
  Calls Tryz.prog 62 #[.agg #[.int .i64 u,.int .i64 g],.agg #[x0,x1,x2,.int .i64 mode,.int .i64 o,.int .i64 gr,x6,x7,x8,x9,rO,rP],.int .i64 want] w (aH w (.bool (fy u g o gr mode want))):=by
 go_enter Tryz.func62,Tryz.ntmps62;go_wp2_with fail;refine (I6 _ _ _ _ _ _ _).mono ?_;rintro e w1 ⟨rfl,b1⟩;go_wp2_with fail;go_ret;exact aH.mk rfl ((((Ext.refl _).alloc _).alloc _).trans b1)
def dW (S:aa) (cu no:Int):Int:=if aK S.nodes no=false then 5 else if gO cu (ac S.nodes no).uid=false then 4 else 0
def jJ (S:aa) (cu no:Int):ai:=if dW S cu no=0 then ac S.nodes no else ae
def ZQ (w:World) (B:Nat) (S:aa) (cu no:Int) (e:Ending) (w':World):Prop:=
 ∃ A c,e=.returned (.tuple #[.agg #[.int .i64 (jJ S cu no).no,.int .i64 (jJ S cu no).dev,.int .i64 (jJ S cu no).kind,.int .i64 (jJ S cu no).mode,.int .i64 (jJ S cu no).uid,.int .i64 (jJ S cu no).gid,.int .i64 (jJ S cu no).mtime,.int .i64 (jJ S cu no).ctime,.int .i64 (jJ S cu no).ah,.int .i64 (jJ S cu no).up,.string (bs (jJ S cu no).data),.slice A (jJ S cu no).af.length c],.int .i64 (dW S cu no)])/\ax w' B (jJ S cu no) A c/\Ext w w'
theorem tg (B:Nat) (g:bJ) (S:aa) (cu cg no:Int) (w:World) (h:ep w B g S) (hd:0<S.ag.length):Calls Tryz.prog 114 #[.pointer (some ⟨g.bW,0,none⟩),.agg #[cu,cg],.int .i64 no] w (ZQ w B S cu no):=by
 have h0:=h;obtain ⟨h1,h2,cd,h3,h4⟩:=h;have jF:((S.ag.length:Int) == 0)=false:=by simpa using (show ¬(S.ag.length:Int)=0 by omega)
 have E0:Ext w ((w.alloc (.cells #[cu,cg] 27)).alloc (.cells #[.int .i64 0,.int .i64 0,.int .i64 0,.int .i64 0,.int .i64 0,.int .i64 0,.int .i64 0,.int .i64 0,.int .i64 0,.int .i64 0,.string ⟨#[]⟩,.slice none 0 0] 58)):=((Ext.refl _).alloc _).alloc _;go_enter Tryz.func114,Tryz.ntmps114;go_wp2_with fail;refine (lw B g S _ (h0.ext E0) hd).mono ?_;rintro e w1 ⟨rfl,b1⟩;have E1:=E0.trans b1;have R0:=Has.new (w.alloc (.cells #[cu,cg] 27)) (.cells #[ae.no,ae.dev,ae.kind,ae.mode,ae.uid,ae.gid,ae.mtime,ae.ctime,ae.ah,ae.up,bs ae.data,.slice none ae.af.length 0] 58);rw [World.size_alloc]at R0;have R1:=R0.ext b1;have C1:=((Has.new w (.cells #[cu,cg] 27)).alloc (.cells #[.int .i64 0,.int .i64 0,.int .i64 0,.int .i64 0,.int .i64 0,.int .i64 0,.int .i64 0,.int .i64 0,.int .i64 0,.int .i64 0,.string ⟨#[]⟩,.slice none 0 0] 58)).ext b1;have v0:w1.cell? ⟨g.bW,0,none⟩=some (.pointer (some ⟨g.bT,0,none⟩)):=(h3.ext E1).cell 0;have z1:=(h3.ext E1).lt;go_wp2_with fail;refine (fU B g.bT g.bM S.nodes S.last no _ (h2.ext E1)).mono ?_;rintro e w2 ⟨A2,k2,rfl,ir,b2⟩;have R2:=R1.ext b2;have C2:=C1.ext b2;have hm:Hid (dW S cu no=if aK S.nodes no=false then 5 else if gO cu (ac S.nodes no).uid=false then 4 else 0):=by show _=_;rfl
 have cF:Hid (jJ S cu no=if dW S cu no=0 then ac S.nodes no else ae):=by show _=_;rfl
 obtain⟨m,hmm⟩:=aq (ac S.nodes no);rw [<-hmm]at ir hm cF|-;obtain⟨W3,dg⟩:=aq (w2.alloc (.cells #[m.no,m.dev,m.kind,m.mode,m.uid,m.gid,m.mtime,m.ctime,m.ah,m.up,bs m.data,.slice A2 m.af.length k2] 58));have km:Ext w2 W3:=by rw[dg];exact (Ext.refl _).alloc _
 have N3:Has W3 w2.heap.size (.cells #[m.no,m.dev,m.kind,m.mode,m.uid,m.gid,m.mtime,m.ctime,m.ah,m.up,bs m.data,.slice A2 m.af.length k2] 58):=by rw[dg];exact Has.new _ _
 have R3:=R2.ext km;have C3:=C2.ext km;have E3:Ext w W3:=(E1.trans b2).trans km;obtain⟨b8,fP⟩:=aq w2.heap.size;obtain⟨i,hi⟩:=aq (aK S.nodes no);rw [<-hi]at hm|-;clear v0 hmm hi;go_upto_region 4 with fail;rw [<-dg];rw [<-fP]at N3|-;clear dg fP
 cases i
 ·have hE:Hid (dW S cu no=5):=by show _=_;rw[hm.out];rfl
  have hN:Hid (jJ S cu no=ae):=by show _=_;rw[cF.out,hE.out];rfl
  clear hm cF;go_wp2_with (refine ay rfl _ _ rfl (w.heap.size+1) ae none 0 rfl rfl R3 ?_;intro w4 R4 O4);refine bodyPost_ret (v:=.tuple #[.agg #[ae.no,ae.dev,ae.kind,ae.mode,ae.uid,ae.gid,ae.mtime,ae.ctime,ae.ah,ae.up,bs ae.data,.slice none ae.af.length 0],.int .i64 5]) (dm Tryz.results114 _ _ (w.heap.size+1) ae none 0 _ rfl rfl R4) rfl ?_;exact ⟨none,0,by rw[hE.out,hN.out],by rw[hN.out];exact ax.zero _ _,O4.after E3 (by simp)⟩
 ·obtain⟨u,hu⟩:=aq (gO cu m.uid)
  rw [<-hu]at hm;have HU:=zH hu;have c0:W3.cell? ⟨w.heap.size,0,none⟩=some (.int .i64 cu):=C3.cell 0;have c1:W3.cell? ⟨w.heap.size,1,none⟩=some (.int .i64 cg):=C3.cell 1;have zc:=C3.lt;clear hu;go_wp2_with (refine aO rfl _ rfl b8 m A2 k2 rfl N3 ?_);refine (Fv cu cg _ _ _ _ m.uid _ _ _ _ _ _ _ _).mono ?_;rw [<-HU.out];rintro e w4 ⟨rfl,b4⟩;have R4:=R3.ext b4;have N4:=N3.ext b4
  cases u
  ·have hE:Hid (dW S cu no=4):=by show _=_;rw[hm.out];rfl
   have hN:Hid (jJ S cu no=ae):=by show _=_;rw[cF.out,hE.out];rfl
   clear hm cF;go_wp2_with (refine ay rfl _ _ rfl (w.heap.size+1) ae none 0 rfl rfl R4 ?_;intro w5 R5 O5);refine bodyPost_ret (v:=.tuple #[.agg #[ae.no,ae.dev,ae.kind,ae.mode,ae.uid,ae.gid,ae.mtime,ae.ctime,ae.ah,ae.up,bs ae.data,.slice none ae.af.length 0],.int .i64 4]) (dm Tryz.results114 _ _ (w.heap.size+1) ae none 0 _ rfl rfl R5) rfl ?_;exact ⟨none,0,by rw[hE.out,hN.out],by rw[hN.out];exact ax.zero _ _,O5.after (E3.trans b4) (by simp)⟩
  ·have hE:Hid (dW S cu no=0):=by show _=_;rw[hm.out];rfl
   have hN:Hid (jJ S cu no=m):=by show _=_;rw[cF.out,hE.out];rfl
   clear hm cF c0 c1;go_wp2_with (first|(refine aO rfl _ rfl b8 m A2 k2 rfl N4 ?_)|(refine ay rfl _ _ rfl (w.heap.size+1) m A2 k2 rfl rfl R4 ?_;intro w5 R5 O5));refine bodyPost_ret (v:=.tuple #[.agg #[m.no,m.dev,m.kind,m.mode,m.uid,m.gid,m.mtime,m.ctime,m.ah,m.up,bs m.data,.slice A2 m.af.length k2],.int .i64 0]) (dm Tryz.results114 _ _ (w.heap.size+1) m A2 k2 _ rfl rfl R5) rfl ?_;have xN:ax w5 B m A2 k2:=(((ir.ext km).ext b4).only O5 (by
    intro b hb;rw [List.mem_singleton]at hb;subst hb;exact ⟨by have:=h1;have:=h0.lt.1;omega,R4.fT (by decide)⟩))
   exact ⟨A2,k2,by rw[hE.out,hN.out],by rw[hN.out];exact xN,O5.after (E3.trans b4) (by simp)⟩
def vu (w:World) (B:Nat) (g:bJ) (T:aa) (x:Int) (e:Ending) (w':World):Prop:=
 e = .returned (.int .i64 x)/\ep w' B g T/\Only g.list w w'
theorem fg {w w':World} {B:Nat} {g:bJ} {S T:aa} {x:Int} (h:ep w B g S) (hE:Ext w w') (hT:T=S):vu w B g T x (.returned (.int .i64 x)) w':=
 ⟨rfl,by rw[hT];exact h.ext hE,Only.av hE⟩
def eN (S:aa) (cu no mode:Int):Int:=if dW S cu no≠0 then dW S cu no else if mode<0\/1023<mode\/(ac S.nodes no).kind=3 then 1 else 0
def dX (S:aa) (cu now no mode:Int):aa:=if eN S cu no mode=0 then aJ S {ac S.nodes no with mode:=mode,ctime:=now} else S
theorem gv {S:aa} {cu no:Int} (h:dW S cu no=0):aK S.nodes no=true/\gO cu (ac S.nodes no).uid=true/\jJ S cu no=ac S.nodes no:=by
 refine ⟨?_,?_,by unfold jJ;rw[if_pos h]⟩
 ·cases hi:aK S.nodes no
  ·unfold dW at h;rw[if_pos hi]at h;cases h
  ·rfl
 ·unfold dW at h
  split at h
  ·cases h
  ·split at h
   ·cases h
   ·rename_i h2;simpa using h2
theorem mL (B:Nat) (g:bJ) (S:aa) (n:ai) (A:Option Addr) (c:Nat) (w:World) (h:ep w B g S) (hu:aD S.nodes S.last) (hn:ax w B n A c) :
  Calls Tryz.prog 116 #[.pointer (some ⟨g.bT,0,none⟩),.agg #[n.no,n.dev,n.kind,n.mode,n.uid,n.gid,n.mtime,n.ctime,n.ah,n.up,bs n.data,.slice A n.af.length c]] w (fun e w'=>e=.returned (.bool (aK S.nodes n.no))/\ep w' B g (aJ S n)/\Only g.list w w'):=by
 refine (zl B g.bT g.bM S.nodes S.last n A c w h.2.1 hu hn).mono ?_;rintro e w' ⟨rfl,h2,h3⟩;exact ⟨rfl,ep.table h h3 h2,h3.mono (by simp)⟩
theorem Fy (B:Nat) (g:bJ) (S:aa) (cu cg now no mode:Int) (w:World) (h:ep w B g S) (hd:0<S.ag.length) (hu:aD S.nodes S.last) :
  Calls Tryz.prog 83 #[.pointer (some ⟨g.bW,0,none⟩),.agg #[cu,cg],.int .i64 now,.int .i64 no,.int .i64 mode] w (vu w B g (dX S cu now no mode) (eN S cu no mode)):=by
 have E0:Ext w (w.alloc (.cells #[cu,cg] 27)):=(Ext.refl _).alloc _;have hm:Hid (eN S cu no mode=if dW S cu no≠0 then dW S cu no else if mode<0\/1023<mode\/(ac S.nodes no).kind=3 then 1 else 0):=by show _=_;rfl
 have oa:Hid (dW S cu no=0->aK S.nodes no=true/\gO cu (ac S.nodes no).uid=true/\jJ S cu no=ac S.nodes no):=gv;go_enter Tryz.func83,Tryz.ntmps83;go_wp2_with fail;refine (tg B g S cu cg no _ (h.ext E0) hd).mono ?_;rintro e w2 ⟨A,c,rfl,ir,b2⟩;have E2:=E0.trans b2;obtain⟨m,hmm⟩:=aq (jJ S cu no);obtain⟨x,hx⟩:=aq (dW S cu no);rw [<-hmm]at ir oa;rw [<-hx]at hm oa;rw [<-hmm,<-hx];clear hmm hx
 by_cases hx0:x=0
 ·have t0 : (x == 0)=true:=by simpa using hx0
  have oN:(x != 0)=false:=by simpa using hx0
  obtain ⟨hi,ho,oc⟩:=oa.out hx0;have cF:Hid (eN S cu no mode=if mode<0\/1023<mode\/m.kind=3 then 1 else 0):=by show _=_;rw[hm.out,if_neg (by simpa using hx0),<-oc]
  have zJ:m.no=no:=by rw[oc];exact (aj hi).2.1
  have Cq:=zH oc;have rR:=zH zJ;clear hm oa oc zJ hi ho hx0
  by_cases c1:mode<0
  ·have t1:decide (mode<0)=true:=decide_eq_true c1
   have hE:Hid (eN S cu no mode=1):=by show _=_;rw[cF.out,if_pos (.inl c1)]
   clear cF c1;go_wp2_with fail;go_ret;rw [hE.out];exact fg h (E2.alloc _) (by unfold dX;rw[hE.out];rfl)
  ·have t1:decide (mode<0)=false:=decide_eq_false c1
   by_cases c2:1023<mode
   ·have t2:decide (1023<mode)=true:=decide_eq_true c2
    have hE:Hid (eN S cu no mode=1):=by show _=_;rw[cF.out,if_pos (.inr (.inl c2))]
    clear cF c1 c2;go_wp2_with fail;go_ret;rw [hE.out];exact fg h (E2.alloc _) (by unfold dX;rw[hE.out];rfl)
   ·have t2:decide (1023<mode)=false:=decide_eq_false c2
    by_cases c3:m.kind=3
    ·have t3:(m.kind == 3)=true:=by simpa using c3
     have hE:Hid (eN S cu no mode=1):=by show _=_;rw[cF.out,if_pos (.inr (.inr c3))]
     clear cF c1 c2 c3;go_wp2_with fail;go_ret;rw [hE.out];exact fg h (E2.alloc _) (by unfold dX;rw[hE.out];rfl)
    ·have t3:(m.kind == 3)=false:=by simpa using c3
     have hE:Hid (eN S cu no mode=0):=by show _=_;rw[cF.out,if_neg (by rintro (g'|g'|g')<;>contradiction)]
     clear cF c1 c2 c3;go_upto_region 7 with fail;obtain ⟨n,hn⟩:∃n:ai,n={m with mode:=mode,ctime:=now}:=⟨_,rfl⟩;obtain⟨V,hV⟩:=aq (w2.alloc (.cells #[n.no,n.dev,n.kind,n.mode,n.uid,n.gid,n.mtime,n.ctime,n.ah,n.up,bs n.data,.slice A n.af.length c] 58));have lI:=hV;rw [hn]at lI;rw [<-lI];have NV:Has V w2.heap.size (.cells #[n.no,n.dev,n.kind,n.mode,n.uid,n.gid,n.mtime,n.ctime,n.ah,n.up,bs n.data,.slice A n.af.length c] 58):=by rw[hV];exact Has.new _ _
     have EV:Ext w V:=by rw[hV];exact E2.alloc _
     have xO:ax V B n A c:=((ir.ext (by rw[hV];exact (Ext.refl _).alloc _)).same (by rw[hn]));have HN:=zH hn;clear hV lI hn;have KV:=h.ext EV;obtain ⟨_,_,cd,hW,_⟩:=id KV;have v0:V.cell? ⟨g.bW,0,none⟩=some (.pointer (some ⟨g.bT,0,none⟩)):=hW.cell 0;have vz:=hW.lt;obtain ⟨x0,x1,x2,x3,x4,x5,x6,x7,x8,x9,rO,rP⟩:=NV.dP;have zN:=NV.lt;go_still_tail 5,(by kernel_rfl);change wpList _ _ _ _ _ V.drew;go_wp2_with fail;have ED:Ext V V.drew:=(Ext.refl _).drew;refine (mL B g S n A c _ (KV.ext ED) hu (xO.ext ED)).mono ?_;rintro e w5 ⟨rfl,K5,O5⟩;go_wp2_with fail;go_ret;rw [hE.out];refine ⟨rfl,?_,Only.pre (EV.trans ED) O5⟩;have:dX S cu now no mode=aJ S n:=by unfold dX;rw[if_pos hE.out,HN.out,Cq.out]
     rw [this];exact K5
 ·have t0:(x == 0)=false:=by simpa using hx0
  have oN:(x != 0)=true:=by simpa using hx0
  have hE:Hid (eN S cu no mode=x):=by show _=_;rw[hm.out,if_pos hx0]
  have hT:Hid (dX S cu now no mode=S):=by show _=_;unfold dX;rw[if_neg (by rw[hE.out];exact hx0)]
  clear hm oa hx0;go_wp2_with fail;go_ret;rw [hE.out];exact fg h (E2.alloc _) hT.out
def I8 (S:aa):Prop:=∀n∈S.nodes,fN S.ag n.dev=true/\n.data.length<=1048576
def PQ (n:ai) (dl:Int):Int:=bu n.kind dl-bu n.kind n.data.length
def zK (S:aa) (no dl:Int):Int:=
 if aK S.nodes no=false then 5 else dV (iO S.ag (ac S.nodes no).dev).q (PQ (ac S.nodes no) dl) 0
def jf (S:aa) (no:Int) (data:List UInt8):aa:=
 if zK S no data.length=0 then⟨cA S.nodes {ac S.nodes no with data:=data},iI S.ag (ac S.nodes no).dev (aP (iO S.ag (ac S.nodes no).dev).q (PQ (ac S.nodes no) data.length) 0),S.last⟩ else S
theorem I9 {α:Type} (l:List α) (x:α) (k:Nat) (h:k<l.length) (h':k<(l++[x]).length):(l++[x])[k]'h'=l[k]:=List.getElem_append_left h
theorem Fz {α:Type} (l:List α) (x:α) (k:Nat) (h:k=l.length) (h':k<(l++[x]).length):(l++[x])[k]'h'=x:=by subst h;simp
theorem Q9 (l:List eo) (i:Nat) (f:eo->eo) (k:Nat) (h:k<(l.modify i f).length) (h2:k<l.length):(l.modify i f)[k]'h=if i=k then f l[k] else l[k]:=List.getElem_modify ..
theorem dy {S:aa} (hu:aD S.nodes S.last) {n:ai} (h:n∈S.nodes):ac S.nodes n.no=n/\aK S.nodes n.no=true:=by
 obtain ⟨k,hk,rfl⟩:=List.getElem_of_mem h;have e:=xD hu hk;exact ⟨by unfold ac;rw[e];rfl,by unfold aK;rw[e];rfl⟩
def ZR (S:aa) (no:Int):Prop:=∃m∈S.nodes,m.no=no/\m.kind=1
structure Grown (S:aa):Prop where
 fh:Good S
 names:Eh S
 on:I8 S
 first:∃m∈S.nodes,m.no=1
 one:∀n∈S.nodes,n.no=1->n.kind=1/\n.dev=1/\n.up=1
 Q_:∀n∈S.nodes,n.kind=1->n.up<=n.no/\∃m∈S.nodes,m.no=n.up
 od:∀h:0<S.ag.length,S.ag[0].root=1
 lC:∀k,(h:k+1<S.ag.length)->S.ag[k+1].over<S.ag[k+1].root/\ZR S S.ag[k+1].over
theorem bo {S:aa} {no:Int} (h:(ac S.nodes no).kind=1):aK S.nodes no=true/\(ac S.nodes no).no=no/\ac S.nodes no∈S.nodes:=by
 cases hi:aK S.nodes no
 ·rw[(aZ hi).1]at h;cases h
 ·exact⟨rfl,(aj hi).2⟩
theorem Grown.ZS {S:aa} (h:Grown S):aB S.ag 1=1:=by
 unfold aB fN iO;have:=h.fh.ag;rw [if_pos (by simp;omega)];simp only[show ((1:Int)-1).toNat=0 by decide];rw [List.getD_eq_getElem?_getD,List.getElem?_eq_getElem this];exact h.od this
theorem xP {ds:List eo} {d:Int} {q:dw} {k:Nat} (hk:k<(iI ds d q).length) (hk2:k<ds.length):(iI ds d q)[k].root=ds[k].root/\(iI ds d q)[k].over=ds[k].over:=by
 have e:=Q9 ds (d-1).toNat (fun x=>{x with q:=q}) k hk hk2;exact ⟨(congrArg eo.root e).trans (by split<;>rfl),(congrArg eo.over e).trans (by split<;>rfl)⟩
theorem xQ {ns:List ai} {n m:ai} (h:m∈ns):(if m.no=n.no then n else m)∈cA ns n:=by
 unfold cA;rw [List.mem_map];refine ⟨m,h,?_⟩
 by_cases e:m.no=n.no
 ·rw[if_pos e,if_pos (by simpa using e)]
 ·rw[if_neg e,if_neg (by simpa using e)]
theorem fW {l:List aw} {x y:aw} (h:y∈dq l x):y∈l\/y=x:=by
 unfold dq iN je at h;simp only[List.mem_append,List.mem_singleton,List.mem_filter]at h;rcases h with (h|h)|h
 ·exact .inl h.1
 ·exact .inr h
 ·exact .inl h.1
theorem pD {l:List UInt8} (h:bX l=0):l≠[]/\l.length<=255:=by
 unfold bX at h;split at h
 ·cases h
 ·split at h
  ·cases h
  ·rename_i h1 h2
   exact ⟨fun e=>h1 (.inl e),by omega⟩
theorem zL {b n:Int} (hl:cj b n=true):Grown (b_ cB 0 b n):=by
 refine ⟨Cj hl,?_,?_,⟨bj cB,List.mem_append_right _ (List.mem_singleton.2 rfl),rfl⟩,?_,?_,fun _=>rfl,?_⟩
 ·intro m hm x hx
  simp [b_,cB]at hm;subst hm;cases hx
 ·intro m hm
  simp [b_,cB]at hm;subst hm;exact ⟨rfl,by decide⟩
 ·intro m hm _
  simp [b_,cB]at hm;subst hm;exact⟨rfl,rfl,rfl⟩
 ·intro m hm _
  simp [b_,cB]at hm;subst hm;exact ⟨Int.le_refl _,_,List.mem_append_right _ (List.mem_singleton.2 rfl),rfl⟩
 ·intro k hk
  have:k+1<1:=hk;omega
end Go.Proofs.YtblbohcaphcobaaGreatDoor
