import Derived.Test.YtpibnfdolojpcaaGreatBunD
import Derived.Test.YtpibnfdolojpcaaGreatBunA
import Derived.Test.YtpibnfdolojpcaaGreatBunB
import Derived.Test.YtpibnfdolojpcaaGreatShelf
import Derived.Test.YtpibnfdolojpcaaGreatBunC
import Derived.Lib.Builder
import Derived.Lib.AppendStr
set_option maxHeartbeats 4000000
set_option maxRecDepth 100000
namespace Go.Proofs.YtpibnfdolojpcaaGreat
section
open Go.ChangeShapes Go.WideShapes Go.ChangeAt Go.RowKit
def aZ (S:ae) (no:Int):Int:=
 if (ac S.nodes no).kind=1 then
  if aC S.ah (ac S.nodes no).dev=no/\1<(ac S.nodes no).dev then (ac S.nodes (jn S.ah (ac S.nodes no).dev).over).up else (ac S.nodes no).up
 else 0
theorem Da (B : Nat) (g:bG) (S:ae) (no:Int) (w:World) (h:dM w B g S) (hd:0<S.ah.length) (tk:S.ah.length<=8) (hr:gW S.ah) (hu:aD S.nodes S.last) :
    Calls Tryz.prog 142 #[.pointer (some ⟨g.bW,0,none⟩),.int .i64 no] w (aI w (.int .i64 (aZ S no))):=by
  have hm:Hid (aZ S no=if (ac S.nodes no).kind=1 then if aC S.ah (ac S.nodes no).dev=no/\1<(ac S.nodes no).dev then (ac S.nodes (jn S.ah (ac S.nodes no).dev).over).up else (ac S.nodes no).up else 0):=by show _=_;rfl
  go_enter Tryz.func142,Tryz.ntmps142
  go_wp2_with fail
  refine (gX B g S _ h hd).mono ?_
  rintro e w1 ⟨rfl,b1⟩
  obtain ⟨_,_,cd,hW,_⟩:=id (h.ext b1)
  have v0:w1.cell? ⟨g.bW,0,none⟩=some (.pointer (some ⟨g.bT,0,none⟩)):=hW.cell 0
  have z1:=hW.lt
  clear hW
  go_wp2_with fail
  refine (fK B g.bT g.bM S.nodes S.last no _ (h.ext b1).2.1).mono ?_
  rintro e w2 ⟨A,c,rfl,gv,b2⟩
  have hik:aJ S.nodes no=false->(ac S.nodes no).kind=0:=fun hi=>by rw[(aU hi).1];rfl
  have PL:aJ S.nodes no=true->1<=no:=fun hi=>by
    obtain ⟨k,hk,e⟩:=mr.1 hi
    have:=(hu.2 _ (List.getElem_mem hk)).1
    omega
  obtain⟨n,hn⟩:=zE (ac S.nodes no)
  obtain⟨i,hi⟩:=zE (aJ S.nodes no)
  rw [<-hn]at gv hm hik
  rw [<-hi]at hik PL
  rw [<-hn,<-hi]
  obtain⟨W3,cj⟩:=zE (w2.alloc (.cells #[n.no,n.dev,n.kind,n.mode,n.uid,n.gid,n.mtime,n.ctime,n.ag,n.up,bs n.data,.slice A n.af.length c] 66))
  have h_:Ext w2 W3:=by rw[cj];exact (Ext.refl _).alloc _
  obtain ⟨b5,gQ⟩:∃b,b=w2.heap.size:=⟨_,rfl⟩
  have N3:Has W3 b5 (.cells #[n.no,n.dev,n.kind,n.mode,n.uid,n.gid,n.mtime,n.ctime,n.ag,n.up,bs n.data,.slice A n.af.length c] 66):=by rw[cj,gQ];exact Has.new _ _
  have E3:Ext w W3:=(b1.trans b2).trans h_
  have o7:w.heap.size<=b5:=by rw[gQ];exact (b1.trans b2).size
  have HIK:=zH hik
  have HI1:=zH PL
  have nL:=zH hn
  clear v0 hn hi hik PL
  go_upto_region 4 with fail
  rw [<-cj]
  rw [<-gQ]
  clear cj gQ
  have k2:W3.cell? ⟨b5,2,none⟩=some (.int .i64 n.kind):=N3.cell 2
  have k1:W3.cell? ⟨b5,1,none⟩=some (.int .i64 n.dev):=N3.cell 1
  have kz:=N3.lt
  cases i
  · have hE:Hid (aZ S no=0):=by show _=_;rw[hm.out,if_neg (by rw[HIK.out rfl];decide)]
    clear hm
    go_wp2_with fail
    go_ret
    exact aI.mk (aB hE.out.symm) E3
  · by_cases c1 : n.kind = 1
    · have t1 : (n.kind == 1)=true:=by simpa using c1
      have rH:(n.kind != 1)=false:=by simpa using c1
      have aW:=HI1.out rfl
      have bU:Hid (aZ S no=if aC S.ah n.dev=no/\1<n.dev then (ac S.nodes (jn S.ah n.dev).over).up else n.up):=by show _=_;rw[hm.out,if_pos c1]
      clear hm c1
      go_wp2_with fail
      refine (gY B g S n.dev _ (h.ext E3) hd (by omega)).mono ?_
      rintro e w4 ⟨rfl,b4⟩
      have N4:=N3.ext b4
      have E4:=E3.trans b4
      clear k1 k2 kz
      have k1:w4.cell? ⟨b5,1,none⟩=some (.int .i64 n.dev):=N4.cell 1
      have kz:=N4.lt
      by_cases c2:aC S.ah n.dev=no
      · have t2 : (aC S.ah n.dev == no)=true:=by simpa using c2
        by_cases c3:1<n.dev
        · have t3 : decide (1<n.dev)=true:=decide_eq_true c3
          have C23:=zH (And.intro c2 c3)
          clear c2 c3
          go_upto_region 7 with fail
          obtain ⟨c2,c3⟩:=C23.out
          rcases dC hr n.dev with⟨r1,_⟩|⟨k,hk,e1,_,e3,_,_,_⟩
          · exfalso;omega
          have k7:Hid (aZ S no=(ac S.nodes S.ah[k].over).up):=by show _=_;rw[bU.out,if_pos ⟨c2,c3⟩,e3]
          clear bU
          obtain⟨ov,J8⟩:=zE (S.ah[k].over)
          obtain ⟨A7,c7,yw,C7⟩:=kS B g S ov w4 (h.ext E4)
          obtain ⟨_,_,Th,ij,RW⟩:=id (h.ext E4)
          obtain ⟨_,d1,_,_,_,_⟩:=f_.at_ RW k hk
          rw [<-J8]at d1 k7
          obtain⟨m,WV⟩:=zE (ac S.nodes ov)
          obtain⟨i7,hi7⟩:=zE (aJ S.nodes ov)
          rw [<-WV]at yw C7 k7
          rw [<-hi7]at C7
          have HC7:=zH C7
          have sO:=(h.ext E4).lt
          have u0:∀u:Gr w4,u.w.cell? ⟨g.bW,0,none⟩=some (.pointer (some ⟨g.bT,0,none⟩)):=Gr.cell ij.lt (ij.cell 0)
          have u1:∀u:Gr w4,u.w.cell? ⟨g.bW,1,none⟩=some (.slice (some ⟨g.bD,0,none⟩) S.ah.length Th):=Gr.cell ij.lt (ij.cell 1)
          have u5:∀u:Gr w4,u.w.cell? ⟨b5,1,none⟩=some (.int .i64 n.dev):=Gr.cell N4.lt (N4.cell 1)
          have ud:∀u:Gr w4,u.w.cell? ⟨g.bD,k*6+1,none⟩=some (.int .i64 ov):=Gr.cell sO.2.2.2 d1
          have y0:(0:Int)<=n.dev-1:=by rw[e1];omega
          have y1:n.dev-1<(S.ah.length:Int):=by rw[e1];omega
          have y2:(n.dev-1).toNat=k:=by rw[e1];omega
          have y3:IntKind.i64.wrap (n.dev-1)=n.dev-1:=a_ (by omega) (by omega)
          have y4:1<=n.dev:=by omega
          have y5:n.dev.toNat-1=k:=by omega
          clear d1 ij RW e1 e3 J8 WV hi7 C7 k1 c2 c3 t2 t3
          go_cut [] (fun wc=>∃w0,Ext w4 w0/\Only [b5] w0 wc/\Has wc b5 (.cells #[m.no,m.dev,m.kind,m.mode,m.uid,m.gid,m.mtime,m.ctime,m.ag,m.up,bs m.data,.slice A7 m.af.length c7] 66))
          case first =>
            refine nK w4 18 5 52 b5 m n A7 A c7 c N4 _ (by kernel_rfl) (by kernel_rfl) rfl rfl ((Ext.refl _).drew) ?_
            simp only[List.take_succ_cons,List.take_zero,List.drop_succ_cons,List.drop_nil]
            repeat (refine bJ (fun K hK=>?_)
                    go_simp
                    first
                      | (refine hK _ ?_;clear hK K)
                      | (apply Exists.intro
                         refine ⟨fun u=>?_,hK _ ?_⟩
                         ((with_reducible refine (HC7.out _ (Gr.h _)).mono ?_);rintro e w'' ⟨rfl,hx⟩;exact⟨rfl,hx⟩)
                         clear hK K))
            refine aM ⟨rfl,rfl,?_⟩
            refine aM ?_
            intro w' hw'
            go_wp2_with fail
            go_meet
            exact hw'
          case rest =>
          obtain ⟨w0,E40,O,N5⟩:=hcut
          have k9:wc.cell? ⟨b5,9,none⟩=some (.int .i64 m.up):=N5.cell 9
          have kz5:=N5.lt
          clear kz y0 y1 y2 y3 y4 y5 u0 u1 u5 ud
          go_wp2_with fail
          go_ret
          exact aI.mk (aB k7.out.symm) (O.after (E4.trans E40) (by intro x hx;rw[List.mem_singleton]at hx;omega))
        · have t3:decide (1<n.dev)=false:=decide_eq_false c3
          have hE:Hid (aZ S no=n.up):=by show _=_;rw[bU.out,if_neg (fun h=>c3 h.2)]
          have k9:w4.cell? ⟨b5,9,none⟩=some (.int .i64 n.up):=N4.cell 9
          clear bU c2 c3
          go_wp2_with fail
          go_ret
          exact aI.mk (aB hE.out.symm) E4
      · have t2:(aC S.ah n.dev == no)=false:=by simpa using c2
        have hE:Hid (aZ S no=n.up):=by show _=_;rw[bU.out,if_neg (fun h=>c2 h.1)]
        have k9:w4.cell? ⟨b5,9,none⟩=some (.int .i64 n.up):=N4.cell 9
        clear bU c2
        go_wp2_with fail
        go_ret
        exact aI.mk (aB hE.out.symm) E4
    · have t1:(n.kind == 1)=false:=by simpa using c1
      have rH:(n.kind != 1)=true:=by simpa using c1
      have hE:Hid (aZ S no=0):=by show _=_;rw[hm.out,if_neg c1]
      clear hm c1
      go_wp2_with fail
      go_ret
      exact aI.mk (aB hE.out.symm) E3
theorem Db (B : Nat) (g:cI) (S:ae) (X:cP) (no:Int) (w:World) (h:gR w B g S X) (hl:S.nodes.length<=1000000) (tk:S.ah.length<=8) (hr:gW S.ah) (hu:aD S.nodes S.last) :
    Calls Tryz.prog 83 #[.pointer (some ⟨g.bF,0,none⟩),.int .i64 no] w (aI w (.int .i64 (aZ S no))):=by
  have hm:Hid (aZ S no=if (ac S.nodes no).kind=1 then if aC S.ah (ac S.nodes no).dev=no/\1<(ac S.nodes no).dev then (ac S.nodes (jn S.ah (ac S.nodes no).dev).over).up else (ac S.nodes no).up else 0):=by show _=_;rfl
  go_enter Tryz.func83,Tryz.ntmps83
  go_wp2_with fail
  refine (eK B g S X no _ h hl hu).mono ?_
  rintro e w2 ⟨A,c,rfl,gv,b2⟩
  have PL:(ac S.nodes no).kind=1->1<=no:=fun hk=>by
    obtain ⟨k,hk,e⟩:=mr.1 (Kz hk)
    have:=(hu.2 _ (List.getElem_mem hk)).1
    omega
  obtain⟨n,hn⟩:=zE (ac S.nodes no)
  rw [<-hn]at gv hm PL
  rw [<-hn]
  obtain⟨W3,cj⟩:=zE (w2.alloc (.cells #[n.no,n.dev,n.kind,n.mode,n.uid,n.gid,n.mtime,n.ctime,n.ag,n.up,bs n.data,.slice A n.af.length c] 66))
  have h_:Ext w2 W3:=by rw[cj];exact (Ext.refl _).alloc _
  obtain ⟨b5,gQ⟩:∃b,b=w2.heap.size:=⟨_,rfl⟩
  have N3:Has W3 b5 (.cells #[n.no,n.dev,n.kind,n.mode,n.uid,n.gid,n.mtime,n.ctime,n.ag,n.up,bs n.data,.slice A n.af.length c] 66):=by rw[cj,gQ];exact Has.new _ _
  have E3:Ext w W3:=b2.trans h_
  have o7:w.heap.size<=b5:=by rw[gQ];exact b2.size
  have HI1:=zH PL
  have nL:=zH hn
  clear hn PL
  go_upto_region 2 with fail
  rw [<-cj]
  rw [<-gQ]
  clear cj gQ
  have k2:W3.cell? ⟨b5,2,none⟩=some (.int .i64 n.kind):=N3.cell 2
  have k1:W3.cell? ⟨b5,1,none⟩=some (.int .i64 n.dev):=N3.cell 1
  have kz:=N3.lt
  by_cases c1:n.kind=1
  · have t1 : (n.kind == 1)=true:=by simpa using c1
    have rH:(n.kind != 1)=false:=by simpa using c1
    have aW:=HI1.out c1
    have bU:Hid (aZ S no=if aC S.ah n.dev=no/\1<n.dev then (ac S.nodes (jn S.ah n.dev).over).up else n.up):=by show _=_;rw[hm.out,if_pos c1]
    clear hm c1
    by_cases c3:1<n.dev
    · have t3 : decide (1<n.dev)=true:=decide_eq_true c3
      have C3:=zH c3
      go_wp2_with fail
      refine (jL B g S X n.dev _ (h.ext E3) (by omega)).mono ?_
      rintro e w4 ⟨rfl,b4⟩
      have N4:=N3.ext b4
      have E4:=E3.trans b4
      clear k1 k2 kz
      have k1:w4.cell? ⟨b5,1,none⟩=some (.int .i64 n.dev):=N4.cell 1
      have kz:=N4.lt
      by_cases c2:aC S.ah n.dev=no
      · have t2 : (aC S.ah n.dev == no)=true:=by simpa using c2
        have C2:=zH c2
        clear c2 c3
        go_upto_region 5 with fail
        have c2:=C2.out
        have c3:=C3.out
        rcases dC hr n.dev with⟨r1,_⟩|⟨k,hk,e1,_,e3,_,_,_⟩
        · exfalso;omega
        have k7:Hid (aZ S no=(ac S.nodes S.ah[k].over).up):=by show _=_;rw[bU.out,if_pos ⟨c2,c3⟩,e3]
        obtain⟨ov,J8⟩:=zE (S.ah[k].over)
        obtain ⟨A7,c7,yw,C7⟩:=KE B g S X ov w4 (h.ext E4) hl hu
        obtain ⟨_,cn4,Th,ij,_,RW⟩:=id (h.ext E4)
        obtain ⟨_,d1,_,_,_,_⟩:=f_.at_ RW k hk
        rw [<-J8]at d1 k7
        obtain⟨m,WV⟩:=zE (ac S.nodes ov)
        rw [<-WV]at yw C7 k7
        have HC7:=zH C7
        have sO:=(h.ext E4).lt
        have u1:∀u:Gr w4,u.w.cell? ⟨g.bF,1,none⟩=some (.slice (some ⟨g.bE,0,none⟩) S.ah.length Th):=Gr.cell ij.lt (ij.cell 1)
        have u5:∀u:Gr w4,u.w.cell? ⟨b5,1,none⟩=some (.int .i64 n.dev):=Gr.cell N4.lt (N4.cell 1)
        have ud:∀u:Gr w4,u.w.cell? ⟨g.bE,k*6+1,none⟩=some (.int .i64 ov):=Gr.cell sO.2.2 d1
        have y0:(0:Int)<=n.dev-1:=by rw[e1];omega
        have y1:n.dev-1<(S.ah.length:Int):=by rw[e1];omega
        have y2:(n.dev-1).toNat=k:=by rw[e1];omega
        have y3:IntKind.i64.wrap (n.dev-1)=n.dev-1:=a_ (by omega) (by omega)
        have y4:1<=n.dev:=by omega
        have y5:n.dev.toNat-1=k:=by omega
        clear d1 ij RW e1 e3 J8 WV C7 k1 c2 c3 t2 t3 bU
        go_cut [] (fun wc=>∃w0,Ext w4 w0/\Only [b5] w0 wc/\Has wc b5 (.cells #[m.no,m.dev,m.kind,m.mode,m.uid,m.gid,m.mtime,m.ctime,m.ag,m.up,bs m.data,.slice A7 m.af.length c7] 66))
        case first =>
          refine nK w4 12 5 34 b5 m n A7 A c7 c N4 _ (by kernel_rfl) (by kernel_rfl) rfl rfl ((Ext.refl _).drew) ?_
          simp only[List.take_succ_cons,List.take_zero,List.drop_succ_cons,List.drop_nil]
          repeat (refine bJ (fun K hK=>?_)
                  go_simp
                  first
                    | (refine hK _ ?_;clear hK K)
                    | (apply Exists.intro
                       refine ⟨fun u=>?_,hK _ ?_⟩
                       ((with_reducible refine (HC7.out _ (Gr.h _)).mono ?_);rintro e w'' ⟨rfl,hx⟩;exact⟨rfl,hx⟩)
                       clear hK K))
          refine aM ⟨rfl,rfl,?_⟩
          refine aM ?_
          intro w' hw'
          go_wp2_with fail
          go_meet
          exact hw'
        case rest =>
        obtain ⟨w0,E40,O,N5⟩:=hcut
        have k9:wc.cell? ⟨b5,9,none⟩=some (.int .i64 m.up):=N5.cell 9
        have kz5:=N5.lt
        clear kz y0 y1 y2 y3 y4 y5 u1 u5 ud
        go_wp2_with fail
        go_ret
        exact aI.mk (aB k7.out.symm) (O.after (E4.trans E40) (by intro x hx;rw[List.mem_singleton]at hx;omega))
      · have t2:(aC S.ah n.dev == no)=false:=by simpa using c2
        have hE:Hid (aZ S no=n.up):=by show _=_;rw[bU.out,if_neg (fun h=>c2 h.1)]
        have k9:w4.cell? ⟨b5,9,none⟩=some (.int .i64 n.up):=N4.cell 9
        clear bU c2 c3
        go_wp2_with fail
        go_ret
        exact aI.mk (aB hE.out.symm) E4
    · have t3:decide (1<n.dev)=false:=decide_eq_false c3
      have hE:Hid (aZ S no=n.up):=by show _=_;rw[bU.out,if_neg (fun h=>c3 h.2)]
      have k9:W3.cell? ⟨b5,9,none⟩=some (.int .i64 n.up):=N3.cell 9
      clear bU c3
      go_wp2_with fail
      go_ret
      exact aI.mk (aB hE.out.symm) E3
  · have t1:(n.kind == 1)=false:=by simpa using c1
    have rH:(n.kind != 1)=true:=by simpa using c1
    have hE:Hid (aZ S no=0):=by show _=_;rw[hm.out,if_neg c1]
    clear hm c1
    go_wp2_with fail
    go_ret
    exact aI.mk (aB hE.out.symm) E3
def wiF (S:ae) (base:Int):Nat->Int->Bool
 | 0,_=>false
 | f+1,no=>if no=0 then false else if no=base then true else wiF S base f (aZ S no)
structure ul (S:ae) (r:Int->Nat):Prop where
 step:∀no,no≠0->aZ S no≠0->aZ S no≠no->r (aZ S no)<r no
 top:∀no,r no<=S.nodes.length
def PM (S:ae) (no base:Int):Bool:=wiF S base (S.nodes.length+1) no
theorem xd (n:ai) (A A':Option Addr) (c c':Nat) (w:World) (h:bh w A n.af) (h':bh w A' n.af) (hlen:n.af.length<=1000000) :
  Calls Tryz.prog 56 #[.agg #[n.no,n.dev,n.kind,n.mode,n.uid,n.gid,n.mtime,n.ctime,n.ag,n.up,bs n.data,.slice A n.af.length c],.agg #[n.no,n.dev,n.kind,n.mode,n.uid,n.gid,n.mtime,n.ctime,n.ag,n.up,bs n.data,.slice A' n.af.length c']] w (aI w (.bool true)):=by
 obtain⟨m,hm⟩:=zE n.af.length;obtain⟨W,hW⟩:=zE ((w.alloc (.cells #[n.no,n.dev,n.kind,n.mode,n.uid,n.gid,n.mtime,n.ctime,n.ag,n.up,bs n.data,.slice A n.af.length c] 66)).alloc (.cells #[n.no,n.dev,n.kind,n.mode,n.uid,n.gid,n.mtime,n.ctime,n.ag,n.up,bs n.data,.slice A' n.af.length c'] 66));have EW:Ext w W:=by rw[hW];exact ((Ext.refl _).alloc _).alloc _
 have B1:Has W w.heap.size (.cells #[n.no,n.dev,n.kind,n.mode,n.uid,n.gid,n.mtime,n.ctime,n.ag,n.up,bs n.data,.slice A n.af.length c] 66):=by rw[hW];exact (Has.new _ _).alloc _
 have B2:Has W (w.heap.size+1) (.cells #[n.no,n.dev,n.kind,n.mode,n.uid,n.gid,n.mtime,n.ctime,n.ag,n.up,bs n.data,.slice A' n.af.length c'] 66):=by
  rw [hW];have:=Has.new (w.alloc (.cells #[n.no,n.dev,n.kind,n.mode,n.uid,n.gid,n.mtime,n.ctime,n.ag,n.up,bs n.data,.slice A n.af.length c] 66)) (.cells #[n.no,n.dev,n.kind,n.mode,n.uid,n.gid,n.mtime,n.ctime,n.ag,n.up,bs n.data,.slice A' n.af.length c'] 66)
  rwa [World.size_alloc]at this
 go_enter Tryz.func56,Tryz.ntmps56;go_upto_region 1 with fail;rw [<-hW];obtain ⟨x0,x1,x2,x3,x4,x5,x6,x7,x8,x9,ki,ke⟩:=B1.cD;obtain ⟨y0,y1,y2,y3,y4,y5,y6,y7,y8,y9,pZ,nN⟩:=B2.cD;have z1:=B1.lt;have z2:=B2.lt;have HM:=zH hm;rw [<-hm]at ke nN hlen;clear hW hm;simp only[List.append];go_wp2_with fail;clear x0 x1 x2 x3 x4 x5 x6 x7 x8 x9 ki y0 y1 y2 y3 y4 y5 y6 y7 y8 y9 pZ;go_loopw [5] (fun i wr=>∃k:Nat,k<=m/\i=.int .i64 k/\Ext W wr) (fun i _=>m-(intOf i).toNat)
 case atStart=>exact⟨0,Nat.zero_le _,rfl,Ext.refl _⟩
 case round =>
  obtain ⟨k,hk,rfl,hE⟩:=hrel;have u11:=((B1.ext hE).cell 11);have v11:=((B2.ext hE).cell 11);simp only[gA,gC,gB]at u11 v11;rw [<-HM.out]at u11 v11;have z3:=(B1.ext hE).lt;have z4:=(B2.ext hE).lt;clear ke nN z1 z2
  by_cases hlt:(k:Int)<m
  ·have dI:k<n.af.length:=by have:=HM.out;omega
   obtain ⟨b,o,rfl,o7,ca,cb⟩:=h.at_ (EW.trans hE) k dI;obtain ⟨b',o',rfl,aco,ca',cb'⟩:=h'.at_ (EW.trans hE) k dI;obtain⟨x,hx⟩:=zE (n.af[k]);rw [<-hx]at ca cb ca' cb';clear hx;have g2:(0:Int)<=(k:Int):=by omega
   go_upto_region 6 with fail;go_quiet (fail);go_wp2_with fail;go_roundw
   case rel=>exact⟨k+1,by omega,by go_num,hE.drewN nq⟩
   case measure=>simp[intOf];omega
  ·go_wp2_with fail
   go_ret;exact aI.mk rfl (EW.trans hE)
theorem KJ (B bT bM:Nat) (ns:List ai) (last:Int) (w:World) (h:nh w B bT bM ns last):Calls Tryz.prog 49 #[.pointer (some ⟨bT,0,none⟩)] w (aI w (.int .i64 ns.length)):=by
 obtain ⟨h1,h2,h3,es,cl,h4,h5⟩:=h;have c0:=h3.cell 0;simp only[gA,gB]at c0;have z0:=h3.lt;have z1:=h4.lt;have hlen:(es.size:Int)=ns.length:=by have:=h5.1;rw[Array.length_toList]at this;omega
 have H4:w.heap[bM]?=some (.map es cl):=h4;have hr:(Builtin.len_ #[155] 3 #[.map (some bM)]).run Tryz.prog w=.ok (.int .i64 es.size) w:=by simp[Builtin.len_,run_underlying Tryz.underlying155,MapKept.run_getObj_map h4,goInt,Result.andThen]
 have HL:=zH hlen;clear h3 h4 h5 hlen H4;go_enter Tryz.func49,Tryz.ntmps49;go_wp2_with fail;go_ret;exact aI.mk (aB HL.out) (Ext.refl _)
theorem Dc (a0 a1 a2 a3 a4 a5 a6 a7 a8 a9 uk Cz:Value) (w:World) :
  (Instr.field 66 (.agg #[a0,a1,a2,a3,a4,a5,a6,a7,a8,a9,uk,Cz]) 11).run Tryz.prog w=.ok Cz w/\(Instr.field 66 (.agg #[a0,a1,a2,a3,a4,a5,a6,a7,a8,a9,uk,Cz]) 2).run Tryz.prog w=.ok a2 w:=by
 constructor<;>kernel_rfl
def yF (S:ae):Prop:=∀n∈S.nodes,∀x∈n.af,x.1≠[]/\x.1.length<=255
theorem Ext.grownBy {w w':World} (h:Ext w w'):w.grownBy w' none:=⟨h.os,h.tape,h.output,h.size,fun k hk _=>Below.block h k hk⟩
def WW (S:ae):Prop:=∀no,no≠0->aC S.ah (ac S.nodes no).dev=no->(ac S.nodes no).dev<=1->aZ S no=no
attribute [local irreducible] wpQuiet
structure WX (S:ae):Prop where
 bc:aD S.nodes S.last
 last:1<=S.last
 ah:0<S.ah.length
 eight:S.ah.length<=8
 roots:gW S.ah
 count:S.nodes.length<=S.last
 af:∀n∈S.nodes,n.af.length<=1000000
structure Fit (S:ae):Prop where
 ft:WX S
 names:yF S
 top:WW S
 one:aZ S 1=1
 Gw:∃r,ul S r
 short:S.last<=1000
theorem Fit.af {S:ae} (h:Fit S):∀n∈S.nodes,n.af.length<=1000000:=h.ft.af
end
open Go.ChangeShapes Go.WideShapes Go.ChangeAt Go.RowKit
def cF (m:Int) (i:Nat):Bool:=m / 2 ^ i % 2 == 1
theorem PN (mode:Int) (i:Nat):(bits BinOp.and IntKind.i64 (mode / 2 ^ i) 1 == 1)=cF mode i:=by rw[WB];rfl
theorem um (mode:Int):(bits BinOp.and IntKind.i64 mode 512 != 0)=cF mode 9:=by
 rw [Pe];unfold cF;have h:mode / 512 % 2=0\/mode / 512 % 2=1:=by omega
 rcases h with h|h<;>simp[h]
def yG (m want:Int):Bool:=bits .and .i64 (bits .and .i64 m want) 7 == bits .and .i64 want 7
def part (u g uid gid mode:Int):Int:=if u=uid then mode / 64 else if g=gid then mode / 8 else mode
def dX (u g uid gid mode want:Int):Bool:=if u=0 then true else yG (part u g uid gid mode) want
theorem KU (g uid gid mode want:Int) {u:Int} (h:u=0):dX u g uid gid mode want=true:=by unfold dX;rw[if_pos h]
theorem Ti (g gid mode want:Int) {u uid:Int} (h:¬u=0) (h1:u=uid):dX u g uid gid mode want=yG (mode / 64) want:=by unfold dX part;rw[if_neg h,if_pos h1]
theorem Tj (mode want:Int) {u g uid gid:Int} (h:¬u=0) (h1:¬u=uid) (h2:g=gid):dX u g uid gid mode want=yG (mode / 8) want:=by unfold dX part;rw[if_neg h,if_neg h1,if_pos h2]
theorem Tk (mode want:Int) {u g uid gid:Int} (h:¬u=0) (h1:¬u=uid) (h2:¬g=gid):dX u g uid gid mode want=yG mode want:=by unfold dX part;rw[if_neg h,if_neg h1,if_neg h2]
theorem PO (u g uid gid mode want:Int) (w:World) :
  Calls Tryz.prog 95 #[.agg #[.int .i64 u,.int .i64 g],.int .i64 uid,.int .i64 gid,.int .i64 mode,.int .i64 want] w (aI w (.bool (dX u g uid gid mode want))):=by
 by_cases h0:u=0
 ·have pE:=zH (KU g uid gid mode want h0)
  have b0:(u == 0)=true:=beq_iff_eq.2 h0;clear h0;go_enter Tryz.func95,Tryz.ntmps95;go_wp2_with fail;go_ret;exact aI.mk (by rw[pE.out];rfl) ((Ext.refl _).alloc _)
 ·have b0:(u == 0)=false:=beq_eq_false_iff_ne.2 h0
  by_cases h1:u=uid
  ·have pE:=zH (Ti g gid mode want h0 h1)
   have b1:(u == uid)=true:=beq_iff_eq.2 h1;clear h0 h1;go_enter Tryz.func95,Tryz.ntmps95;go_wp2_with fail;go_ret;exact aI.mk (by rw[pE.out];rfl) ((Ext.refl _).alloc _)
  ·have b1:(u == uid)=false:=beq_eq_false_iff_ne.2 h1
   by_cases h2:g=gid
   ·have pE:=zH (Tj mode want h0 h1 h2)
    have b2:(g == gid)=true:=beq_iff_eq.2 h2;clear h0 h1 h2;go_enter Tryz.func95,Tryz.ntmps95;go_wp2_with fail;go_ret;exact aI.mk (by rw[pE.out];rfl) ((Ext.refl _).alloc _)
   ·have pE:=zH (Tk mode want h0 h1 h2)
    have b2:(g == gid)=false:=beq_eq_false_iff_ne.2 h2;clear h0 h1 h2;go_enter Tryz.func95,Tryz.ntmps95;go_wp2_with fail;go_ret;exact aI.mk (by rw[pE.out];rfl) ((Ext.refl _).alloc _)
theorem rI (x:Int) (i:Nat) (hi:i<=2):cF x i=((x % 18446744073709551616).toNat).testBit i:=by
 have:i=0\/i=1\/i=2:=by omega
 rw [Nat.testBit_eq_decide_div_mod_eq];unfold cF;rcases this with rfl|rfl|rfl<;>rw[Bool.eq_iff_iff,beq_iff_eq,decide_eq_true_iff]<;>omega
theorem xe (x:Int):x % 8=(if cF x 0=true then 1 else 0)+(if cF x 1=true then 2 else 0)+(if cF x 2=true then 4 else 0):=by
 unfold cF;simp only[beq_iff_eq];split<;>split<;>split<;>omega
theorem KX (n:Nat) (h:n<2 ^ 64):((((n:Int)+9223372036854775808) % 18446744073709551616-9223372036854775808) % 18446744073709551616).toNat=n:=by omega
theorem rJ (x y:Int) (i:Nat) (hi:i<=2):cF (bits .and .i64 x y) i=(cF x i&&cF y i):=by
 have h:bits .and .i64 x y=IntKind.i64.wrap ((BitVec.ofInt 64 x &&& BitVec.ofInt 64 y).toNat:Int):=rfl;rw [h,IntKind.wrap_i64,rI _ i hi,rI x i hi,rI y i hi,<-Nat.testBit_and,<-iW,<-iW x,<-iW y,<-BitVec.toNat_and];rw [iW,KX _ (BitVec.ofInt 64 x &&& BitVec.ofInt 64 y).isLt]
theorem KY (m want:Int):yG m want=((!cF want 0 || cF m 0)&&((!cF want 1 || cF m 1)&&(!cF want 2 || cF m 2))):=by
 unfold yG;rw [RE,RE,xe,xe want,rJ _ _ 0 (by omega),rJ _ _ 1 (by omega),rJ _ _ 2 (by omega)]
 cases cF want 0<;>cases cF want 1<;>cases cF want 2<;>cases cF m 0<;>cases cF m 1<;>cases cF m 2<;>rfl
theorem rK (m:Int) (k i:Nat):cF (m / 2 ^ k) i=cF m (k+i):=by
 unfold cF;rw [Int.pow_add,Int.ediv_ediv_of_nonneg (Int.le_of_lt (Int.pow_pos (by decide)))]
theorem KZ (m:Int) (k:Nat):m / 2 ^ k / 2=m / 2 ^ (k+1):=by
 rw [Int.ediv_ediv_of_nonneg (Int.le_of_lt (Int.pow_pos (by decide))),Int.pow_succ]
theorem K_ (mode:Int) (n:Nat) (w:World) (hn:n<=1000):Calls Tryz.prog 104 #[.int .i64 mode,.int .i64 n] w (aI w (.bool (cF mode n))):=by
 go_enter Tryz.func104,Tryz.ntmps104;go_wp2_with fail;go_loop [0,5] (fun m i=>∃k:Nat,k<=n/\i=.int .i64 k/\m=.int .i64 (mode / 2 ^ k)) (fun _ i=>n-(intOf i).toNat)
 case atStart=>exact⟨0,by omega,rfl,by simp⟩
 case round =>
  obtain ⟨k,hk,rfl,rfl⟩:=hrel
  by_cases hlt:k<n
  ·have hd:=zH (KZ mode k)
   go_wp2_with fail;go_round
   case rel=>exact⟨k+1,by omega,by go_num,by rw[<-hd.out]⟩
   case measure=>simp[intOf];omega
  ·obtain rfl:k=n:=by omega
   have pE:=zH (PN mode k);go_wp2_with fail;go_ret;exact aI.mk (by rw[pE.out];rfl) (Ext.refl _)
theorem lQ (mode at_:Int) (w:World) (h0:0<=at_) (h1:at_<=1000):Calls Tryz.prog 104 #[.int .i64 mode,.int .i64 at_] w (aI w (.bool (cF mode at_.toNat))):=by
 obtain ⟨n,rfl⟩:=Int.eq_ofNat_of_zero_le h0;exact K_ mode n w (by omega)
def lR (m want:Int) (f:Nat) (k:Nat):Bool:=(List.range k).all fun j=>!cF want j || cF m (f+j)
theorem i_ (m want:Int) (f k:Nat):lR m want f (k+1)=(lR m want f k&&(!cF want k || cF m (f+k))):=by
 simp [lR,List.range_succ]
theorem Tm (m want:Int) (f:Nat):lR m want f 3=yG (m / 2 ^ f) want:=by
 rw [KY,rK,rK,rK];simp[lR,List.range,List.range.loop]
theorem xf (m want:Int) (f:Nat):∀k j,lR m want f (k+j)=true->lR m want f k=true
 | _,0,h=>h
 | k,j+1,h=>xf m want f k j (by rw[<-Nat.add_assoc,i_]at h;simp at h;exact h.1)
def jM (u g uid gid:Int):Nat:=if u=uid then 6 else if g=gid then 3 else 0
theorem Ak (u g uid gid mode want:Int):dX u g uid gid mode want=(u == 0 || lR mode want (jM u g uid gid) 3):=by
 rw [Tm];unfold dX part jM
 by_cases h0:u=0
 ·rw[if_pos h0];simp[h0]
 ·rw [if_neg h0,beq_eq_false_iff_ne.2 h0,Bool.false_or]
  split
  ·rfl
  ·split<;>simp
theorem rL {u g uid gid mode want:Int} (h:lR mode want (jM u g uid gid) 3=true):dX u g uid gid mode want=true:=by rw[Ak,h];simp
theorem rM {u g uid gid mode want:Int} {k:Nat} (hk:k<3) (h:(cF want k&&!cF mode (jM u g uid gid+k))=true):dX u g uid gid mode want=(u == 0):=by
 have : lR mode want (jM u g uid gid) 3=false:=by
  cases hh:lR mode want (jM u g uid gid) 3 with
  | false=>rfl
  | true =>
   have h1:=xf mode want (jM u g uid gid) (k+1) (3-(k+1)) (by rw[show k+1+(3-(k+1))=3 from by omega];exact hh);rw [i_]at h1;simp at h1 h;rcases h1.2 with h2|h2
   ·rw[h.1]at h2;cases h2
   ·rw[h.2]at h2;cases h2
 rw [Ak,this];simp
theorem La (u g uid gid mode want:Int) (w:World) :
  Calls Tryz.prog 103 #[.agg #[.int .i64 u,.int .i64 g],.int .i64 uid,.int .i64 gid,.int .i64 mode,.int .i64 want] w (aI w (.bool (dX u g uid gid mode want))):=by
 have A0:Has (w.alloc (.cells #[.int .i64 u,.int .i64 g] 27)) w.heap.size (.cells #[.int .i64 u,.int .i64 g] 27):=Has.new _ _
 by_cases h1:u=uid
 ·have zB : Hid (jM u g uid gid=6):=by show _=_;unfold jM;rw[if_pos h1]
  have b1:(u == uid)=true:=beq_iff_eq.2 h1;clear h1;go_enter Tryz.func103,Tryz.ntmps103;go_wp2_with fail;go_loopw [12] (fun i wr=>∃k:Nat,k<=3/\i=.int .i64 k/\Hid (lR mode want 6 k=true)/\Ext (w.alloc (.cells #[.int .i64 u,.int .i64 g] 27)) wr) (fun i _=>3-(intOf i).toNat)
  case atStart=>exact⟨0,by omega,rfl,rfl,Ext.refl _⟩
  case round =>
   obtain ⟨k,hk,rfl,hr,hx⟩:=hrel
   by_cases hlt:k<3
   ·go_wp2_with fail
    refine (lQ _ _ _ (by omega) (by omega)).mono ?_;rintro e w1 ⟨rfl,b1⟩;rw [Int.toNat_natCast]
    cases hw:cF want k with
    | false =>
     have hs:Hid (lR mode want 6 (k+1)=true):=by show _=_;rw[i_,hr.out,hw];rfl
     clear hw;go_wp2_with fail;go_roundw
     case rel=>exact⟨k+1,by omega,by go_num,hs,hx.trans b1⟩
     case measure=>simp[intOf];omega
    | true =>
     have hW:Hid (cF want k=true):=hw;clear hw;go_wp2_with fail;refine (lQ _ _ _ (by omega) (by omega)).mono ?_;rintro e w2 ⟨rfl,b2⟩;rw [show (6+(k:Int)).toNat=6+k from by omega]
     cases hm:cF mode (6+k) with
     | true =>
      have hs:Hid (lR mode want 6 (k+1)=true):=by show _=_;rw[i_,hr.out,hm];simp
      clear hm;go_wp2_with fail;go_roundw
      case rel=>exact⟨k+1,by omega,by go_num,hs,(hx.trans b1).trans b2⟩
      case measure=>simp[intOf];omega
     | false =>
      have hs:Hid (dX u g uid gid mode want=(u == 0)):=by show _=_;refine rM (k:=k) hlt ?_;rw[zB.out,hW.out,hm];rfl
      clear hm;have A1:=((A0.ext hx).ext b1).ext b2;have hc:∀i,w2.cell? ⟨w.heap.size,i,none⟩=_:=fun i=>A1.cell i
      go_wp2_with fail;go_ret;exact aI.mk (by rw[hs.out];rfl) ((((Ext.refl _).alloc _).trans hx).trans (b1.trans b2))
   ·obtain rfl:k=3:=by omega
    have hs:Hid (dX u g uid gid mode want=true):=by show _=_;refine rL ?_;rw[zB.out];exact hr.out
    go_wp2_with fail;go_ret;exact aI.mk (by rw[hs.out];rfl) (((Ext.refl _).alloc _).trans hx)
 ·have b1 : (u == uid)=false:=beq_eq_false_iff_ne.2 h1
  by_cases h2:g=gid
  ·have zB : Hid (jM u g uid gid=3):=by show _=_;unfold jM;rw[if_neg h1,if_pos h2]
   have b2:(g == gid)=true:=beq_iff_eq.2 h2;clear h1 h2;go_enter Tryz.func103,Tryz.ntmps103;go_wp2_with fail;go_loopw [12] (fun i wr=>∃k:Nat,k<=3/\i=.int .i64 k/\Hid (lR mode want 3 k=true)/\Ext (w.alloc (.cells #[.int .i64 u,.int .i64 g] 27)) wr) (fun i _=>3-(intOf i).toNat)
   case atStart=>exact⟨0,by omega,rfl,rfl,Ext.refl _⟩
   case round =>
    obtain ⟨k,hk,rfl,hr,hx⟩:=hrel
    by_cases hlt:k<3
    ·go_wp2_with fail
     refine (lQ _ _ _ (by omega) (by omega)).mono ?_;rintro e w1 ⟨rfl,b1⟩;rw [Int.toNat_natCast]
     cases hw:cF want k with
     | false =>
      have hs:Hid (lR mode want 3 (k+1)=true):=by show _=_;rw[i_,hr.out,hw];rfl
      clear hw;go_wp2_with fail;go_roundw
      case rel=>exact⟨k+1,by omega,by go_num,hs,hx.trans b1⟩
      case measure=>simp[intOf];omega
     | true =>
      have hW:Hid (cF want k=true):=hw;clear hw;go_wp2_with fail;refine (lQ _ _ _ (by omega) (by omega)).mono ?_;rintro e w2 ⟨rfl,b2⟩;rw [show (3+(k:Int)).toNat=3+k from by omega]
      cases hm:cF mode (3+k) with
      | true =>
       have hs:Hid (lR mode want 3 (k+1)=true):=by show _=_;rw[i_,hr.out,hm];simp
       clear hm;go_wp2_with fail;go_roundw
       case rel=>exact⟨k+1,by omega,by go_num,hs,(hx.trans b1).trans b2⟩
       case measure=>simp[intOf];omega
      | false =>
       have hs:Hid (dX u g uid gid mode want=(u == 0)):=by show _=_;refine rM (k:=k) hlt ?_;rw[zB.out,hW.out,hm];rfl
       clear hm;have A1:=((A0.ext hx).ext b1).ext b2;have hc:∀i,w2.cell? ⟨w.heap.size,i,none⟩=_:=fun i=>A1.cell i
       go_wp2_with fail;go_ret;exact aI.mk (by rw[hs.out];rfl) ((((Ext.refl _).alloc _).trans hx).trans (b1.trans b2))
    ·obtain rfl:k=3:=by omega
     have hs:Hid (dX u g uid gid mode want=true):=by show _=_;refine rL ?_;rw[zB.out];exact hr.out
     go_wp2_with fail;go_ret;exact aI.mk (by rw[hs.out];rfl) (((Ext.refl _).alloc _).trans hx)
  ·have zB : Hid (jM u g uid gid=0):=by show _=_;unfold jM;rw[if_neg h1,if_neg h2]
   have b2:(g == gid)=false:=beq_eq_false_iff_ne.2 h2;clear h1 h2;go_enter Tryz.func103,Tryz.ntmps103;go_wp2_with fail;go_loopw [12] (fun i wr=>∃k:Nat,k<=3/\i=.int .i64 k/\Hid (lR mode want 0 k=true)/\Ext (w.alloc (.cells #[.int .i64 u,.int .i64 g] 27)) wr) (fun i _=>3-(intOf i).toNat)
   case atStart=>exact⟨0,by omega,rfl,rfl,Ext.refl _⟩
   case round =>
    obtain ⟨k,hk,rfl,hr,hx⟩:=hrel
    by_cases hlt:k<3
    ·go_wp2_with fail
     refine (lQ _ _ _ (by omega) (by omega)).mono ?_;rintro e w1 ⟨rfl,b1⟩;rw [Int.toNat_natCast]
     cases hw:cF want k with
     | false =>
      have hs:Hid (lR mode want 0 (k+1)=true):=by show _=_;rw[i_,hr.out,hw];rfl
      clear hw;go_wp2_with fail;go_roundw
      case rel=>exact⟨k+1,by omega,by go_num,hs,hx.trans b1⟩
      case measure=>simp[intOf];omega
     | true =>
      have hW:Hid (cF want k=true):=hw;clear hw;go_wp2_with fail;refine (lQ _ _ _ (by omega) (by omega)).mono ?_;rintro e w2 ⟨rfl,b2⟩;rw [show ((k:Int)).toNat=0+k from by omega]
      cases hm:cF mode (0+k) with
      | true =>
       have hs:Hid (lR mode want 0 (k+1)=true):=by show _=_;rw[i_,hr.out,hm];simp
       clear hm;go_wp2_with fail;go_roundw
       case rel=>exact⟨k+1,by omega,by go_num,hs,(hx.trans b1).trans b2⟩
       case measure=>simp[intOf];omega
      | false =>
       have hs:Hid (dX u g uid gid mode want=(u == 0)):=by show _=_;refine rM (k:=k) hlt ?_;rw[zB.out,hW.out,hm];rfl
       clear hm;have A1:=((A0.ext hx).ext b1).ext b2;have hc:∀i,w2.cell? ⟨w.heap.size,i,none⟩=_:=fun i=>A1.cell i
       go_wp2_with fail;go_ret;exact aI.mk (by rw[hs.out];rfl) ((((Ext.refl _).alloc _).trans hx).trans (b1.trans b2))
    ·obtain rfl:k=3:=by omega
     have hs:Hid (dX u g uid gid mode want=true):=by show _=_;refine rL ?_;rw[zB.out];exact hr.out
     go_wp2_with fail;go_ret;exact aI.mk (by rw[hs.out];rfl) (((Ext.refl _).alloc _).trans hx)
def nO (u g:Int):Bool:=decide (0<=u)&&(decide (u<=2147483648)&&(decide (0<=g)&&decide (g<=2147483648)))
def fB (u o:Int):Bool:=u == 0 || u == o
def jY (u WY CA no:Int):Bool:=!cF WY 9 || (fB u CA || fB u no)
theorem xg (u g:Int) (w:World):Calls Tryz.prog 161 #[.agg #[.int .i64 u,.int .i64 g]] w (aI w (.bool (nO u g))):=by
 go_enter Tryz.func161,Tryz.ntmps161;go_wp2_with fail
 all_goals
  go_ret;exact aI.mk (by simp[nO, *]<;>omega) ((Ext.refl _).alloc _)
theorem oK (u g:Int) (x0 x1 x2 x3:Value) (o:Int) (x5 x6 x7 x8 x9 ki ke:Value) (w:World) :
  Calls Tryz.prog 96 #[.agg #[.int .i64 u,.int .i64 g],.agg #[x0,x1,x2,x3,.int .i64 o,x5,x6,x7,x8,x9,ki,ke]] w (aI w (.bool (fB u o))):=by
 cases h:(u == 0) with
 | true =>
  have hf:Hid (fB u o=true):=by show _=_;unfold fB;rw[h];rfl
  go_enter Tryz.func96,Tryz.ntmps96;go_wp2_with fail;go_ret;exact aI.mk (by rw[hf.out];rfl) (((Ext.refl _).alloc _).alloc _)
 | false =>
  have hf:Hid (fB u o=(u == o)):=by show _=_;unfold fB;rw[h];rfl
  go_enter Tryz.func96,Tryz.ntmps96;go_wp2_with fail;go_ret;exact aI.mk (by rw[hf.out];rfl) (((Ext.refl _).alloc _).alloc _)
theorem lS (u g:Int) (x0 x1 x2:Value) (mode o gr:Int) (x6 x7 x8 x9 ki ke:Value) (want:Int) (w:World) :
  Calls Tryz.prog 51 #[.agg #[.int .i64 u,.int .i64 g],.agg #[x0,x1,x2,.int .i64 mode,.int .i64 o,.int .i64 gr,x6,x7,x8,x9,ki,ke],.int .i64 want] w (aI w (.bool (dX u g o gr mode want))):=by
 go_enter Tryz.func51,Tryz.ntmps51;go_wp2_with fail;refine (PO _ _ _ _ _ _ _).mono ?_;rintro e w1 ⟨rfl,b1⟩;go_wp2_with fail;go_ret;exact aI.mk rfl ((((Ext.refl _).alloc _).alloc _).trans b1)
theorem xh (u g:Int) (x0 x1 x2:Value) (dm CA:Int) (x5 x6 x7 x8 x9 ki ke y0 y1 y2 y3:Value) (no:Int) (y5 y6 y7 y8 y9 pZ nN:Value) (w:World) :
  Calls Tryz.prog 52 #[.agg #[.int .i64 u,.int .i64 g],.agg #[x0,x1,x2,.int .i64 dm,.int .i64 CA,x5,x6,x7,x8,x9,ki,ke],.agg #[y0,y1,y2,y3,.int .i64 no,y5,y6,y7,y8,y9,pZ,nN]] w (aI w (.bool (jY u dm CA no))):=by
 have A0:Has (((w.alloc (.cells #[.int .i64 u,.int .i64 g] 27)).alloc (.cells #[x0,x1,x2,.int .i64 dm,.int .i64 CA,x5,x6,x7,x8,x9,ki,ke] 66)).alloc (.cells #[y0,y1,y2,y3,.int .i64 no,y5,y6,y7,y8,y9,pZ,nN] 66)) w.heap.size (.cells #[.int .i64 u,.int .i64 g] 27):=((Has.new _ _).alloc _).alloc _;have B0:Has (((w.alloc (.cells #[.int .i64 u,.int .i64 g] 27)).alloc (.cells #[x0,x1,x2,.int .i64 dm,.int .i64 CA,x5,x6,x7,x8,x9,ki,ke] 66)).alloc (.cells #[y0,y1,y2,y3,.int .i64 no,y5,y6,y7,y8,y9,pZ,nN] 66)) (w.heap.size+1) (.cells #[x0,x1,x2,.int .i64 dm,.int .i64 CA,x5,x6,x7,x8,x9,ki,ke] 66):=by
  have:=(Has.new (w.alloc (.cells #[.int .i64 u,.int .i64 g] 27)) (.cells #[x0,x1,x2,.int .i64 dm,.int .i64 CA,x5,x6,x7,x8,x9,ki,ke] 66)).alloc (.cells #[y0,y1,y2,y3,.int .i64 no,y5,y6,y7,y8,y9,pZ,nN] 66)
  rwa [World.size_alloc]at this
 have C0:Has (((w.alloc (.cells #[.int .i64 u,.int .i64 g] 27)).alloc (.cells #[x0,x1,x2,.int .i64 dm,.int .i64 CA,x5,x6,x7,x8,x9,ki,ke] 66)).alloc (.cells #[y0,y1,y2,y3,.int .i64 no,y5,y6,y7,y8,y9,pZ,nN] 66)) (w.heap.size+2) (.cells #[y0,y1,y2,y3,.int .i64 no,y5,y6,y7,y8,y9,pZ,nN] 66):=by
  have:=Has.new ((w.alloc (.cells #[.int .i64 u,.int .i64 g] 27)).alloc (.cells #[x0,x1,x2,.int .i64 dm,.int .i64 CA,x5,x6,x7,x8,x9,ki,ke] 66)) (.cells #[y0,y1,y2,y3,.int .i64 no,y5,y6,y7,y8,y9,pZ,nN] 66)
  rwa [World.size_alloc,World.size_alloc]at this
 cases hb:cF dm 9 with
 | false =>
  have hf:Hid (jY u dm CA no=true):=by show _=_;unfold jY;rw[hb];rfl
  have h5:(bits BinOp.and IntKind.i64 dm 512 == 0)=true:=by have:=um dm;rw[hb]at this;simpa [bne]using this
  clear hb A0 B0 C0;go_enter Tryz.func52,Tryz.ntmps52;go_wp2_with fail;go_ret;exact aI.mk (by rw[hf.out];rfl) ((((Ext.refl _).alloc _).alloc _).alloc _)
 | true =>
  have h5:(bits BinOp.and IntKind.i64 dm 512 == 0)=false:=by have:=um dm;rw[hb]at this;simpa [bne]using this
  have hf:Hid (jY u dm CA no=(fB u CA || fB u no)):=by show _=_;unfold jY;rw[hb];rfl
  clear hb;go_enter Tryz.func52,Tryz.ntmps52;go_wp2_with fail;refine (oK _ _ _ _ _ _ _ _ _ _ _ _ _ _ _).mono ?_;rintro e w1 ⟨rfl,b1⟩
  cases ho:fB u CA with
  | true =>
   have Kk:Hid (jY u dm CA no=true):=by show _=_;rw[hf.out,ho];rfl
   clear ho;go_wp2_with fail;go_ret;exact aI.mk (by rw[Kk.out];rfl) (((((Ext.refl _).alloc _).alloc _).alloc _).trans b1)
  | false =>
   have Kk:Hid (jY u dm CA no=fB u no):=by show _=_;rw[hf.out,ho];rfl
   clear ho;have hcA:∀i,w1.cell? ⟨w.heap.size,i,none⟩=_:=fun i=>(A0.ext b1).cell i
   have hcC:∀i,w1.cell? ⟨w.heap.size+2,i,none⟩=_:=fun i=>(C0.ext b1).cell i
   go_wp2_with fail;refine (oK _ _ _ _ _ _ _ _ _ _ _ _ _ _ _).mono ?_;rintro e w2 ⟨rfl,b2⟩;go_wp2_with fail;go_ret;exact aI.mk (by rw[Kk.out];rfl) ((((((Ext.refl _).alloc _).alloc _).alloc _).trans b1).trans b2)
theorem Gx (u g:Int) (w:World):Calls Tryz.prog 128 #[.agg #[.int .i64 u,.int .i64 g]] w (aI w (.bool (nO u g))):=by
 go_enter Tryz.func128,Tryz.ntmps128;go_wp2_with fail
 all_goals
  go_ret;exact aI.mk (by simp[nO, *]<;>omega) ((Ext.refl _).alloc _)
theorem Gy (u g:Int) (x0 x1 x2 x3:Value) (o:Int) (x5 x6 x7 x8 x9 ki ke:Value) (w:World) :
  Calls Tryz.prog 105 #[.agg #[.int .i64 u,.int .i64 g],.agg #[x0,x1,x2,x3,.int .i64 o,x5,x6,x7,x8,x9,ki,ke]] w (aI w (.bool (fB u o))):=by
 cases h:(u == 0) with
 | true =>
  have hf:Hid (fB u o=true):=by show _=_;unfold fB;rw[h];rfl
  go_enter Tryz.func105,Tryz.ntmps105;go_wp2_with fail;go_ret;exact aI.mk (by rw[hf.out];rfl) (((Ext.refl _).alloc _).alloc _)
 | false =>
  have hf:Hid (fB u o=(u == o)):=by show _=_;unfold fB;rw[h];rfl
  go_enter Tryz.func105,Tryz.ntmps105;go_wp2_with fail;go_ret;exact aI.mk (by rw[hf.out];rfl) (((Ext.refl _).alloc _).alloc _)
theorem rN (u g:Int) (x0 x1 x2:Value) (mode o gr:Int) (x6 x7 x8 x9 ki ke:Value) (want:Int) (w:World) :
  Calls Tryz.prog 59 #[.agg #[.int .i64 u,.int .i64 g],.agg #[x0,x1,x2,.int .i64 mode,.int .i64 o,.int .i64 gr,x6,x7,x8,x9,ki,ke],.int .i64 want] w (aI w (.bool (dX u g o gr mode want))):=by
 go_enter Tryz.func59,Tryz.ntmps59;go_wp2_with fail;refine (La _ _ _ _ _ _ _).mono ?_;rintro e w1 ⟨rfl,b1⟩;go_wp2_with fail;go_ret;exact aI.mk rfl ((((Ext.refl _).alloc _).alloc _).trans b1)
def eo (S:ae) (cu no:Int):Int:=if aJ S.nodes no=false then 5 else if fB cu (ac S.nodes no).uid=false then 4 else 0
def kj (S:ae) (cu no:Int):ai:=if eo S cu no=0 then ac S.nodes no else aa
def aax (w:World) (B:Nat) (S:ae) (cu no:Int) (e:Ending) (w':World):Prop:=
 ∃ A c,e=.returned (.tuple #[.agg #[.int .i64 (kj S cu no).no,.int .i64 (kj S cu no).dev,.int .i64 (kj S cu no).kind,.int .i64 (kj S cu no).mode,.int .i64 (kj S cu no).uid,.int .i64 (kj S cu no).gid,.int .i64 (kj S cu no).mtime,.int .i64 (kj S cu no).ctime,.int .i64 (kj S cu no).ag,.int .i64 (kj S cu no).up,.string (bs (kj S cu no).data),.slice A (kj S cu no).af.length c],.int .i64 (eo S cu no)])/\az w' B (kj S cu no) A c/\Ext w w'
theorem uo (B:Nat) (g:bG) (S:ae) (cu cg no:Int) (w:World) (h:dM w B g S) (hd:0<S.ah.length):Calls Tryz.prog 160 #[.pointer (some ⟨g.bW,0,none⟩),.agg #[cu,cg],.int .i64 no] w (aax w B S cu no):=by
 have h0:=h;obtain ⟨h1,h2,cd,h3,h4⟩:=h;have j_:((S.ah.length:Int) == 0)=false:=by simpa using (show ¬(S.ah.length:Int)=0 by omega)
 have E0:Ext w ((w.alloc (.cells #[cu,cg] 27)).alloc (.cells #[.int .i64 0,.int .i64 0,.int .i64 0,.int .i64 0,.int .i64 0,.int .i64 0,.int .i64 0,.int .i64 0,.int .i64 0,.int .i64 0,.string ⟨#[]⟩,.slice none 0 0] 66)):=((Ext.refl _).alloc _).alloc _;go_enter Tryz.func160,Tryz.ntmps160;go_wp2_with fail;refine (lL B g S _ (h0.ext E0) hd).mono ?_;rintro e w1 ⟨rfl,b1⟩;have E1:=E0.trans b1;have R0:=Has.new (w.alloc (.cells #[cu,cg] 27)) (.cells #[aa.no,aa.dev,aa.kind,aa.mode,aa.uid,aa.gid,aa.mtime,aa.ctime,aa.ag,aa.up,bs aa.data,.slice none aa.af.length 0] 66);rw [World.size_alloc]at R0;have R1:=R0.ext b1;have C1:=((Has.new w (.cells #[cu,cg] 27)).alloc (.cells #[.int .i64 0,.int .i64 0,.int .i64 0,.int .i64 0,.int .i64 0,.int .i64 0,.int .i64 0,.int .i64 0,.int .i64 0,.int .i64 0,.string ⟨#[]⟩,.slice none 0 0] 66)).ext b1;have v0:w1.cell? ⟨g.bW,0,none⟩=some (.pointer (some ⟨g.bT,0,none⟩)):=(h3.ext E1).cell 0;have z1:=(h3.ext E1).lt;go_wp2_with fail;refine (fK B g.bT g.bM S.nodes S.last no _ (h2.ext E1)).mono ?_;rintro e w2 ⟨A2,k2,rfl,gv,b2⟩;have R2:=R1.ext b2;have C2:=C1.ext b2;have hm:Hid (eo S cu no=if aJ S.nodes no=false then 5 else if fB cu (ac S.nodes no).uid=false then 4 else 0):=by show _=_;rfl
 have bU:Hid (kj S cu no=if eo S cu no=0 then ac S.nodes no else aa):=by show _=_;rfl
 obtain⟨m,hmm⟩:=zE (ac S.nodes no);rw [<-hmm]at gv hm bU|-;obtain⟨W3,cj⟩:=zE (w2.alloc (.cells #[m.no,m.dev,m.kind,m.mode,m.uid,m.gid,m.mtime,m.ctime,m.ag,m.up,bs m.data,.slice A2 m.af.length k2] 66));have h_:Ext w2 W3:=by rw[cj];exact (Ext.refl _).alloc _
 have N3:Has W3 w2.heap.size (.cells #[m.no,m.dev,m.kind,m.mode,m.uid,m.gid,m.mtime,m.ctime,m.ag,m.up,bs m.data,.slice A2 m.af.length k2] 66):=by rw[cj];exact Has.new _ _
 have R3:=R2.ext h_;have C3:=C2.ext h_;have E3:Ext w W3:=(E1.trans b2).trans h_;obtain⟨b8,fM⟩:=zE w2.heap.size;obtain⟨i,hi⟩:=zE (aJ S.nodes no);rw [<-hi]at hm|-;clear v0 hmm hi;go_upto_region 4 with fail;rw [<-cj];rw [<-fM]at N3|-;clear cj fM
 cases i
 ·have hE:Hid (eo S cu no=5):=by show _=_;rw[hm.out];rfl
  have hN:Hid (kj S cu no=aa):=by show _=_;rw[bU.out,hE.out];rfl
  clear hm bU;go_wp2_with (refine ap rfl _ _ rfl (w.heap.size+1) aa none 0 rfl rfl R3 ?_;intro w4 R4 O4);refine bodyPost_ret (v:=.tuple #[.agg #[aa.no,aa.dev,aa.kind,aa.mode,aa.uid,aa.gid,aa.mtime,aa.ctime,aa.ag,aa.up,bs aa.data,.slice none aa.af.length 0],.int .i64 5]) (cr Tryz.results160 _ _ (w.heap.size+1) aa none 0 _ rfl rfl R4) rfl ?_;exact ⟨none,0,by rw[hE.out,hN.out],by rw[hN.out];exact az.zero _ _,O4.after E3 (by simp)⟩
 ·obtain⟨u,hu⟩:=zE (fB cu m.uid)
  rw [<-hu]at hm;have HU:=zH hu;have c0:W3.cell? ⟨w.heap.size,0,none⟩=some (.int .i64 cu):=C3.cell 0;have c1:W3.cell? ⟨w.heap.size,1,none⟩=some (.int .i64 cg):=C3.cell 1;have zc:=C3.lt;clear hu;go_wp2_with (refine aw rfl _ rfl b8 m A2 k2 rfl N3 ?_);refine (oK cu cg _ _ _ _ m.uid _ _ _ _ _ _ _ _).mono ?_;rw [<-HU.out];rintro e w4 ⟨rfl,b4⟩;have R4:=R3.ext b4;have N4:=N3.ext b4
  cases u
  ·have hE:Hid (eo S cu no=4):=by show _=_;rw[hm.out];rfl
   have hN:Hid (kj S cu no=aa):=by show _=_;rw[bU.out,hE.out];rfl
   clear hm bU;go_wp2_with (refine ap rfl _ _ rfl (w.heap.size+1) aa none 0 rfl rfl R4 ?_;intro w5 R5 O5);refine bodyPost_ret (v:=.tuple #[.agg #[aa.no,aa.dev,aa.kind,aa.mode,aa.uid,aa.gid,aa.mtime,aa.ctime,aa.ag,aa.up,bs aa.data,.slice none aa.af.length 0],.int .i64 4]) (cr Tryz.results160 _ _ (w.heap.size+1) aa none 0 _ rfl rfl R5) rfl ?_;exact ⟨none,0,by rw[hE.out,hN.out],by rw[hN.out];exact az.zero _ _,O5.after (E3.trans b4) (by simp)⟩
  ·have hE:Hid (eo S cu no=0):=by show _=_;rw[hm.out];rfl
   have hN:Hid (kj S cu no=m):=by show _=_;rw[bU.out,hE.out];rfl
   clear hm bU c0 c1;go_wp2_with (first|(refine aw rfl _ rfl b8 m A2 k2 rfl N4 ?_)|(refine ap rfl _ _ rfl (w.heap.size+1) m A2 k2 rfl rfl R4 ?_;intro w5 R5 O5));refine bodyPost_ret (v:=.tuple #[.agg #[m.no,m.dev,m.kind,m.mode,m.uid,m.gid,m.mtime,m.ctime,m.ag,m.up,bs m.data,.slice A2 m.af.length k2],.int .i64 0]) (cr Tryz.results160 _ _ (w.heap.size+1) m A2 k2 _ rfl rfl R5) rfl ?_;have yH:az w5 B m A2 k2:=(((gv.ext h_).ext b4).only O5 (by
    intro b hb;rw [List.mem_singleton]at hb;subst hb;exact ⟨by have:=h1;have:=h0.lt.1;omega,R4.fJ (by decide)⟩))
   exact ⟨A2,k2,by rw[hE.out,hN.out],by rw[hN.out];exact yH,O5.after (E3.trans b4) (by simp)⟩
def mA (w:World) (B:Nat) (g:bG) (T:ae) (x:Int) (e:Ending) (w':World):Prop:=
 e = .returned (.int .i64 x)/\dM w' B g T/\Only g.list w w'
theorem eG {w w':World} {B:Nat} {g:bG} {S T:ae} {x:Int} (h:dM w B g S) (hE:Ext w w') (hT:T=S):mA w B g T x (.returned (.int .i64 x)) w':=
 ⟨rfl,by rw[hT];exact h.ext hE,Only.ax hE⟩
def fC (S:ae) (cu no mode:Int):Int:=if eo S cu no≠0 then eo S cu no else if mode<0\/1023<mode\/(ac S.nodes no).kind=3 then 1 else 0
def eZ (S:ae) (cu now no mode:Int):ae:=if fC S cu no mode=0 then aE S {ac S.nodes no with mode:=mode,ctime:=now} else S
theorem ia {S:ae} {cu no:Int} (h:eo S cu no=0):aJ S.nodes no=true/\fB cu (ac S.nodes no).uid=true/\kj S cu no=ac S.nodes no:=by
 refine ⟨?_,?_,by unfold kj;rw[if_pos h]⟩
 ·cases hi:aJ S.nodes no
  ·unfold eo at h;rw[if_pos hi]at h;cases h
  ·rfl
 ·unfold eo at h
  split at h
  ·cases h
  ·split at h
   ·cases h
   ·rename_i h2;simpa using h2
theorem lU (B:Nat) (g:bG) (S:ae) (n:ai) (A:Option Addr) (c:Nat) (w:World) (h:dM w B g S) (hu:aD S.nodes S.last) (hn:az w B n A c) :
  Calls Tryz.prog 162 #[.pointer (some ⟨g.bT,0,none⟩),.agg #[n.no,n.dev,n.kind,n.mode,n.uid,n.gid,n.mtime,n.ctime,n.ag,n.up,bs n.data,.slice A n.af.length c]] w (fun e w'=>e=.returned (.bool (aJ S.nodes n.no))/\dM w' B g (aE S n)/\Only g.list w w'):=by
 refine (zZ B g.bT g.bM S.nodes S.last n A c w h.2.1 hu hn).mono ?_;rintro e w' ⟨rfl,h2,h3⟩;exact ⟨rfl,dM.table h h3 h2,h3.mono (by simp)⟩
theorem Gz (B:Nat) (g:bG) (S:ae) (cu cg now no mode:Int) (w:World) (h:dM w B g S) (hd:0<S.ah.length) (hu:aD S.nodes S.last) :
  Calls Tryz.prog 118 #[.pointer (some ⟨g.bW,0,none⟩),.agg #[cu,cg],.int .i64 now,.int .i64 no,.int .i64 mode] w (mA w B g (eZ S cu now no mode) (fC S cu no mode)):=by
 have E0:Ext w (w.alloc (.cells #[cu,cg] 27)):=(Ext.refl _).alloc _;have hm:Hid (fC S cu no mode=if eo S cu no≠0 then eo S cu no else if mode<0\/1023<mode\/(ac S.nodes no).kind=3 then 1 else 0):=by show _=_;rfl
 have pn:Hid (eo S cu no=0->aJ S.nodes no=true/\fB cu (ac S.nodes no).uid=true/\kj S cu no=ac S.nodes no):=ia;go_enter Tryz.func118,Tryz.ntmps118;go_wp2_with fail;refine (uo B g S cu cg no _ (h.ext E0) hd).mono ?_;rintro e w2 ⟨A,c,rfl,gv,b2⟩;have E2:=E0.trans b2;obtain⟨m,hmm⟩:=zE (kj S cu no);obtain⟨x,hx⟩:=zE (eo S cu no);rw [<-hmm]at gv pn;rw [<-hx]at hm pn;rw [<-hmm,<-hx];clear hmm hx
 by_cases aV:x=0
 ·have t0 : (x == 0)=true:=by simpa using aV
  have mB:(x != 0)=false:=by simpa using aV
  obtain ⟨hi,ho,mW⟩:=pn.out aV;have bU:Hid (fC S cu no mode=if mode<0\/1023<mode\/m.kind=3 then 1 else 0):=by show _=_;rw[hm.out,if_neg (by simpa using aV),<-mW]
  have Al:m.no=no:=by rw[mW];exact (ak hi).2.1
  have zC:=zH mW;have w_:=zH Al;clear hm pn mW Al hi ho aV
  by_cases c1:mode<0
  ·have t1:decide (mode<0)=true:=decide_eq_true c1
   have hE:Hid (fC S cu no mode=1):=by show _=_;rw[bU.out,if_pos (.inl c1)]
   clear bU c1;go_wp2_with fail;go_ret;rw [hE.out];exact eG h (E2.alloc _) (by unfold eZ;rw[hE.out];rfl)
  ·have t1:decide (mode<0)=false:=decide_eq_false c1
   by_cases c2:1023<mode
   ·have t2:decide (1023<mode)=true:=decide_eq_true c2
    have hE:Hid (fC S cu no mode=1):=by show _=_;rw[bU.out,if_pos (.inr (.inl c2))]
    clear bU c1 c2;go_wp2_with fail;go_ret;rw [hE.out];exact eG h (E2.alloc _) (by unfold eZ;rw[hE.out];rfl)
   ·have t2:decide (1023<mode)=false:=decide_eq_false c2
    by_cases c3:m.kind=3
    ·have t3:(m.kind == 3)=true:=by simpa using c3
     have hE:Hid (fC S cu no mode=1):=by show _=_;rw[bU.out,if_pos (.inr (.inr c3))]
     clear bU c1 c2 c3;go_wp2_with fail;go_ret;rw [hE.out];exact eG h (E2.alloc _) (by unfold eZ;rw[hE.out];rfl)
    ·have t3:(m.kind == 3)=false:=by simpa using c3
     have hE:Hid (fC S cu no mode=0):=by show _=_;rw[bU.out,if_neg (by rintro (g'|g'|g')<;>contradiction)]
     clear bU c1 c2 c3;go_upto_region 7 with fail;obtain ⟨n,hn⟩:∃n:ai,n={m with mode:=mode,ctime:=now}:=⟨_,rfl⟩;obtain⟨V,hV⟩:=zE (w2.alloc (.cells #[n.no,n.dev,n.kind,n.mode,n.uid,n.gid,n.mtime,n.ctime,n.ag,n.up,bs n.data,.slice A n.af.length c] 66));have my:=hV;rw [hn]at my;rw [<-my];have NV:Has V w2.heap.size (.cells #[n.no,n.dev,n.kind,n.mode,n.uid,n.gid,n.mtime,n.ctime,n.ag,n.up,bs n.data,.slice A n.af.length c] 66):=by rw[hV];exact Has.new _ _
     have EV:Ext w V:=by rw[hV];exact E2.alloc _
     have wj:az V B n A c:=((gv.ext (by rw[hV];exact (Ext.refl _).alloc _)).same (by rw[hn]));have HN:=zH hn;clear hV my hn;have KV:=h.ext EV;obtain ⟨_,_,cd,hW,_⟩:=id KV;have v0:V.cell? ⟨g.bW,0,none⟩=some (.pointer (some ⟨g.bT,0,none⟩)):=hW.cell 0;have vz:=hW.lt;obtain ⟨x0,x1,x2,x3,x4,x5,x6,x7,x8,x9,ki,ke⟩:=NV.cD;have zN:=NV.lt;go_still_tail 5,(by kernel_rfl);change wpList _ _ _ _ _ V.drew;go_wp2_with fail;have ED:Ext V V.drew:=(Ext.refl _).drew;refine (lU B g S n A c _ (KV.ext ED) hu (wj.ext ED)).mono ?_;rintro e w5 ⟨rfl,K5,O5⟩;go_wp2_with fail;go_ret;rw [hE.out];refine ⟨rfl,?_,Only.pre (EV.trans ED) O5⟩;have:eZ S cu now no mode=aE S n:=by unfold eZ;rw[if_pos hE.out,HN.out,zC.out]
     rw [this];exact K5
 ·have t0:(x == 0)=false:=by simpa using aV
  have mB:(x != 0)=true:=by simpa using aV
  have hE:Hid (fC S cu no mode=x):=by show _=_;rw[hm.out,if_pos aV]
  have hT:Hid (eZ S cu now no mode=S):=by show _=_;unfold eZ;rw[if_neg (by rw[hE.out];exact aV)]
  clear hm pn aV;go_wp2_with fail;go_ret;rw [hE.out];exact eG h (E2.alloc _) hT.out
def Fl (S:ae):Prop:=∀n∈S.nodes,fU S.ah n.dev=true/\n.data.length<=1048576
def RX (n:ai) (dl:Int):Int:=bA n.kind dl-bA n.kind n.data.length
def Aq (S:ae) (no dl:Int):Int:=
 if aJ S.nodes no=false then 5 else dU (jn S.ah (ac S.nodes no).dev).q (RX (ac S.nodes no) dl) 0
def jH (S:ae) (no:Int) (data:List UInt8):ae:=
 if Aq S no data.length=0 then⟨bQ S.nodes {ac S.nodes no with data:=data},ir S.ah (ac S.nodes no).dev (aP (jn S.ah (ac S.nodes no).dev).q (RX (ac S.nodes no) data.length) 0),S.last⟩ else S
theorem Lb {α:Type} (l:List α) (x:α) (k:Nat) (h:k<l.length) (h':k<(l++[x]).length):(l++[x])[k]'h'=l[k]:=List.getElem_append_left h
theorem GA {α:Type} (l:List α) (x:α) (k:Nat) (h:k=l.length) (h':k<(l++[x]).length):(l++[x])[k]'h'=x:=by subst h;simp
theorem Tn (l:List eB) (i:Nat) (f:eB->eB) (k:Nat) (h:k<(l.modify i f).length) (h2:k<l.length):(l.modify i f)[k]'h=if i=k then f l[k] else l[k]:=List.getElem_modify ..
theorem cR {S:ae} (hu:aD S.nodes S.last) {n:ai} (h:n∈S.nodes):ac S.nodes n.no=n/\aJ S.nodes n.no=true:=by
 obtain ⟨k,hk,rfl⟩:=List.getElem_of_mem h;have e:=yq hu hk;exact ⟨by unfold ac;rw[e];rfl,by unfold aJ;rw[e];rfl⟩
def aay (S:ae) (no:Int):Prop:=∃m∈S.nodes,m.no=no/\m.kind=1
structure Grown (S:ae):Prop where
 ft:Good S
 names:yF S
 on:Fl S
 first:∃m∈S.nodes,m.no=1
 one:∀n∈S.nodes,n.no=1->n.kind=1/\n.dev=1/\n.up=1
 Tp:∀n∈S.nodes,n.kind=1->n.up<=n.no/\∃m∈S.nodes,m.no=n.up
 mQ:∀h:0<S.ah.length,S.ah[0].root=1
 lV:∀k,(h:k+1<S.ah.length)->S.ah[k+1].over<S.ah[k+1].root/\aay S S.ah[k+1].over
theorem aO {S:ae} {no:Int} (h:(ac S.nodes no).kind=1):aJ S.nodes no=true/\(ac S.nodes no).no=no/\ac S.nodes no∈S.nodes:=by
 cases hi:aJ S.nodes no
 ·rw[(aU hi).1]at h;cases h
 ·exact⟨rfl,(ak hi).2⟩
theorem Grown.aaz {S:ae} (h:Grown S):aC S.ah 1=1:=by
 unfold aC fU jn;have:=h.ft.ah;rw [if_pos (by simp;omega)];simp only[show ((1:Int)-1).toNat=0 by decide];rw [List.getD_eq_getElem?_getD,List.getElem?_eq_getElem this];exact h.mQ this
theorem yI {ds:List eB} {d:Int} {q:dB} {k:Nat} (hk:k<(ir ds d q).length) (hk2:k<ds.length):(ir ds d q)[k].root=ds[k].root/\(ir ds d q)[k].over=ds[k].over:=by
 have e:=Tn ds (d-1).toNat (fun x=>{x with q:=q}) k hk hk2;exact ⟨(congrArg eB.root e).trans (by split<;>rfl),(congrArg eB.over e).trans (by split<;>rfl)⟩
theorem tM {ns:List ai} {n m:ai} (h:m∈ns):(if m.no=n.no then n else m)∈bQ ns n:=by
 unfold bQ;rw [List.mem_map];refine ⟨m,h,?_⟩
 by_cases e:m.no=n.no
 ·rw[if_pos e,if_pos (by simpa using e)]
 ·rw[if_neg e,if_neg (by simpa using e)]
theorem iG {l:List ay} {x y:ay} (h:y∈en l x):y∈l\/y=x:=by
 unfold en jm jG at h;simp only[List.mem_append,List.mem_singleton,List.mem_filter]at h;rcases h with (h|h)|h
 ·exact .inl h.1
 ·exact .inr h
 ·exact .inl h.1
theorem qq {l:List UInt8} (h:bX l=0):l≠[]/\l.length<=255:=by
 unfold bX at h;split at h
 ·cases h
 ·split at h
  ·cases h
  ·rename_i h1 h2
   exact ⟨fun e=>h1 (.inl e),by omega⟩
theorem Ar {b n:Int} (hl:cx b n=true):Grown (cq cJ 0 b n):=by
 refine ⟨CZ hl,?_,?_,⟨bn cJ,List.mem_append_right _ (List.mem_singleton.2 rfl),rfl⟩,?_,?_,fun _=>rfl,?_⟩
 ·intro m hm x hx
  simp [cq,cJ]at hm;subst hm;cases hx
 ·intro m hm
  simp [cq,cJ]at hm;subst hm;exact ⟨rfl,by decide⟩
 ·intro m hm _
  simp [cq,cJ]at hm;subst hm;exact⟨rfl,rfl,rfl⟩
 ·intro m hm _
  simp [cq,cJ]at hm;subst hm;exact ⟨Int.le_refl _,_,List.mem_append_right _ (List.mem_singleton.2 rfl),rfl⟩
 ·intro k hk
  have:k+1<1:=hk;omega
end Go.Proofs.YtpibnfdolojpcaaGreat
