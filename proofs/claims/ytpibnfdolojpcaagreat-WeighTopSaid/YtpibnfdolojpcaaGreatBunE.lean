import Derived.Test.YtpibnfdolojpcaaGreatBunD
import Derived.Test.YtpibnfdolojpcaaGreatBunA
import Derived.Test.YtpibnfdolojpcaaGreatBunB
import Derived.Test.YtpibnfdolojpcaaGreatShelf
import Derived.Test.YtpibnfdolojpcaaGreatBunC
import Derived.Lib.Builder
import Derived.Lib.AppendStr
set_option maxHeartbeats 4000000
set_option maxRecDepth 100000
namespace Go.Proofs.YtpibnfdolojpcaaGreat
open Go.ChangeShapes Go.WideShapes Go.ChangeAt Go.RowKit
def aboveF (S:TreeD) (no:Int):Int:=
 if (getN S.nodes no).kind=1 then
  if rootF S.devs (getN S.nodes no).dev=no∧1<(getN S.nodes no).dev then (getN S.nodes (devN S.devs (getN S.nodes no).dev).over).up else (getN S.nodes no).up
 else 0
theorem pabove_any (B : Nat) (g:GhW) (S:TreeD) (no:Int) (w:World) (h:WAt w B g S) (hd:0<S.devs.length) (hd2:S.devs.length≤8) (hr:RootsOk S.devs) (hu:NosUp S.nodes S.last) :
    Calls Tryz.prog 142 #[.pointer (some ⟨g.bW,0,none⟩),.int .i64 no] w (Ret w (.int .i64 (aboveF S no))):=by
  have hm:Hid (aboveF S no=if (getN S.nodes no).kind=1 then if rootF S.devs (getN S.nodes no).dev=no∧1<(getN S.nodes no).dev then (getN S.nodes (devN S.devs (getN S.nodes no).dev).over).up else (getN S.nodes no).up else 0):=by show _=_;rfl
  go_enter Tryz.func142,Tryz.ntmps142
  go_wp2_with fail
  refine (pnone_any B g S _ h hd).mono ?_
  rintro e w1 ⟨rfl,b1⟩
  obtain ⟨_,_,cd,hW,_⟩:=id (h.ext b1)
  have v0:w1.cell? ⟨g.bW,0,none⟩=some (.pointer (some ⟨g.bT,0,none⟩)):=hW.cell 0
  have z1:=hW.lt
  clear hW
  go_wp2_with fail
  refine (tget_any B g.bT g.bM S.nodes S.last no _ (h.ext b1).2.1).mono ?_
  rintro e w2 ⟨A,c,rfl,ok2,b2⟩
  have hik:isN S.nodes no=false→(getN S.nodes no).kind=0:=fun hi=>by rw[(isN_false hi).1];rfl
  have hi1:isN S.nodes no=true→1≤no:=fun hi=>by
    obtain ⟨k,hk,e⟩:=isN_iff.1 hi
    have:=(hu.2 _ (List.getElem_mem hk)).1
    omega
  obtain ⟨n,hn⟩:∃n,n=getN S.nodes no:=⟨_,rfl⟩
  obtain ⟨i,hi⟩:∃i,i=isN S.nodes no:=⟨_,rfl⟩
  rw [←hn]at ok2 hm hik
  rw [←hi]at hik hi1
  rw [←hn,←hi]
  obtain ⟨W3,hW3⟩:∃W3,W3=w2.alloc (.cells #[.int .i64 n.no,.int .i64 n.dev,.int .i64 n.kind,.int .i64 n.mode,.int .i64 n.uid,.int .i64 n.gid,.int .i64 n.mtime,.int .i64 n.ctime,.int .i64 n.links,.int .i64 n.up,.string (bs n.data),.slice A n.ents.length c] 66):=⟨_,rfl⟩
  have E23:Ext w2 W3:=by rw[hW3];exact (Ext.refl _).alloc _
  obtain ⟨b5,hb5⟩:∃b,b=w2.heap.size:=⟨_,rfl⟩
  have N3:Has W3 b5 (.cells #[.int .i64 n.no,.int .i64 n.dev,.int .i64 n.kind,.int .i64 n.mode,.int .i64 n.uid,.int .i64 n.gid,.int .i64 n.mtime,.int .i64 n.ctime,.int .i64 n.links,.int .i64 n.up,.string (bs n.data),.slice A n.ents.length c] 66):=by rw[hW3,hb5];exact Has.new _ _
  have E3:Ext w W3:=(b1.trans b2).trans E23
  have hbw:w.heap.size≤b5:=by rw[hb5];exact (b1.trans b2).size
  have HIK:=zH hik
  have HI1:=zH hi1
  have HNN:=zH hn
  clear v0 hn hi hik hi1
  go_upto_region 4 with fail
  rw [←hW3]
  rw [←hb5]
  clear hW3 hb5
  have k2:W3.cell? ⟨b5,2,none⟩=some (.int .i64 n.kind):=N3.cell 2
  have k1:W3.cell? ⟨b5,1,none⟩=some (.int .i64 n.dev):=N3.cell 1
  have kz:=N3.lt
  cases i
  · have hE:Hid (aboveF S no=0):=by show _=_;rw[hm.out,if_neg (by rw[HIK.out rfl];decide)]
    clear hm
    go_wp2_with fail
    go_ret
    exact Ret.mk (ret_int hE.out.symm) E3
  · by_cases c1 : n.kind = 1
    · have t1 : (n.kind == 1)=true:=by simpa using c1
      have t1b:(n.kind != 1)=false:=by simpa using c1
      have hno:=HI1.out rfl
      have hm2:Hid (aboveF S no=if rootF S.devs n.dev=no∧1<n.dev then (getN S.nodes (devN S.devs n.dev).over).up else n.up):=by show _=_;rw[hm.out,if_pos c1]
      clear hm c1
      go_wp2_with fail
      refine (proot_any B g S n.dev _ (h.ext E3) hd (by omega)).mono ?_
      rintro e w4 ⟨rfl,b4⟩
      have N4:=N3.ext b4
      have E4:=E3.trans b4
      clear k1 k2 kz
      have k1:w4.cell? ⟨b5,1,none⟩=some (.int .i64 n.dev):=N4.cell 1
      have kz:=N4.lt
      by_cases c2:rootF S.devs n.dev=no
      · have t2 : (rootF S.devs n.dev == no)=true:=by simpa using c2
        by_cases c3:1<n.dev
        · have t3 : decide (1<n.dev)=true:=decide_eq_true c3
          have C23:=zH (And.intro c2 c3)
          clear c2 c3
          go_upto_region 7 with fail
          obtain ⟨c2,c3⟩:=C23.out
          rcases rootF_zero hr n.dev with⟨r1,_⟩|⟨k,hk,e1,_,e3,_,_,_⟩
          · exfalso;omega
          have hm3:Hid (aboveF S no=(getN S.nodes S.devs[k].over).up):=by show _=_;rw[hm2.out,if_pos ⟨c2,c3⟩,e3]
          clear hm2
          obtain ⟨ov,hov⟩:∃ov,ov=S.devs[k].over:=⟨_,rfl⟩
          obtain ⟨A7,c7,ok7,C7⟩:=tget_fix B g S ov w4 (h.ext E4)
          obtain ⟨_,_,cd4,hW4,hD4⟩:=id (h.ext E4)
          obtain ⟨_,d1,_,_,_,_⟩:=RowD.at_ hD4 k hk
          rw [←hov]at d1 hm3
          obtain ⟨m,hm7⟩:∃m,m=getN S.nodes ov:=⟨_,rfl⟩
          obtain ⟨i7,hi7⟩:∃i7,i7=isN S.nodes ov:=⟨_,rfl⟩
          rw [←hm7]at ok7 C7 hm3
          rw [←hi7]at C7
          have HC7:=zH C7
          have hl4:=(h.ext E4).lt
          have u0:∀u:Gr w4,u.w.cell? ⟨g.bW,0,none⟩=some (.pointer (some ⟨g.bT,0,none⟩)):=Gr.cell hW4.lt (hW4.cell 0)
          have u1:∀u:Gr w4,u.w.cell? ⟨g.bW,1,none⟩=some (.slice (some ⟨g.bD,0,none⟩) S.devs.length cd4):=Gr.cell hW4.lt (hW4.cell 1)
          have u5:∀u:Gr w4,u.w.cell? ⟨b5,1,none⟩=some (.int .i64 n.dev):=Gr.cell N4.lt (N4.cell 1)
          have ud:∀u:Gr w4,u.w.cell? ⟨g.bD,k*6+1,none⟩=some (.int .i64 ov):=Gr.cell hl4.2.2.2 d1
          have y0:(0:Int)≤n.dev-1:=by rw[e1];omega
          have y1:n.dev-1<(S.devs.length:Int):=by rw[e1];omega
          have y2:(n.dev-1).toNat=k:=by rw[e1];omega
          have y3:IntKind.i64.wrap (n.dev-1)=n.dev-1:=wrap_i64_in (by omega) (by omega)
          have y4:1≤n.dev:=by omega
          have y5:n.dev.toNat-1=k:=by omega
          clear d1 hW4 hD4 e1 e3 hov hm7 hi7 C7 k1 c2 c3 t2 t3
          go_cut [] (fun wc=>∃w0,Ext w4 w0∧Only [b5] w0 wc∧Has wc b5 (.cells #[.int .i64 m.no,.int .i64 m.dev,.int .i64 m.kind,.int .i64 m.mode,.int .i64 m.uid,.int .i64 m.gid,.int .i64 m.mtime,.int .i64 m.ctime,.int .i64 m.links,.int .i64 m.up,.string (bs m.data),.slice A7 m.ents.length c7] 66))
          case first =>
            refine wp_region_node w4 18 5 52 b5 m n A7 A c7 c N4 _ (by kernel_rfl) (by kernel_rfl) rfl rfl ((Ext.refl _).drew) ?_
            simp only[List.take_succ_cons,List.take_zero,List.drop_succ_cons,List.drop_nil]
            repeat (refine wpQuietR_step (fun K hK=>?_)
                    go_simp
                    first
                      | (refine hK _ ?_;clear hK K)
                      | (apply Exists.intro
                         refine ⟨fun u=>?_,hK _ ?_⟩
                         ((with_reducible refine (HC7.out _ (Gr.h _)).mono ?_);rintro e w'' ⟨rfl,hx⟩;exact⟨rfl,hx⟩)
                         clear hK K))
            refine wpQuietR_nil ⟨rfl,rfl,?_⟩
            refine wpQuietR_nil ?_
            intro w' hw'
            go_wp2_with fail
            go_meet
            exact hw'
          case rest =>
          obtain ⟨w0,E40,O,N5⟩:=hcut
          have k9:wc.cell? ⟨b5,9,none⟩=some (.int .i64 m.up):=N5.cell 9
          have kz5:=N5.lt
          clear kz y0 y1 y2 y3 y4 y5 u0 u1 u5 ud
          go_wp2_with fail
          go_ret
          exact Ret.mk (ret_int hm3.out.symm) (O.after (E4.trans E40) (by intro x hx;rw[List.mem_singleton]at hx;omega))
        · have t3:decide (1<n.dev)=false:=decide_eq_false c3
          have hE:Hid (aboveF S no=n.up):=by show _=_;rw[hm2.out,if_neg (fun h=>c3 h.2)]
          have k9:w4.cell? ⟨b5,9,none⟩=some (.int .i64 n.up):=N4.cell 9
          clear hm2 c2 c3
          go_wp2_with fail
          go_ret
          exact Ret.mk (ret_int hE.out.symm) E4
      · have t2:(rootF S.devs n.dev == no)=false:=by simpa using c2
        have hE:Hid (aboveF S no=n.up):=by show _=_;rw[hm2.out,if_neg (fun h=>c2 h.1)]
        have k9:w4.cell? ⟨b5,9,none⟩=some (.int .i64 n.up):=N4.cell 9
        clear hm2 c2
        go_wp2_with fail
        go_ret
        exact Ret.mk (ret_int hE.out.symm) E4
    · have t1:(n.kind == 1)=false:=by simpa using c1
      have t1b:(n.kind != 1)=true:=by simpa using c1
      have hE:Hid (aboveF S no=0):=by show _=_;rw[hm.out,if_neg c1]
      clear hm c1
      go_wp2_with fail
      go_ret
      exact Ret.mk (ret_int hE.out.symm) E3
theorem rabove_any (B : Nat) (g:GhF) (S:TreeD) (X:Xtra) (no:Int) (w:World) (h:FAt w B g S X) (hl:S.nodes.length≤1000000) (hd2:S.devs.length≤8) (hr:RootsOk S.devs) (hu:NosUp S.nodes S.last) :
    Calls Tryz.prog 83 #[.pointer (some ⟨g.bF,0,none⟩),.int .i64 no] w (Ret w (.int .i64 (aboveF S no))):=by
  have hm:Hid (aboveF S no=if (getN S.nodes no).kind=1 then if rootF S.devs (getN S.nodes no).dev=no∧1<(getN S.nodes no).dev then (getN S.nodes (devN S.devs (getN S.nodes no).dev).over).up else (getN S.nodes no).up else 0):=by show _=_;rfl
  go_enter Tryz.func83,Tryz.ntmps83
  go_wp2_with fail
  refine (rget_any B g S X no _ h hl hu).mono ?_
  rintro e w2 ⟨A,c,rfl,ok2,b2⟩
  have hi1:(getN S.nodes no).kind=1→1≤no:=fun hk=>by
    obtain ⟨k,hk,e⟩:=isN_iff.1 (isN_kind hk)
    have:=(hu.2 _ (List.getElem_mem hk)).1
    omega
  obtain ⟨n,hn⟩:∃n,n=getN S.nodes no:=⟨_,rfl⟩
  rw [←hn]at ok2 hm hi1
  rw [←hn]
  obtain ⟨W3,hW3⟩:∃W3,W3=w2.alloc (.cells #[.int .i64 n.no,.int .i64 n.dev,.int .i64 n.kind,.int .i64 n.mode,.int .i64 n.uid,.int .i64 n.gid,.int .i64 n.mtime,.int .i64 n.ctime,.int .i64 n.links,.int .i64 n.up,.string (bs n.data),.slice A n.ents.length c] 66):=⟨_,rfl⟩
  have E23:Ext w2 W3:=by rw[hW3];exact (Ext.refl _).alloc _
  obtain ⟨b5,hb5⟩:∃b,b=w2.heap.size:=⟨_,rfl⟩
  have N3:Has W3 b5 (.cells #[.int .i64 n.no,.int .i64 n.dev,.int .i64 n.kind,.int .i64 n.mode,.int .i64 n.uid,.int .i64 n.gid,.int .i64 n.mtime,.int .i64 n.ctime,.int .i64 n.links,.int .i64 n.up,.string (bs n.data),.slice A n.ents.length c] 66):=by rw[hW3,hb5];exact Has.new _ _
  have E3:Ext w W3:=b2.trans E23
  have hbw:w.heap.size≤b5:=by rw[hb5];exact b2.size
  have HI1:=zH hi1
  have HNN:=zH hn
  clear hn hi1
  go_upto_region 2 with fail
  rw [←hW3]
  rw [←hb5]
  clear hW3 hb5
  have k2:W3.cell? ⟨b5,2,none⟩=some (.int .i64 n.kind):=N3.cell 2
  have k1:W3.cell? ⟨b5,1,none⟩=some (.int .i64 n.dev):=N3.cell 1
  have kz:=N3.lt
  by_cases c1:n.kind=1
  · have t1 : (n.kind == 1)=true:=by simpa using c1
    have t1b:(n.kind != 1)=false:=by simpa using c1
    have hno:=HI1.out c1
    have hm2:Hid (aboveF S no=if rootF S.devs n.dev=no∧1<n.dev then (getN S.nodes (devN S.devs n.dev).over).up else n.up):=by show _=_;rw[hm.out,if_pos c1]
    clear hm c1
    by_cases c3:1<n.dev
    · have t3 : decide (1<n.dev)=true:=decide_eq_true c3
      have C3:=zH c3
      go_wp2_with fail
      refine (rroot_any B g S X n.dev _ (h.ext E3) (by omega)).mono ?_
      rintro e w4 ⟨rfl,b4⟩
      have N4:=N3.ext b4
      have E4:=E3.trans b4
      clear k1 k2 kz
      have k1:w4.cell? ⟨b5,1,none⟩=some (.int .i64 n.dev):=N4.cell 1
      have kz:=N4.lt
      by_cases c2:rootF S.devs n.dev=no
      · have t2 : (rootF S.devs n.dev == no)=true:=by simpa using c2
        have C2:=zH c2
        clear c2 c3
        go_upto_region 5 with fail
        have c2:=C2.out
        have c3:=C3.out
        rcases rootF_zero hr n.dev with⟨r1,_⟩|⟨k,hk,e1,_,e3,_,_,_⟩
        · exfalso;omega
        have hm3:Hid (aboveF S no=(getN S.nodes S.devs[k].over).up):=by show _=_;rw[hm2.out,if_pos ⟨c2,c3⟩,e3]
        obtain ⟨ov,hov⟩:∃ov,ov=S.devs[k].over:=⟨_,rfl⟩
        obtain ⟨A7,c7,ok7,C7⟩:=rget_fix B g S X ov w4 (h.ext E4) hl hu
        obtain ⟨_,cn4,cd4,hW4,_,hD4⟩:=id (h.ext E4)
        obtain ⟨_,d1,_,_,_,_⟩:=RowD.at_ hD4 k hk
        rw [←hov]at d1 hm3
        obtain ⟨m,hm7⟩:∃m,m=getN S.nodes ov:=⟨_,rfl⟩
        rw [←hm7]at ok7 C7 hm3
        have HC7:=zH C7
        have hl4:=(h.ext E4).lt
        have u1:∀u:Gr w4,u.w.cell? ⟨g.bF,1,none⟩=some (.slice (some ⟨g.bE,0,none⟩) S.devs.length cd4):=Gr.cell hW4.lt (hW4.cell 1)
        have u5:∀u:Gr w4,u.w.cell? ⟨b5,1,none⟩=some (.int .i64 n.dev):=Gr.cell N4.lt (N4.cell 1)
        have ud:∀u:Gr w4,u.w.cell? ⟨g.bE,k*6+1,none⟩=some (.int .i64 ov):=Gr.cell hl4.2.2 d1
        have y0:(0:Int)≤n.dev-1:=by rw[e1];omega
        have y1:n.dev-1<(S.devs.length:Int):=by rw[e1];omega
        have y2:(n.dev-1).toNat=k:=by rw[e1];omega
        have y3:IntKind.i64.wrap (n.dev-1)=n.dev-1:=wrap_i64_in (by omega) (by omega)
        have y4:1≤n.dev:=by omega
        have y5:n.dev.toNat-1=k:=by omega
        clear d1 hW4 hD4 e1 e3 hov hm7 C7 k1 c2 c3 t2 t3 hm2
        go_cut [] (fun wc=>∃w0,Ext w4 w0∧Only [b5] w0 wc∧Has wc b5 (.cells #[.int .i64 m.no,.int .i64 m.dev,.int .i64 m.kind,.int .i64 m.mode,.int .i64 m.uid,.int .i64 m.gid,.int .i64 m.mtime,.int .i64 m.ctime,.int .i64 m.links,.int .i64 m.up,.string (bs m.data),.slice A7 m.ents.length c7] 66))
        case first =>
          refine wp_region_node w4 12 5 34 b5 m n A7 A c7 c N4 _ (by kernel_rfl) (by kernel_rfl) rfl rfl ((Ext.refl _).drew) ?_
          simp only[List.take_succ_cons,List.take_zero,List.drop_succ_cons,List.drop_nil]
          repeat (refine wpQuietR_step (fun K hK=>?_)
                  go_simp
                  first
                    | (refine hK _ ?_;clear hK K)
                    | (apply Exists.intro
                       refine ⟨fun u=>?_,hK _ ?_⟩
                       ((with_reducible refine (HC7.out _ (Gr.h _)).mono ?_);rintro e w'' ⟨rfl,hx⟩;exact⟨rfl,hx⟩)
                       clear hK K))
          refine wpQuietR_nil ⟨rfl,rfl,?_⟩
          refine wpQuietR_nil ?_
          intro w' hw'
          go_wp2_with fail
          go_meet
          exact hw'
        case rest =>
        obtain ⟨w0,E40,O,N5⟩:=hcut
        have k9:wc.cell? ⟨b5,9,none⟩=some (.int .i64 m.up):=N5.cell 9
        have kz5:=N5.lt
        clear kz y0 y1 y2 y3 y4 y5 u1 u5 ud
        go_wp2_with fail
        go_ret
        exact Ret.mk (ret_int hm3.out.symm) (O.after (E4.trans E40) (by intro x hx;rw[List.mem_singleton]at hx;omega))
      · have t2:(rootF S.devs n.dev == no)=false:=by simpa using c2
        have hE:Hid (aboveF S no=n.up):=by show _=_;rw[hm2.out,if_neg (fun h=>c2 h.1)]
        have k9:w4.cell? ⟨b5,9,none⟩=some (.int .i64 n.up):=N4.cell 9
        clear hm2 c2 c3
        go_wp2_with fail
        go_ret
        exact Ret.mk (ret_int hE.out.symm) E4
    · have t3:decide (1<n.dev)=false:=decide_eq_false c3
      have hE:Hid (aboveF S no=n.up):=by show _=_;rw[hm2.out,if_neg (fun h=>c3 h.2)]
      have k9:W3.cell? ⟨b5,9,none⟩=some (.int .i64 n.up):=N3.cell 9
      clear hm2 c3
      go_wp2_with fail
      go_ret
      exact Ret.mk (ret_int hE.out.symm) E3
  · have t1:(n.kind == 1)=false:=by simpa using c1
    have t1b:(n.kind != 1)=true:=by simpa using c1
    have hE:Hid (aboveF S no=0):=by show _=_;rw[hm.out,if_neg c1]
    clear hm c1
    go_wp2_with fail
    go_ret
    exact Ret.mk (ret_int hE.out.symm) E3
def wiF (S:TreeD) (base:Int):Nat→Int→Bool
 | 0,_=>false
 | f+1,no=>if no=0 then false else if no=base then true else wiF S base f (aboveF S no)
structure Rank (S:TreeD) (r:Int→Nat):Prop where
 step:∀no,no≠0→aboveF S no≠0→aboveF S no≠no→r (aboveF S no)<r no
 top:∀no,r no≤S.nodes.length
def withinF (S:TreeD) (no base:Int):Bool:=wiF S base (S.nodes.length+1) no
theorem wi_zero (S:TreeD) (base:Int) (f:Nat):wiF S base f 0=false:=by cases f<;>simp[wiF]
theorem wi_stay {S:TreeD} {base no:Int} (h:aboveF S no=no) (hb:no≠base):∀f,wiF S base f no=false
 | 0=>rfl
 | f+1=>by
  unfold wiF;split
  ·rfl
  ·rw[h];exact wi_stay h hb f
theorem wi_stable {S:TreeD} {r:Int→Nat} (R:Rank S r) (base:Int):∀(n:Nat) (no:Int),r no≤n→∀f g,r no<f→r no<g→wiF S base f no=wiF S base g no:=by
 intro n
 induction n with
 | zero =>
  intro no hn f g hf hg
  match f,g,hf,hg with
  | f + 1, g+1,_,_ =>
   unfold wiF;split
   ·rfl
   ·split
    ·rfl
    ·rename_i h0 hb
     by_cases hu:aboveF S no=0
     ·rw[hu,wi_zero,wi_zero]
     ·by_cases hs:aboveF S no=no
      ·rw[hs,wi_stay hs hb,wi_stay hs hb]
      ·have:=R.step no h0 hu hs;omega
 | succ n ih =>
  intro no hn f g hf hg
  match f,g,hf,hg with
  | f + 1, g + 1,hf,hg =>
   unfold wiF;split
   ·rfl
   ·split
    ·rfl
    ·rename_i h0 hb
     by_cases hu:aboveF S no=0
     ·rw[hu,wi_zero,wi_zero]
     ·by_cases hs:aboveF S no=no
      ·rw[hs,wi_stay hs hb,wi_stay hs hb]
      ·have:=R.step no h0 hu hs
       exact ih _ (by omega) f g (by omega) (by omega)
theorem within_zero (S:TreeD) (base:Int):withinF S 0 base=false:=wi_zero S base _
theorem within_base {S:TreeD} {no base:Int} (h0:no≠0) (h:no=base):withinF S no base=true:=by
 unfold withinF wiF;rw[if_neg h0,if_pos h]
theorem within_step {S:TreeD} {r:Int→Nat} (R:Rank S r) {no base:Int} (h0:no≠0) (hb:no≠base) (hs:aboveF S no≠no):withinF S no base=withinF S (aboveF S no) base:=by
 have e:withinF S no base=wiF S base S.nodes.length (aboveF S no):=by
  conv=>lhs;unfold withinF wiF
  rw [if_neg h0,if_neg hb]
 rw [e]
 by_cases hu:aboveF S no=0
 ·rw[hu,within_zero,wi_zero]
 ·have h1:=R.step no h0 hu hs
  have h2:=R.top no;exact wi_stable R base _ _ (Nat.le_refl _) _ _ (by omega) (by omega)
theorem field_node (a0 a1 a2 a3 a4 a5 a6 a7 a8 a9 a10 a11:Value) (w:World) :
  (Instr.field 66 (.agg #[a0,a1,a2,a3,a4,a5,a6,a7,a8,a9,a10,a11]) 11).run Tryz.prog w=.ok a11 w∧(Instr.field 66 (.agg #[a0,a1,a2,a3,a4,a5,a6,a7,a8,a9,a10,a11]) 2).run Tryz.prog w=.ok a2 w:=by
 constructor<;>kernel_rfl
def NamesOk (S:TreeD):Prop:=∀n∈S.nodes,∀x∈n.ents,x.1≠[]∧x.1.length≤255
theorem Ext.grownBy {w w':World} (h:Ext w w'):w.grownBy w' none:=⟨h.os,h.tape,h.output,h.size,fun k hk _=>Below.block h k hk⟩
attribute [local irreducible] wpQuiet
end Go.Proofs.YtpibnfdolojpcaaGreat
namespace Go.Proofs.YtpibnfdolojpcaaGreat
open Go.ChangeShapes Go.WideShapes Go.ChangeAt Go.RowKit
def bitOn (m:Int) (i:Nat):Bool:=m / 2 ^ i % 2 == 1
theorem bit_and (mode:Int) (i:Nat):(bits BinOp.and IntKind.i64 (mode / 2 ^ i) 1 == 1)=bitOn mode i:=by rw[and_1];rfl
def hasW (m want:Int):Bool:=bits .and .i64 (bits .and .i64 m want) 7 == bits .and .i64 want 7
def part (u g uid gid mode:Int):Int:=if u=uid then mode / 64 else if g=gid then mode / 8 else mode
def mayB (u g uid gid mode want:Int):Bool:=if u=0 then true else hasW (part u g uid gid mode) want
theorem mayB_0 (g uid gid mode want:Int) {u:Int} (h:u=0):mayB u g uid gid mode want=true:=by unfold mayB;rw[if_pos h]
theorem mayB_1 (g gid mode want:Int) {u uid:Int} (h:¬u=0) (h1:u=uid):mayB u g uid gid mode want=hasW (mode / 64) want:=by unfold mayB part;rw[if_neg h,if_pos h1]
theorem mayB_2 (mode want:Int) {u g uid gid:Int} (h:¬u=0) (h1:¬u=uid) (h2:g=gid):mayB u g uid gid mode want=hasW (mode / 8) want:=by unfold mayB part;rw[if_neg h,if_neg h1,if_pos h2]
theorem mayB_3 (mode want:Int) {u g uid gid:Int} (h:¬u=0) (h1:¬u=uid) (h2:¬g=gid):mayB u g uid gid mode want=hasW mode want:=by unfold mayB part;rw[if_neg h,if_neg h1,if_neg h2]
theorem may_any (u g uid gid mode want:Int) (w:World) :
  Calls Tryz.prog 95 #[.agg #[.int .i64 u,.int .i64 g],.int .i64 uid,.int .i64 gid,.int .i64 mode,.int .i64 want] w (Ret w (.bool (mayB u g uid gid mode want))):=by
 by_cases h0:u=0
 ·have hfin:=zH (mayB_0 g uid gid mode want h0)
  have b0:(u == 0)=true:=beq_iff_eq.2 h0;clear h0;go_enter Tryz.func95,Tryz.ntmps95;go_wp2_with fail;go_ret;exact Ret.mk (by rw[hfin.out];rfl) ((Ext.refl _).alloc _)
 ·have b0:(u == 0)=false:=beq_eq_false_iff_ne.2 h0
  by_cases h1:u=uid
  ·have hfin:=zH (mayB_1 g gid mode want h0 h1)
   have b1:(u == uid)=true:=beq_iff_eq.2 h1;clear h0 h1;go_enter Tryz.func95,Tryz.ntmps95;go_wp2_with fail;go_ret;exact Ret.mk (by rw[hfin.out];rfl) ((Ext.refl _).alloc _)
  ·have b1:(u == uid)=false:=beq_eq_false_iff_ne.2 h1
   by_cases h2:g=gid
   ·have hfin:=zH (mayB_2 mode want h0 h1 h2)
    have b2:(g == gid)=true:=beq_iff_eq.2 h2;clear h0 h1 h2;go_enter Tryz.func95,Tryz.ntmps95;go_wp2_with fail;go_ret;exact Ret.mk (by rw[hfin.out];rfl) ((Ext.refl _).alloc _)
   ·have hfin:=zH (mayB_3 mode want h0 h1 h2)
    have b2:(g == gid)=false:=beq_eq_false_iff_ne.2 h2;clear h0 h1 h2;go_enter Tryz.func95,Tryz.ntmps95;go_wp2_with fail;go_ret;exact Ret.mk (by rw[hfin.out];rfl) ((Ext.refl _).alloc _)
theorem bitOn_nat (x:Int) (i:Nat) (hi:i≤2):bitOn x i=((x % 18446744073709551616).toNat).testBit i:=by
 have:i=0∨i=1∨i=2:=by omega
 rw [Nat.testBit_eq_decide_div_mod_eq];unfold bitOn;rcases this with rfl|rfl|rfl<;>rw[Bool.eq_iff_iff,beq_iff_eq,decide_eq_true_iff]<;>omega
theorem mod8_bits (x:Int):x % 8=(if bitOn x 0=true then 1 else 0)+(if bitOn x 1=true then 2 else 0)+(if bitOn x 2=true then 4 else 0):=by
 unfold bitOn;simp only[beq_iff_eq];split<;>split<;>split<;>omega
theorem wrap_mod (n:Nat) (h:n<2 ^ 64):((((n:Int)+9223372036854775808) % 18446744073709551616-9223372036854775808) % 18446744073709551616).toNat=n:=by omega
theorem bitOn_and (x y:Int) (i:Nat) (hi:i≤2):bitOn (bits .and .i64 x y) i=(bitOn x i&&bitOn y i):=by
 have h:bits .and .i64 x y=IntKind.i64.wrap ((BitVec.ofInt 64 x &&& BitVec.ofInt 64 y).toNat:Int):=rfl;rw [h,IntKind.wrap_i64,bitOn_nat _ i hi,bitOn_nat x i hi,bitOn_nat y i hi,←Nat.testBit_and,←ofInt_toNat,←ofInt_toNat x,←ofInt_toNat y,←BitVec.toNat_and];rw [ofInt_toNat,wrap_mod _ (BitVec.ofInt 64 x &&& BitVec.ofInt 64 y).isLt]
theorem has_bits (m want:Int):hasW m want=((!bitOn want 0 || bitOn m 0)&&((!bitOn want 1 || bitOn m 1)&&(!bitOn want 2 || bitOn m 2))):=by
 unfold hasW;rw [and_7,and_7,mod8_bits,mod8_bits want,bitOn_and _ _ 0 (by omega),bitOn_and _ _ 1 (by omega),bitOn_and _ _ 2 (by omega)]
 cases bitOn want 0<;>cases bitOn want 1<;>cases bitOn want 2<;>cases bitOn m 0<;>cases bitOn m 1<;>cases bitOn m 2<;>rfl
theorem bitOn_div (m:Int) (k i:Nat):bitOn (m / 2 ^ k) i=bitOn m (k+i):=by
 unfold bitOn;rw [Int.pow_add,Int.ediv_ediv_of_nonneg (Int.le_of_lt (Int.pow_pos (by decide)))]
theorem div_half (m:Int) (k:Nat):m / 2 ^ k / 2=m / 2 ^ (k+1):=by
 rw [Int.ediv_ediv_of_nonneg (Int.le_of_lt (Int.pow_pos (by decide))),Int.pow_succ]
theorem rbit_nat (mode:Int) (n:Nat) (w:World) (hn:n≤1000):Calls Tryz.prog 104 #[.int .i64 mode,.int .i64 n] w (Ret w (.bool (bitOn mode n))):=by
 go_enter Tryz.func104,Tryz.ntmps104;go_wp2_with fail;go_loop [0,5] (fun m i=>∃k:Nat,k≤n∧i=.int .i64 k∧m=.int .i64 (mode / 2 ^ k)) (fun _ i=>n-(intOf i).toNat)
 case atStart=>exact⟨0,by omega,rfl,by simp⟩
 case round =>
  obtain ⟨k,hk,rfl,rfl⟩:=hrel
  by_cases hlt:k<n
  ·have hd:=zH (div_half mode k)
   go_wp2_with fail;go_round
   case rel=>exact⟨k+1,by omega,by go_num,by rw[←hd.out]⟩
   case measure=>simp[intOf];omega
  ·obtain rfl:k=n:=by omega
   have hfin:=zH (bit_and mode k);go_wp2_with fail;go_ret;exact Ret.mk (by rw[hfin.out];rfl) (Ext.refl _)
theorem rbit_any (mode at_:Int) (w:World) (h0:0≤at_) (h1:at_≤1000):Calls Tryz.prog 104 #[.int .i64 mode,.int .i64 at_] w (Ret w (.bool (bitOn mode at_.toNat))):=by
 obtain ⟨n,rfl⟩:=Int.eq_ofNat_of_zero_le h0;exact rbit_nat mode n w (by omega)
def rhas (m want:Int) (f:Nat) (k:Nat):Bool:=(List.range k).all fun j=>!bitOn want j || bitOn m (f+j)
theorem rhas_succ (m want:Int) (f k:Nat):rhas m want f (k+1)=(rhas m want f k&&(!bitOn want k || bitOn m (f+k))):=by
 simp [rhas,List.range_succ]
theorem rhas_3 (m want:Int) (f:Nat):rhas m want f 3=hasW (m / 2 ^ f) want:=by
 rw [has_bits,bitOn_div,bitOn_div,bitOn_div];simp[rhas,List.range,List.range.loop]
theorem rhas_mono (m want:Int) (f:Nat):∀k j,rhas m want f (k+j)=true→rhas m want f k=true
 | _,0,h=>h
 | k,j+1,h=>rhas_mono m want f k j (by rw[←Nat.add_assoc,rhas_succ]at h;simp at h;exact h.1)
def fromOf (u g uid gid:Int):Nat:=if u=uid then 6 else if g=gid then 3 else 0
theorem mayB_has (u g uid gid mode want:Int):mayB u g uid gid mode want=(u == 0 || rhas mode want (fromOf u g uid gid) 3):=by
 rw [rhas_3];unfold mayB part fromOf
 by_cases h0:u=0
 ·rw[if_pos h0];simp[h0]
 ·rw [if_neg h0,beq_eq_false_iff_ne.2 h0,Bool.false_or]
  split
  ·rfl
  ·split<;>simp
theorem mayB_true {u g uid gid mode want:Int} (h:rhas mode want (fromOf u g uid gid) 3=true):mayB u g uid gid mode want=true:=by rw[mayB_has,h];simp
theorem mayB_zero {u g uid gid mode want:Int} {k:Nat} (hk:k<3) (h:(bitOn want k&&!bitOn mode (fromOf u g uid gid+k))=true):mayB u g uid gid mode want=(u == 0):=by
 have : rhas mode want (fromOf u g uid gid) 3=false:=by
  cases hh:rhas mode want (fromOf u g uid gid) 3 with
  | false=>rfl
  | true =>
   have h1:=rhas_mono mode want (fromOf u g uid gid) (k+1) (3-(k+1)) (by rw[show k+1+(3-(k+1))=3 from by omega];exact hh);rw [rhas_succ]at h1;simp at h1 h;rcases h1.2 with h2|h2
   ·rw[h.1]at h2;cases h2
   ·rw[h.2]at h2;cases h2
 rw [mayB_has,this];simp
theorem rmay_any (u g uid gid mode want:Int) (w:World) :
  Calls Tryz.prog 103 #[.agg #[.int .i64 u,.int .i64 g],.int .i64 uid,.int .i64 gid,.int .i64 mode,.int .i64 want] w (Ret w (.bool (mayB u g uid gid mode want))):=by
 have A0:Has (w.alloc (.cells #[.int .i64 u,.int .i64 g] 27)) w.heap.size (.cells #[.int .i64 u,.int .i64 g] 27):=Has.new _ _
 by_cases h1:u=uid
 ·have hfr : Hid (fromOf u g uid gid=6):=by show _=_;unfold fromOf;rw[if_pos h1]
  have b1:(u == uid)=true:=beq_iff_eq.2 h1;clear h1;go_enter Tryz.func103,Tryz.ntmps103;go_wp2_with fail;go_loopw [12] (fun i wr=>∃k:Nat,k≤3∧i=.int .i64 k∧Hid (rhas mode want 6 k=true)∧Ext (w.alloc (.cells #[.int .i64 u,.int .i64 g] 27)) wr) (fun i _=>3-(intOf i).toNat)
  case atStart=>exact⟨0,by omega,rfl,rfl,Ext.refl _⟩
  case round =>
   obtain ⟨k,hk,rfl,hr,hx⟩:=hrel
   by_cases hlt:k<3
   ·go_wp2_with fail
    refine (rbit_any _ _ _ (by omega) (by omega)).mono ?_;rintro e w1 ⟨rfl,b1⟩;rw [Int.toNat_natCast]
    cases hw:bitOn want k with
    | false =>
     have hs:Hid (rhas mode want 6 (k+1)=true):=by show _=_;rw[rhas_succ,hr.out,hw];rfl
     clear hw;go_wp2_with fail;go_roundw
     case rel=>exact⟨k+1,by omega,by go_num,hs,hx.trans b1⟩
     case measure=>simp[intOf];omega
    | true =>
     have hW:Hid (bitOn want k=true):=hw;clear hw;go_wp2_with fail;refine (rbit_any _ _ _ (by omega) (by omega)).mono ?_;rintro e w2 ⟨rfl,b2⟩;rw [show (6+(k:Int)).toNat=6+k from by omega]
     cases hm:bitOn mode (6+k) with
     | true =>
      have hs:Hid (rhas mode want 6 (k+1)=true):=by show _=_;rw[rhas_succ,hr.out,hm];simp
      clear hm;go_wp2_with fail;go_roundw
      case rel=>exact⟨k+1,by omega,by go_num,hs,(hx.trans b1).trans b2⟩
      case measure=>simp[intOf];omega
     | false =>
      have hs:Hid (mayB u g uid gid mode want=(u == 0)):=by show _=_;refine mayB_zero (k:=k) hlt ?_;rw[hfr.out,hW.out,hm];rfl
      clear hm;have A1:=((A0.ext hx).ext b1).ext b2;have hc:∀i,w2.cell? ⟨w.heap.size,i,none⟩=_:=fun i=>A1.cell i
      go_wp2_with fail;go_ret;exact Ret.mk (by rw[hs.out];rfl) ((((Ext.refl _).alloc _).trans hx).trans (b1.trans b2))
   ·obtain rfl:k=3:=by omega
    have hs:Hid (mayB u g uid gid mode want=true):=by show _=_;refine mayB_true ?_;rw[hfr.out];exact hr.out
    go_wp2_with fail;go_ret;exact Ret.mk (by rw[hs.out];rfl) (((Ext.refl _).alloc _).trans hx)
 ·have b1 : (u == uid)=false:=beq_eq_false_iff_ne.2 h1
  by_cases h2:g=gid
  ·have hfr : Hid (fromOf u g uid gid=3):=by show _=_;unfold fromOf;rw[if_neg h1,if_pos h2]
   have b2:(g == gid)=true:=beq_iff_eq.2 h2;clear h1 h2;go_enter Tryz.func103,Tryz.ntmps103;go_wp2_with fail;go_loopw [12] (fun i wr=>∃k:Nat,k≤3∧i=.int .i64 k∧Hid (rhas mode want 3 k=true)∧Ext (w.alloc (.cells #[.int .i64 u,.int .i64 g] 27)) wr) (fun i _=>3-(intOf i).toNat)
   case atStart=>exact⟨0,by omega,rfl,rfl,Ext.refl _⟩
   case round =>
    obtain ⟨k,hk,rfl,hr,hx⟩:=hrel
    by_cases hlt:k<3
    ·go_wp2_with fail
     refine (rbit_any _ _ _ (by omega) (by omega)).mono ?_;rintro e w1 ⟨rfl,b1⟩;rw [Int.toNat_natCast]
     cases hw:bitOn want k with
     | false =>
      have hs:Hid (rhas mode want 3 (k+1)=true):=by show _=_;rw[rhas_succ,hr.out,hw];rfl
      clear hw;go_wp2_with fail;go_roundw
      case rel=>exact⟨k+1,by omega,by go_num,hs,hx.trans b1⟩
      case measure=>simp[intOf];omega
     | true =>
      have hW:Hid (bitOn want k=true):=hw;clear hw;go_wp2_with fail;refine (rbit_any _ _ _ (by omega) (by omega)).mono ?_;rintro e w2 ⟨rfl,b2⟩;rw [show (3+(k:Int)).toNat=3+k from by omega]
      cases hm:bitOn mode (3+k) with
      | true =>
       have hs:Hid (rhas mode want 3 (k+1)=true):=by show _=_;rw[rhas_succ,hr.out,hm];simp
       clear hm;go_wp2_with fail;go_roundw
       case rel=>exact⟨k+1,by omega,by go_num,hs,(hx.trans b1).trans b2⟩
       case measure=>simp[intOf];omega
      | false =>
       have hs:Hid (mayB u g uid gid mode want=(u == 0)):=by show _=_;refine mayB_zero (k:=k) hlt ?_;rw[hfr.out,hW.out,hm];rfl
       clear hm;have A1:=((A0.ext hx).ext b1).ext b2;have hc:∀i,w2.cell? ⟨w.heap.size,i,none⟩=_:=fun i=>A1.cell i
       go_wp2_with fail;go_ret;exact Ret.mk (by rw[hs.out];rfl) ((((Ext.refl _).alloc _).trans hx).trans (b1.trans b2))
    ·obtain rfl:k=3:=by omega
     have hs:Hid (mayB u g uid gid mode want=true):=by show _=_;refine mayB_true ?_;rw[hfr.out];exact hr.out
     go_wp2_with fail;go_ret;exact Ret.mk (by rw[hs.out];rfl) (((Ext.refl _).alloc _).trans hx)
  ·have hfr : Hid (fromOf u g uid gid=0):=by show _=_;unfold fromOf;rw[if_neg h1,if_neg h2]
   have b2:(g == gid)=false:=beq_eq_false_iff_ne.2 h2;clear h1 h2;go_enter Tryz.func103,Tryz.ntmps103;go_wp2_with fail;go_loopw [12] (fun i wr=>∃k:Nat,k≤3∧i=.int .i64 k∧Hid (rhas mode want 0 k=true)∧Ext (w.alloc (.cells #[.int .i64 u,.int .i64 g] 27)) wr) (fun i _=>3-(intOf i).toNat)
   case atStart=>exact⟨0,by omega,rfl,rfl,Ext.refl _⟩
   case round =>
    obtain ⟨k,hk,rfl,hr,hx⟩:=hrel
    by_cases hlt:k<3
    ·go_wp2_with fail
     refine (rbit_any _ _ _ (by omega) (by omega)).mono ?_;rintro e w1 ⟨rfl,b1⟩;rw [Int.toNat_natCast]
     cases hw:bitOn want k with
     | false =>
      have hs:Hid (rhas mode want 0 (k+1)=true):=by show _=_;rw[rhas_succ,hr.out,hw];rfl
      clear hw;go_wp2_with fail;go_roundw
      case rel=>exact⟨k+1,by omega,by go_num,hs,hx.trans b1⟩
      case measure=>simp[intOf];omega
     | true =>
      have hW:Hid (bitOn want k=true):=hw;clear hw;go_wp2_with fail;refine (rbit_any _ _ _ (by omega) (by omega)).mono ?_;rintro e w2 ⟨rfl,b2⟩;rw [show ((k:Int)).toNat=0+k from by omega]
      cases hm:bitOn mode (0+k) with
      | true =>
       have hs:Hid (rhas mode want 0 (k+1)=true):=by show _=_;rw[rhas_succ,hr.out,hm];simp
       clear hm;go_wp2_with fail;go_roundw
       case rel=>exact⟨k+1,by omega,by go_num,hs,(hx.trans b1).trans b2⟩
       case measure=>simp[intOf];omega
      | false =>
       have hs:Hid (mayB u g uid gid mode want=(u == 0)):=by show _=_;refine mayB_zero (k:=k) hlt ?_;rw[hfr.out,hW.out,hm];rfl
       clear hm;have A1:=((A0.ext hx).ext b1).ext b2;have hc:∀i,w2.cell? ⟨w.heap.size,i,none⟩=_:=fun i=>A1.cell i
       go_wp2_with fail;go_ret;exact Ret.mk (by rw[hs.out];rfl) ((((Ext.refl _).alloc _).trans hx).trans (b1.trans b2))
    ·obtain rfl:k=3:=by omega
     have hs:Hid (mayB u g uid gid mode want=true):=by show _=_;refine mayB_true ?_;rw[hfr.out];exact hr.out
     go_wp2_with fail;go_ret;exact Ret.mk (by rw[hs.out];rfl) (((Ext.refl _).alloc _).trans hx)
def fineB (u g:Int):Bool:=decide (0≤u)&&(decide (u≤2147483648)&&(decide (0≤g)&&decide (g≤2147483648)))
def ownsB (u o:Int):Bool:=u == 0 || u == o
def freeB (u dmode do_ no:Int):Bool:=!bitOn dmode 9 || (ownsB u do_ || ownsB u no)
theorem pfine_any (u g:Int) (w:World):Calls Tryz.prog 161 #[.agg #[.int .i64 u,.int .i64 g]] w (Ret w (.bool (fineB u g))):=by
 go_enter Tryz.func161,Tryz.ntmps161;go_wp2_with fail
 all_goals
  go_ret;exact Ret.mk (by simp[fineB, *]<;>omega) ((Ext.refl _).alloc _)
theorem powns_any (u g:Int) (x0 x1 x2 x3:Value) (o:Int) (x5 x6 x7 x8 x9 x10 x11:Value) (w:World) :
  Calls Tryz.prog 96 #[.agg #[.int .i64 u,.int .i64 g],.agg #[x0,x1,x2,x3,.int .i64 o,x5,x6,x7,x8,x9,x10,x11]] w (Ret w (.bool (ownsB u o))):=by
 cases h:(u == 0) with
 | true =>
  have hf:Hid (ownsB u o=true):=by show _=_;unfold ownsB;rw[h];rfl
  go_enter Tryz.func96,Tryz.ntmps96;go_wp2_with fail;go_ret;exact Ret.mk (by rw[hf.out];rfl) (((Ext.refl _).alloc _).alloc _)
 | false =>
  have hf:Hid (ownsB u o=(u == o)):=by show _=_;unfold ownsB;rw[h];rfl
  go_enter Tryz.func96,Tryz.ntmps96;go_wp2_with fail;go_ret;exact Ret.mk (by rw[hf.out];rfl) (((Ext.refl _).alloc _).alloc _)
theorem pnode_any (u g:Int) (x0 x1 x2:Value) (mode o gr:Int) (x6 x7 x8 x9 x10 x11:Value) (want:Int) (w:World) :
  Calls Tryz.prog 51 #[.agg #[.int .i64 u,.int .i64 g],.agg #[x0,x1,x2,.int .i64 mode,.int .i64 o,.int .i64 gr,x6,x7,x8,x9,x10,x11],.int .i64 want] w (Ret w (.bool (mayB u g o gr mode want))):=by
 go_enter Tryz.func51,Tryz.ntmps51;go_wp2_with fail;refine (may_any _ _ _ _ _ _ _).mono ?_;rintro e w1 ⟨rfl,b1⟩;go_wp2_with fail;go_ret;exact Ret.mk rfl ((((Ext.refl _).alloc _).alloc _).trans b1)
theorem rfine_any (u g:Int) (w:World):Calls Tryz.prog 128 #[.agg #[.int .i64 u,.int .i64 g]] w (Ret w (.bool (fineB u g))):=by
 go_enter Tryz.func128,Tryz.ntmps128;go_wp2_with fail
 all_goals
  go_ret;exact Ret.mk (by simp[fineB, *]<;>omega) ((Ext.refl _).alloc _)
theorem rowns_any (u g:Int) (x0 x1 x2 x3:Value) (o:Int) (x5 x6 x7 x8 x9 x10 x11:Value) (w:World) :
  Calls Tryz.prog 105 #[.agg #[.int .i64 u,.int .i64 g],.agg #[x0,x1,x2,x3,.int .i64 o,x5,x6,x7,x8,x9,x10,x11]] w (Ret w (.bool (ownsB u o))):=by
 cases h:(u == 0) with
 | true =>
  have hf:Hid (ownsB u o=true):=by show _=_;unfold ownsB;rw[h];rfl
  go_enter Tryz.func105,Tryz.ntmps105;go_wp2_with fail;go_ret;exact Ret.mk (by rw[hf.out];rfl) (((Ext.refl _).alloc _).alloc _)
 | false =>
  have hf:Hid (ownsB u o=(u == o)):=by show _=_;unfold ownsB;rw[h];rfl
  go_enter Tryz.func105,Tryz.ntmps105;go_wp2_with fail;go_ret;exact Ret.mk (by rw[hf.out];rfl) (((Ext.refl _).alloc _).alloc _)
theorem rnode_any (u g:Int) (x0 x1 x2:Value) (mode o gr:Int) (x6 x7 x8 x9 x10 x11:Value) (want:Int) (w:World) :
  Calls Tryz.prog 59 #[.agg #[.int .i64 u,.int .i64 g],.agg #[x0,x1,x2,.int .i64 mode,.int .i64 o,.int .i64 gr,x6,x7,x8,x9,x10,x11],.int .i64 want] w (Ret w (.bool (mayB u g o gr mode want))):=by
 go_enter Tryz.func59,Tryz.ntmps59;go_wp2_with fail;refine (rmay_any _ _ _ _ _ _ _).mono ?_;rintro e w1 ⟨rfl,b1⟩;go_wp2_with fail;go_ret;exact Ret.mk rfl ((((Ext.refl _).alloc _).alloc _).trans b1)
def ownE (S:TreeD) (cu no:Int):Int:=if isN S.nodes no=false then 5 else if ownsB cu (getN S.nodes no).uid=false then 4 else 0
def ownN (S:TreeD) (cu no:Int):NodeD:=if ownE S cu no=0 then getN S.nodes no else nodeZ
def OwnQ (w:World) (B:Nat) (S:TreeD) (cu no:Int) (e:Ending) (w':World):Prop:=
 ∃ A c,e=.returned (.tuple #[.agg #[.int .i64 (ownN S cu no).no,.int .i64 (ownN S cu no).dev,.int .i64 (ownN S cu no).kind,.int .i64 (ownN S cu no).mode,.int .i64 (ownN S cu no).uid,.int .i64 (ownN S cu no).gid,.int .i64 (ownN S cu no).mtime,.int .i64 (ownN S cu no).ctime,.int .i64 (ownN S cu no).links,.int .i64 (ownN S cu no).up,.string (bs (ownN S cu no).data),.slice A (ownN S cu no).ents.length c],.int .i64 (ownE S cu no)])∧NodeOk w' B (ownN S cu no) A c∧Ext w w'
theorem pown_any (B:Nat) (g:GhW) (S:TreeD) (cu cg no:Int) (w:World) (h:WAt w B g S) (hd:0<S.devs.length):Calls Tryz.prog 160 #[.pointer (some ⟨g.bW,0,none⟩),.agg #[.int .i64 cu,.int .i64 cg],.int .i64 no] w (OwnQ w B S cu no):=by
 have h0:=h;obtain ⟨h1,h2,cd,h3,h4⟩:=h;have hl0:((S.devs.length:Int) == 0)=false:=by simpa using (show ¬(S.devs.length:Int)=0 by omega)
 have E0:Ext w ((w.alloc (.cells #[.int .i64 cu,.int .i64 cg] 27)).alloc (.cells #[.int .i64 0,.int .i64 0,.int .i64 0,.int .i64 0,.int .i64 0,.int .i64 0,.int .i64 0,.int .i64 0,.int .i64 0,.int .i64 0,.string ⟨#[]⟩,.slice none 0 0] 66)):=((Ext.refl _).alloc _).alloc _;go_enter Tryz.func160,Tryz.ntmps160;go_wp2_with fail;refine (pdevs_any B g S _ (h0.ext E0) hd).mono ?_;rintro e w1 ⟨rfl,b1⟩;have E1:=E0.trans b1;have R0:=Has.new (w.alloc (.cells #[.int .i64 cu,.int .i64 cg] 27)) (.cells #[.int .i64 nodeZ.no,.int .i64 nodeZ.dev,.int .i64 nodeZ.kind,.int .i64 nodeZ.mode,.int .i64 nodeZ.uid,.int .i64 nodeZ.gid,.int .i64 nodeZ.mtime,.int .i64 nodeZ.ctime,.int .i64 nodeZ.links,.int .i64 nodeZ.up,.string (bs nodeZ.data),.slice none nodeZ.ents.length 0] 66);rw [World.size_alloc]at R0;have R1:=R0.ext b1;have C1:=((Has.new w (.cells #[.int .i64 cu,.int .i64 cg] 27)).alloc (.cells #[.int .i64 0,.int .i64 0,.int .i64 0,.int .i64 0,.int .i64 0,.int .i64 0,.int .i64 0,.int .i64 0,.int .i64 0,.int .i64 0,.string ⟨#[]⟩,.slice none 0 0] 66)).ext b1;have v0:w1.cell? ⟨g.bW,0,none⟩=some (.pointer (some ⟨g.bT,0,none⟩)):=(h3.ext E1).cell 0;have z1:=(h3.ext E1).lt;go_wp2_with fail;refine (tget_any B g.bT g.bM S.nodes S.last no _ (h2.ext E1)).mono ?_;rintro e w2 ⟨A2,k2,rfl,ok2,b2⟩;have R2:=R1.ext b2;have C2:=C1.ext b2;have hm:Hid (ownE S cu no=if isN S.nodes no=false then 5 else if ownsB cu (getN S.nodes no).uid=false then 4 else 0):=by show _=_;rfl
 have hm2:Hid (ownN S cu no=if ownE S cu no=0 then getN S.nodes no else nodeZ):=by show _=_;rfl
 obtain ⟨m,hmm⟩:∃m,m=getN S.nodes no:=⟨_,rfl⟩;rw [←hmm]at ok2 hm hm2⊢;obtain ⟨W3,hW3⟩:∃W3,W3=w2.alloc (.cells #[.int .i64 m.no,.int .i64 m.dev,.int .i64 m.kind,.int .i64 m.mode,.int .i64 m.uid,.int .i64 m.gid,.int .i64 m.mtime,.int .i64 m.ctime,.int .i64 m.links,.int .i64 m.up,.string (bs m.data),.slice A2 m.ents.length k2] 66):=⟨_,rfl⟩;have E23:Ext w2 W3:=by rw[hW3];exact (Ext.refl _).alloc _
 have N3:Has W3 w2.heap.size (.cells #[.int .i64 m.no,.int .i64 m.dev,.int .i64 m.kind,.int .i64 m.mode,.int .i64 m.uid,.int .i64 m.gid,.int .i64 m.mtime,.int .i64 m.ctime,.int .i64 m.links,.int .i64 m.up,.string (bs m.data),.slice A2 m.ents.length k2] 66):=by rw[hW3];exact Has.new _ _
 have R3:=R2.ext E23;have C3:=C2.ext E23;have E3:Ext w W3:=(E1.trans b2).trans E23;obtain ⟨b8,hb8⟩:∃b8,b8=w2.heap.size:=⟨_,rfl⟩;obtain ⟨i,hi⟩:∃i,i=isN S.nodes no:=⟨_,rfl⟩;rw [←hi]at hm⊢;clear v0 hmm hi;go_upto_region 4 with fail;rw [←hW3];rw [←hb8]at N3⊢;clear hW3 hb8
 cases i
 ·have hE:Hid (ownE S cu no=5):=by show _=_;rw[hm.out];rfl
  have hN:Hid (ownN S cu no=nodeZ):=by show _=_;rw[hm2.out,hE.out];rfl
  clear hm hm2;go_wp2_with (refine wpList_store_node rfl _ _ rfl (w.heap.size+1) nodeZ none 0 rfl rfl R3 ?_;intro w4 R4 O4);refine bodyPost_ret (v:=.tuple #[.agg #[.int .i64 nodeZ.no,.int .i64 nodeZ.dev,.int .i64 nodeZ.kind,.int .i64 nodeZ.mode,.int .i64 nodeZ.uid,.int .i64 nodeZ.gid,.int .i64 nodeZ.mtime,.int .i64 nodeZ.ctime,.int .i64 nodeZ.links,.int .i64 nodeZ.up,.string (bs nodeZ.data),.slice none nodeZ.ents.length 0],.int .i64 5]) (res_node Tryz.results160 _ _ (w.heap.size+1) nodeZ none 0 _ rfl rfl R4) rfl ?_;exact ⟨none,0,by rw[hE.out,hN.out],by rw[hN.out];exact NodeOk.zero _ _,O4.after E3 (by simp)⟩
 ·obtain ⟨u,hu⟩:∃u,u=ownsB cu m.uid:=⟨_,rfl⟩
  rw [←hu]at hm;have HU:=zH hu;have c0:W3.cell? ⟨w.heap.size,0,none⟩=some (.int .i64 cu):=C3.cell 0;have c1:W3.cell? ⟨w.heap.size,1,none⟩=some (.int .i64 cg):=C3.cell 1;have zc:=C3.lt;clear hu;go_wp2_with (refine wpList_load_node rfl _ rfl b8 m A2 k2 rfl N3 ?_);refine (powns_any cu cg _ _ _ _ m.uid _ _ _ _ _ _ _ _).mono ?_;rw [←HU.out];rintro e w4 ⟨rfl,b4⟩;have R4:=R3.ext b4;have N4:=N3.ext b4
  cases u
  ·have hE:Hid (ownE S cu no=4):=by show _=_;rw[hm.out];rfl
   have hN:Hid (ownN S cu no=nodeZ):=by show _=_;rw[hm2.out,hE.out];rfl
   clear hm hm2;go_wp2_with (refine wpList_store_node rfl _ _ rfl (w.heap.size+1) nodeZ none 0 rfl rfl R4 ?_;intro w5 R5 O5);refine bodyPost_ret (v:=.tuple #[.agg #[.int .i64 nodeZ.no,.int .i64 nodeZ.dev,.int .i64 nodeZ.kind,.int .i64 nodeZ.mode,.int .i64 nodeZ.uid,.int .i64 nodeZ.gid,.int .i64 nodeZ.mtime,.int .i64 nodeZ.ctime,.int .i64 nodeZ.links,.int .i64 nodeZ.up,.string (bs nodeZ.data),.slice none nodeZ.ents.length 0],.int .i64 4]) (res_node Tryz.results160 _ _ (w.heap.size+1) nodeZ none 0 _ rfl rfl R5) rfl ?_;exact ⟨none,0,by rw[hE.out,hN.out],by rw[hN.out];exact NodeOk.zero _ _,O5.after (E3.trans b4) (by simp)⟩
  ·have hE:Hid (ownE S cu no=0):=by show _=_;rw[hm.out];rfl
   have hN:Hid (ownN S cu no=m):=by show _=_;rw[hm2.out,hE.out];rfl
   clear hm hm2 c0 c1;go_wp2_with (first|(refine wpList_load_node rfl _ rfl b8 m A2 k2 rfl N4 ?_)|(refine wpList_store_node rfl _ _ rfl (w.heap.size+1) m A2 k2 rfl rfl R4 ?_;intro w5 R5 O5));refine bodyPost_ret (v:=.tuple #[.agg #[.int .i64 m.no,.int .i64 m.dev,.int .i64 m.kind,.int .i64 m.mode,.int .i64 m.uid,.int .i64 m.gid,.int .i64 m.mtime,.int .i64 m.ctime,.int .i64 m.links,.int .i64 m.up,.string (bs m.data),.slice A2 m.ents.length k2],.int .i64 0]) (res_node Tryz.results160 _ _ (w.heap.size+1) m A2 k2 _ rfl rfl R5) rfl ?_;have ok5:NodeOk w5 B m A2 k2:=(((ok2.ext E23).ext b4).only O5 (by
    intro b hb;rw [List.mem_singleton]at hb;subst hb;exact ⟨by have:=h1;have:=h0.lt.1;omega,R4.noTag (by decide)⟩))
   exact ⟨A2,k2,by rw[hE.out,hN.out],by rw[hN.out];exact ok5,O5.after (E3.trans b4) (by simp)⟩
def ErrR (w:World) (B:Nat) (g:GhW) (T:TreeD) (x:Int) (e:Ending) (w':World):Prop:=
 e = .returned (.int .i64 x)∧WAt w' B g T∧Only g.list w w'
theorem errR_same {w w':World} {B:Nat} {g:GhW} {S T:TreeD} {x:Int} (h:WAt w B g S) (hE:Ext w w') (hT:T=S):ErrR w B g T x (.returned (.int .i64 x)) w':=
 ⟨rfl,by rw[hT];exact h.ext hE,Only.of_ext hE⟩
def modeE (S:TreeD) (cu no mode:Int):Int:=if ownE S cu no≠0 then ownE S cu no else if mode<0∨1023<mode∨(getN S.nodes no).kind=3 then 1 else 0
def modeT (S:TreeD) (cu now no mode:Int):TreeD:=if modeE S cu no mode=0 then setT S {getN S.nodes no with mode:=mode,ctime:=now} else S
theorem ownE_zero {S:TreeD} {cu no:Int} (h:ownE S cu no=0):isN S.nodes no=true∧ownsB cu (getN S.nodes no).uid=true∧ownN S cu no=getN S.nodes no:=by
 refine ⟨?_,?_,by unfold ownN;rw[if_pos h]⟩
 ·cases hi:isN S.nodes no
  ·unfold ownE at h;rw[if_pos hi]at h;cases h
  ·rfl
 ·unfold ownE at h
  split at h
  ·cases h
  ·split at h
   ·cases h
   ·rename_i h2;simpa using h2
theorem wset_any (B:Nat) (g:GhW) (S:TreeD) (n:NodeD) (A:Option Addr) (c:Nat) (w:World) (h:WAt w B g S) (hu:NosUp S.nodes S.last) (hn:NodeOk w B n A c) :
  Calls Tryz.prog 162 #[.pointer (some ⟨g.bT,0,none⟩),.agg #[.int .i64 n.no,.int .i64 n.dev,.int .i64 n.kind,.int .i64 n.mode,.int .i64 n.uid,.int .i64 n.gid,.int .i64 n.mtime,.int .i64 n.ctime,.int .i64 n.links,.int .i64 n.up,.string (bs n.data),.slice A n.ents.length c]] w (fun e w'=>e=.returned (.bool (isN S.nodes n.no))∧WAt w' B g (setT S n)∧Only g.list w w'):=by
 refine (tset_any B g.bT g.bM S.nodes S.last n A c w h.2.1 hu hn).mono ?_;rintro e w' ⟨rfl,h2,h3⟩;exact ⟨rfl,WAt.table h h3 h2,h3.mono (by simp)⟩
theorem pmode_any (B:Nat) (g:GhW) (S:TreeD) (cu cg now no mode:Int) (w:World) (h:WAt w B g S) (hd:0<S.devs.length) (hu:NosUp S.nodes S.last) :
  Calls Tryz.prog 118 #[.pointer (some ⟨g.bW,0,none⟩),.agg #[.int .i64 cu,.int .i64 cg],.int .i64 now,.int .i64 no,.int .i64 mode] w (ErrR w B g (modeT S cu now no mode) (modeE S cu no mode)):=by
 have E0:Ext w (w.alloc (.cells #[.int .i64 cu,.int .i64 cg] 27)):=(Ext.refl _).alloc _;have hm:Hid (modeE S cu no mode=if ownE S cu no≠0 then ownE S cu no else if mode<0∨1023<mode∨(getN S.nodes no).kind=3 then 1 else 0):=by show _=_;rfl
 have hoz:Hid (ownE S cu no=0→isN S.nodes no=true∧ownsB cu (getN S.nodes no).uid=true∧ownN S cu no=getN S.nodes no):=ownE_zero;go_enter Tryz.func118,Tryz.ntmps118;go_wp2_with fail;refine (pown_any B g S cu cg no _ (h.ext E0) hd).mono ?_;rintro e w2 ⟨A,c,rfl,ok2,b2⟩;have E2:=E0.trans b2;obtain ⟨m,hmm⟩:∃m,m=ownN S cu no:=⟨_,rfl⟩;obtain ⟨x,hx⟩:∃x,x=ownE S cu no:=⟨_,rfl⟩;rw [←hmm]at ok2 hoz;rw [←hx]at hm hoz;rw [←hmm,←hx];clear hmm hx
 by_cases hx0:x=0
 ·have t0 : (x == 0)=true:=by simpa using hx0
  have t0b:(x != 0)=false:=by simpa using hx0
  obtain ⟨hi,ho,hmg⟩:=hoz.out hx0;have hm2:Hid (modeE S cu no mode=if mode<0∨1023<mode∨m.kind=3 then 1 else 0):=by show _=_;rw[hm.out,if_neg (by simpa using hx0),←hmg]
  have hmno:m.no=no:=by rw[hmg];exact (isN_true hi).2.1
  have HMG:=zH hmg;have HNO:=zH hmno;clear hm hoz hmg hmno hi ho hx0
  by_cases c1:mode<0
  ·have t1:decide (mode<0)=true:=decide_eq_true c1
   have hE:Hid (modeE S cu no mode=1):=by show _=_;rw[hm2.out,if_pos (.inl c1)]
   clear hm2 c1;go_wp2_with fail;go_ret;rw [hE.out];exact errR_same h (E2.alloc _) (by unfold modeT;rw[hE.out];rfl)
  ·have t1:decide (mode<0)=false:=decide_eq_false c1
   by_cases c2:1023<mode
   ·have t2:decide (1023<mode)=true:=decide_eq_true c2
    have hE:Hid (modeE S cu no mode=1):=by show _=_;rw[hm2.out,if_pos (.inr (.inl c2))]
    clear hm2 c1 c2;go_wp2_with fail;go_ret;rw [hE.out];exact errR_same h (E2.alloc _) (by unfold modeT;rw[hE.out];rfl)
   ·have t2:decide (1023<mode)=false:=decide_eq_false c2
    by_cases c3:m.kind=3
    ·have t3:(m.kind == 3)=true:=by simpa using c3
     have hE:Hid (modeE S cu no mode=1):=by show _=_;rw[hm2.out,if_pos (.inr (.inr c3))]
     clear hm2 c1 c2 c3;go_wp2_with fail;go_ret;rw [hE.out];exact errR_same h (E2.alloc _) (by unfold modeT;rw[hE.out];rfl)
    ·have t3:(m.kind == 3)=false:=by simpa using c3
     have hE:Hid (modeE S cu no mode=0):=by show _=_;rw[hm2.out,if_neg (by rintro (g'|g'|g')<;>contradiction)]
     clear hm2 c1 c2 c3;go_upto_region 7 with fail;obtain ⟨n,hn⟩:∃n:NodeD,n={m with mode:=mode,ctime:=now}:=⟨_,rfl⟩;obtain ⟨V,hV⟩:∃V,V=w2.alloc (.cells #[.int .i64 n.no,.int .i64 n.dev,.int .i64 n.kind,.int .i64 n.mode,.int .i64 n.uid,.int .i64 n.gid,.int .i64 n.mtime,.int .i64 n.ctime,.int .i64 n.links,.int .i64 n.up,.string (bs n.data),.slice A n.ents.length c] 66):=⟨_,rfl⟩;have hV2:=hV;rw [hn]at hV2;rw [←hV2];have NV:Has V w2.heap.size (.cells #[.int .i64 n.no,.int .i64 n.dev,.int .i64 n.kind,.int .i64 n.mode,.int .i64 n.uid,.int .i64 n.gid,.int .i64 n.mtime,.int .i64 n.ctime,.int .i64 n.links,.int .i64 n.up,.string (bs n.data),.slice A n.ents.length c] 66):=by rw[hV];exact Has.new _ _
     have EV:Ext w V:=by rw[hV];exact E2.alloc _
     have okV:NodeOk V B n A c:=((ok2.ext (by rw[hV];exact (Ext.refl _).alloc _)).same (by rw[hn]));have HN:=zH hn;clear hV hV2 hn;have KV:=h.ext EV;obtain ⟨_,_,cd,hW,_⟩:=id KV;have v0:V.cell? ⟨g.bW,0,none⟩=some (.pointer (some ⟨g.bT,0,none⟩)):=hW.cell 0;have vz:=hW.lt;obtain ⟨x0,x1,x2,x3,x4,x5,x6,x7,x8,x9,x10,x11⟩:=NV.node12;have zN:=NV.lt;go_still_tail 5,(by kernel_rfl);change wpList _ _ _ _ _ V.drew;go_wp2_with fail;have ED:Ext V V.drew:=(Ext.refl _).drew;refine (wset_any B g S n A c _ (KV.ext ED) hu (okV.ext ED)).mono ?_;rintro e w5 ⟨rfl,K5,O5⟩;go_wp2_with fail;go_ret;rw [hE.out];refine ⟨rfl,?_,Only.pre (EV.trans ED) O5⟩;have:modeT S cu now no mode=setT S n:=by unfold modeT;rw[if_pos hE.out,HN.out,HMG.out]
     rw [this];exact K5
 ·have t0:(x == 0)=false:=by simpa using hx0
  have t0b:(x != 0)=true:=by simpa using hx0
  have hE:Hid (modeE S cu no mode=x):=by show _=_;rw[hm.out,if_pos hx0]
  have hT:Hid (modeT S cu now no mode=S):=by show _=_;unfold modeT;rw[if_neg (by rw[hE.out];exact hx0)]
  clear hm hoz hx0;go_wp2_with fail;go_ret;rw [hE.out];exact errR_same h (E2.alloc _) hT.out
def OnDev (S:TreeD):Prop:=∀n∈S.nodes,hasD S.devs n.dev=true∧n.data.length≤1048576
def moreB (n:NodeD) (dl:Int):Int:=blocksF n.kind dl-blocksF n.kind n.data.length
def fillE (S:TreeD) (no dl:Int):Int:=
 if isN S.nodes no=false then 5 else takeE (devN S.devs (getN S.nodes no).dev).q (moreB (getN S.nodes no) dl) 0
def fillT (S:TreeD) (no:Int) (data:List UInt8):TreeD:=
 if fillE S no data.length=0 then⟨setN S.nodes {getN S.nodes no with data:=data},setQ S.devs (getN S.nodes no).dev (takeQ (devN S.devs (getN S.nodes no).dev).q (moreB (getN S.nodes no) data.length) 0),S.last⟩ else S
theorem app_left {α:Type} (l:List α) (x:α) (k:Nat) (h:k<l.length) (h':k<(l++[x]).length):(l++[x])[k]'h'=l[k]:=List.getElem_append_left h
theorem app_right {α:Type} (l:List α) (x:α) (k:Nat) (h:k=l.length) (h':k<(l++[x]).length):(l++[x])[k]'h'=x:=by subst h;simp
theorem mod_at (l:List DevD) (i:Nat) (f:DevD→DevD) (k:Nat) (h:k<(l.modify i f).length) (h2:k<l.length):(l.modify i f)[k]'h=if i=k then f l[k] else l[k]:=List.getElem_modify ..
theorem mem_getN {S:TreeD} (hu:NosUp S.nodes S.last) {n:NodeD} (h:n∈S.nodes):getN S.nodes n.no=n∧isN S.nodes n.no=true:=by
 obtain ⟨k,hk,rfl⟩:=List.getElem_of_mem h;have e:=getO_at hu hk;exact ⟨by unfold getN;rw[e];rfl,by unfold isN;rw[e];rfl⟩
def DirT (S:TreeD) (no:Int):Prop:=∃m∈S.nodes,m.no=no∧m.kind=1
structure Grown (S:TreeD):Prop where
 good:Good S
 names:NamesOk S
 on:OnDev S
 first:∃m∈S.nodes,m.no=1
 one:∀n∈S.nodes,n.no=1→n.kind=1∧n.dev=1∧n.up=1
 ups:∀n∈S.nodes,n.kind=1→n.up≤n.no∧∃m∈S.nodes,m.no=n.up
 root1:∀h:0<S.devs.length,S.devs[0].root=1
 overs:∀k,(h:k+1<S.devs.length)→S.devs[k+1].over<S.devs[k+1].root∧DirT S S.devs[k+1].over
theorem getN_node {S:TreeD} {no:Int} (h:(getN S.nodes no).kind=1):isN S.nodes no=true∧(getN S.nodes no).no=no∧getN S.nodes no∈S.nodes:=by
 cases hi:isN S.nodes no
 ·rw[(isN_false hi).1]at h;cases h
 ·exact⟨rfl,(isN_true hi).2⟩
theorem Grown.dev1 {S:TreeD} (h:Grown S):rootF S.devs 1=1:=by
 unfold rootF hasD devN;have:=h.good.devs;rw [if_pos (by simp;omega)];simp only[show ((1:Int)-1).toNat=0 by decide];rw [List.getD_eq_getElem?_getD,List.getElem?_eq_getElem this];exact h.root1 this
theorem setQ_at {ds:List DevD} {d:Int} {q:SpaceD} {k:Nat} (hk:k<(setQ ds d q).length) (hk2:k<ds.length):(setQ ds d q)[k].root=ds[k].root∧(setQ ds d q)[k].over=ds[k].over:=by
 have e:=mod_at ds (d-1).toNat (fun x=>{x with q:=q}) k hk hk2;exact ⟨(congrArg DevD.root e).trans (by split<;>rfl),(congrArg DevD.over e).trans (by split<;>rfl)⟩
theorem set_has {ns:List NodeD} {n m:NodeD} (h:m∈ns):(if m.no=n.no then n else m)∈setN ns n:=by
 unfold setN;rw [List.mem_map];refine ⟨m,h,?_⟩
 by_cases e:m.no=n.no
 ·rw[if_pos e,if_pos (by simpa using e)]
 ·rw[if_neg e,if_neg (by simpa using e)]
theorem mem_putF {l:List EntD} {x y:EntD} (h:y∈putF l x):y∈l∨y=x:=by
 unfold putF lessF moreF at h;simp only[List.mem_append,List.mem_singleton,List.mem_filter]at h;rcases h with (h|h)|h
 ·exact .inl h.1
 ·exact .inr h
 ·exact .inl h.1
theorem checkN_short {l:List UInt8} (h:checkN l=0):l≠[]∧l.length≤255:=by
 unfold checkN at h;split at h
 ·cases h
 ·split at h
  ·cases h
  ·rename_i h1 h2
   exact ⟨fun e=>h1 (.inl e),by omega⟩
theorem grown_first {b n:Int} (hl:limitsF b n=true):Grown (rootT emptyT 0 b n):=by
 refine ⟨good_first hl,?_,?_,⟨rootNode emptyT,List.mem_append_right _ (List.mem_singleton.2 rfl),rfl⟩,?_,?_,fun _=>rfl,?_⟩
 ·intro m hm x hx
  simp [rootT,emptyT]at hm;subst hm;cases hx
 ·intro m hm
  simp [rootT,emptyT]at hm;subst hm;exact ⟨rfl,by decide⟩
 ·intro m hm _
  simp [rootT,emptyT]at hm;subst hm;exact⟨rfl,rfl,rfl⟩
 ·intro m hm _
  simp [rootT,emptyT]at hm;subst hm;exact ⟨Int.le_refl _,_,List.mem_append_right _ (List.mem_singleton.2 rfl),rfl⟩
 ·intro k hk
  have:k+1<1:=hk;omega
end Go.Proofs.YtpibnfdolojpcaaGreat
