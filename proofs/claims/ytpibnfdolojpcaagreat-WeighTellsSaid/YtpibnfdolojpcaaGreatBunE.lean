import Derived.Test.YtpibnfdolojpcaaGreatBunD
import Derived.Test.YtpibnfdolojpcaaGreatBunA
import Derived.Test.YtpibnfdolojpcaaGreatBunB
import Derived.Test.YtpibnfdolojpcaaGreatShelf
import Derived.Test.YtpibnfdolojpcaaGreatBunC
import Derived.Lib.Builder
import Derived.Lib.AppendStr
set_option maxHeartbeats 8000000
set_option maxRecDepth 100000
namespace Go.Proofs.YtpibnfdolojpcaaGreat
open Go.ChangeShapes Go.WideShapes Go.ChangeAt Go.RowKit
def aboveF (S:TreeD) (no:Int):Int:=
 if (getN S.nodes no).kind=1 then
  if rootF S.devs (getN S.nodes no).dev=no∧1<(getN S.nodes no).dev then (getN S.nodes (devN S.devs (getN S.nodes no).dev).over).up else (getN S.nodes no).up
 else 0
theorem pabove_any (B : Nat) (g:GhW) (S:TreeD) (no:Int) (w:World) (h:WAt w B g S) (hd:0<S.devs.length) (hd2:S.devs.length≤8) (hr:RootsOk S.devs) (hu:NosUp S.nodes S.last) :
    Calls Tryz.prog 142 #[.pointer (some ⟨g.bW,0,none⟩),.int .i64 no] w (Ret w (.int .i64 (aboveF S no))):=by
  have hm:Hid (aboveF S no=if (getN S.nodes no).kind=1 then if rootF S.devs (getN S.nodes no).dev=no∧1<(getN S.nodes no).dev then (getN S.nodes (devN S.devs (getN S.nodes no).dev).over).up else (getN S.nodes no).up else 0):=by show _=_;rfl
  go_enter Tryz.func142,Tryz.ntmps142
  go_wp2_with fail
  refine (pnone_any B g S _ h hd).mono ?_
  rintro e w1 ⟨rfl,b1⟩
  obtain ⟨_,_,cd,hW,_⟩:=id (h.ext b1)
  have v0:w1.cell? ⟨g.bW,0,none⟩=some (.pointer (some ⟨g.bT,0,none⟩)):=hW.cell 0
  have z1:=hW.lt
  clear hW
  go_wp2_with fail
  refine (tget_any B g.bT g.bM S.nodes S.last no _ (h.ext b1).2.1).mono ?_
  rintro e w2 ⟨A,c,rfl,ok2,b2⟩
  have hik:isN S.nodes no=false→(getN S.nodes no).kind=0:=fun hi=>by rw[(isN_false hi).1];rfl
  have hi1:isN S.nodes no=true→1≤no:=fun hi=>by
    obtain ⟨k,hk,e⟩:=isN_iff.1 hi
    have:=(hu.2 _ (List.getElem_mem hk)).1
    omega
  obtain ⟨n,hn⟩:∃n,n=getN S.nodes no:=⟨_,rfl⟩
  obtain ⟨i,hi⟩:∃i,i=isN S.nodes no:=⟨_,rfl⟩
  rw [←hn]at ok2 hm hik
  rw [←hi]at hik hi1
  rw [←hn,←hi]
  obtain ⟨W3,hW3⟩:∃W3,W3=w2.alloc (.cells #[.int .i64 n.no,.int .i64 n.dev,.int .i64 n.kind,.int .i64 n.mode,.int .i64 n.uid,.int .i64 n.gid,.int .i64 n.mtime,.int .i64 n.ctime,.int .i64 n.links,.int .i64 n.up,.string (bs n.data),.slice A n.ents.length c] 66):=⟨_,rfl⟩
  have E23:Ext w2 W3:=by rw[hW3];exact (Ext.refl _).alloc _
  obtain ⟨b5,hb5⟩:∃b,b=w2.heap.size:=⟨_,rfl⟩
  have N3:Has W3 b5 (.cells #[.int .i64 n.no,.int .i64 n.dev,.int .i64 n.kind,.int .i64 n.mode,.int .i64 n.uid,.int .i64 n.gid,.int .i64 n.mtime,.int .i64 n.ctime,.int .i64 n.links,.int .i64 n.up,.string (bs n.data),.slice A n.ents.length c] 66):=by rw[hW3,hb5];exact Has.new _ _
  have E3:Ext w W3:=(b1.trans b2).trans E23
  have hbw:w.heap.size≤b5:=by rw[hb5];exact (b1.trans b2).size
  have HIK:=zH hik
  have HI1:=zH hi1
  have HNN:=zH hn
  clear v0 hn hi hik hi1
  go_upto_region 4 with fail
  rw [←hW3]
  rw [←hb5]
  clear hW3 hb5
  have k2:W3.cell? ⟨b5,2,none⟩=some (.int .i64 n.kind):=N3.cell 2
  have k1:W3.cell? ⟨b5,1,none⟩=some (.int .i64 n.dev):=N3.cell 1
  have kz:=N3.lt
  cases i
  · have hE:Hid (aboveF S no=0):=by show _=_;rw[hm.out,if_neg (by rw[HIK.out rfl];decide)]
    clear hm
    go_wp2_with fail
    go_ret
    exact Ret.mk (ret_int hE.out.symm) E3
  · by_cases c1 : n.kind = 1
    · have t1 : (n.kind == 1)=true:=by simpa using c1
      have t1b:(n.kind != 1)=false:=by simpa using c1
      have hno:=HI1.out rfl
      have hm2:Hid (aboveF S no=if rootF S.devs n.dev=no∧1<n.dev then (getN S.nodes (devN S.devs n.dev).over).up else n.up):=by show _=_;rw[hm.out,if_pos c1]
      clear hm c1
      go_wp2_with fail
      refine (proot_any B g S n.dev _ (h.ext E3) hd (by omega)).mono ?_
      rintro e w4 ⟨rfl,b4⟩
      have N4:=N3.ext b4
      have E4:=E3.trans b4
      clear k1 k2 kz
      have k1:w4.cell? ⟨b5,1,none⟩=some (.int .i64 n.dev):=N4.cell 1
      have kz:=N4.lt
      by_cases c2:rootF S.devs n.dev=no
      · have t2 : (rootF S.devs n.dev == no)=true:=by simpa using c2
        by_cases c3:1<n.dev
        · have t3 : decide (1<n.dev)=true:=decide_eq_true c3
          have C23:=zH (And.intro c2 c3)
          clear c2 c3
          go_upto_region 7 with fail
          obtain ⟨c2,c3⟩:=C23.out
          rcases rootF_zero hr n.dev with⟨r1,_⟩|⟨k,hk,e1,_,e3,_,_,_⟩
          · exfalso;omega
          have hm3:Hid (aboveF S no=(getN S.nodes S.devs[k].over).up):=by show _=_;rw[hm2.out,if_pos ⟨c2,c3⟩,e3]
          clear hm2
          obtain ⟨ov,hov⟩:∃ov,ov=S.devs[k].over:=⟨_,rfl⟩
          obtain ⟨A7,c7,ok7,C7⟩:=tget_fix B g S ov w4 (h.ext E4)
          obtain ⟨_,_,cd4,hW4,hD4⟩:=id (h.ext E4)
          obtain ⟨_,d1,_,_,_,_⟩:=RowD.at_ hD4 k hk
          rw [←hov]at d1 hm3
          obtain ⟨m,hm7⟩:∃m,m=getN S.nodes ov:=⟨_,rfl⟩
          obtain ⟨i7,hi7⟩:∃i7,i7=isN S.nodes ov:=⟨_,rfl⟩
          rw [←hm7]at ok7 C7 hm3
          rw [←hi7]at C7
          have HC7:=zH C7
          have hl4:=(h.ext E4).lt
          have u0:∀u:Gr w4,u.w.cell? ⟨g.bW,0,none⟩=some (.pointer (some ⟨g.bT,0,none⟩)):=Gr.cell hW4.lt (hW4.cell 0)
          have u1:∀u:Gr w4,u.w.cell? ⟨g.bW,1,none⟩=some (.slice (some ⟨g.bD,0,none⟩) S.devs.length cd4):=Gr.cell hW4.lt (hW4.cell 1)
          have u5:∀u:Gr w4,u.w.cell? ⟨b5,1,none⟩=some (.int .i64 n.dev):=Gr.cell N4.lt (N4.cell 1)
          have ud:∀u:Gr w4,u.w.cell? ⟨g.bD,k*6+1,none⟩=some (.int .i64 ov):=Gr.cell hl4.2.2.2 d1
          have y0:(0:Int)≤n.dev-1:=by rw[e1];omega
          have y1:n.dev-1<(S.devs.length:Int):=by rw[e1];omega
          have y2:(n.dev-1).toNat=k:=by rw[e1];omega
          have y3:IntKind.i64.wrap (n.dev-1)=n.dev-1:=wrap_i64_in (by omega) (by omega)
          have y4:1≤n.dev:=by omega
          have y5:n.dev.toNat-1=k:=by omega
          clear d1 hW4 hD4 e1 e3 hov hm7 hi7 C7 k1 c2 c3 t2 t3
          go_cut [] (fun wc=>∃w0,Ext w4 w0∧Only [b5] w0 wc∧Has wc b5 (.cells #[.int .i64 m.no,.int .i64 m.dev,.int .i64 m.kind,.int .i64 m.mode,.int .i64 m.uid,.int .i64 m.gid,.int .i64 m.mtime,.int .i64 m.ctime,.int .i64 m.links,.int .i64 m.up,.string (bs m.data),.slice A7 m.ents.length c7] 66))
          case first =>
            refine wp_region_node w4 18 5 52 b5 m n A7 A c7 c N4 _ (by kernel_rfl) (by kernel_rfl) rfl rfl ((Ext.refl _).drew) ?_
            simp only[List.take_succ_cons,List.take_zero,List.drop_succ_cons,List.drop_nil]
            repeat (refine wpQuietR_step (fun K hK=>?_)
                    go_simp
                    first
                      | (refine hK _ ?_;clear hK K)
                      | (apply Exists.intro
                         refine ⟨fun u=>?_,hK _ ?_⟩
                         ((with_reducible refine (HC7.out _ (Gr.h _)).mono ?_);rintro e w'' ⟨rfl,hx⟩;exact⟨rfl,hx⟩)
                         clear hK K))
            refine wpQuietR_nil ⟨rfl,rfl,?_⟩
            refine wpQuietR_nil ?_
            intro w' hw'
            go_wp2_with fail
            go_meet
            exact hw'
          case rest =>
          obtain ⟨w0,E40,O,N5⟩:=hcut
          have k9:wc.cell? ⟨b5,9,none⟩=some (.int .i64 m.up):=N5.cell 9
          have kz5:=N5.lt
          clear kz y0 y1 y2 y3 y4 y5 u0 u1 u5 ud
          go_wp2_with fail
          go_ret
          exact Ret.mk (ret_int hm3.out.symm) (O.after (E4.trans E40) (by intro x hx;rw[List.mem_singleton]at hx;omega))
        · have t3:decide (1<n.dev)=false:=decide_eq_false c3
          have hE:Hid (aboveF S no=n.up):=by show _=_;rw[hm2.out,if_neg (fun h=>c3 h.2)]
          have k9:w4.cell? ⟨b5,9,none⟩=some (.int .i64 n.up):=N4.cell 9
          clear hm2 c2 c3
          go_wp2_with fail
          go_ret
          exact Ret.mk (ret_int hE.out.symm) E4
      · have t2:(rootF S.devs n.dev == no)=false:=by simpa using c2
        have hE:Hid (aboveF S no=n.up):=by show _=_;rw[hm2.out,if_neg (fun h=>c2 h.1)]
        have k9:w4.cell? ⟨b5,9,none⟩=some (.int .i64 n.up):=N4.cell 9
        clear hm2 c2
        go_wp2_with fail
        go_ret
        exact Ret.mk (ret_int hE.out.symm) E4
    · have t1:(n.kind == 1)=false:=by simpa using c1
      have t1b:(n.kind != 1)=true:=by simpa using c1
      have hE:Hid (aboveF S no=0):=by show _=_;rw[hm.out,if_neg c1]
      clear hm c1
      go_wp2_with fail
      go_ret
      exact Ret.mk (ret_int hE.out.symm) E3
theorem rabove_any (B : Nat) (g:GhF) (S:TreeD) (X:Xtra) (no:Int) (w:World) (h:FAt w B g S X) (hl:S.nodes.length≤1000000) (hd2:S.devs.length≤8) (hr:RootsOk S.devs) (hu:NosUp S.nodes S.last) :
    Calls Tryz.prog 83 #[.pointer (some ⟨g.bF,0,none⟩),.int .i64 no] w (Ret w (.int .i64 (aboveF S no))):=by
  have hm:Hid (aboveF S no=if (getN S.nodes no).kind=1 then if rootF S.devs (getN S.nodes no).dev=no∧1<(getN S.nodes no).dev then (getN S.nodes (devN S.devs (getN S.nodes no).dev).over).up else (getN S.nodes no).up else 0):=by show _=_;rfl
  go_enter Tryz.func83,Tryz.ntmps83
  go_wp2_with fail
  refine (rget_any B g S X no _ h hl hu).mono ?_
  rintro e w2 ⟨A,c,rfl,ok2,b2⟩
  have hi1:(getN S.nodes no).kind=1→1≤no:=fun hk=>by
    obtain ⟨k,hk,e⟩:=isN_iff.1 (isN_kind hk)
    have:=(hu.2 _ (List.getElem_mem hk)).1
    omega
  obtain ⟨n,hn⟩:∃n,n=getN S.nodes no:=⟨_,rfl⟩
  rw [←hn]at ok2 hm hi1
  rw [←hn]
  obtain ⟨W3,hW3⟩:∃W3,W3=w2.alloc (.cells #[.int .i64 n.no,.int .i64 n.dev,.int .i64 n.kind,.int .i64 n.mode,.int .i64 n.uid,.int .i64 n.gid,.int .i64 n.mtime,.int .i64 n.ctime,.int .i64 n.links,.int .i64 n.up,.string (bs n.data),.slice A n.ents.length c] 66):=⟨_,rfl⟩
  have E23:Ext w2 W3:=by rw[hW3];exact (Ext.refl _).alloc _
  obtain ⟨b5,hb5⟩:∃b,b=w2.heap.size:=⟨_,rfl⟩
  have N3:Has W3 b5 (.cells #[.int .i64 n.no,.int .i64 n.dev,.int .i64 n.kind,.int .i64 n.mode,.int .i64 n.uid,.int .i64 n.gid,.int .i64 n.mtime,.int .i64 n.ctime,.int .i64 n.links,.int .i64 n.up,.string (bs n.data),.slice A n.ents.length c] 66):=by rw[hW3,hb5];exact Has.new _ _
  have E3:Ext w W3:=b2.trans E23
  have hbw:w.heap.size≤b5:=by rw[hb5];exact b2.size
  have HI1:=zH hi1
  have HNN:=zH hn
  clear hn hi1
  go_upto_region 2 with fail
  rw [←hW3]
  rw [←hb5]
  clear hW3 hb5
  have k2:W3.cell? ⟨b5,2,none⟩=some (.int .i64 n.kind):=N3.cell 2
  have k1:W3.cell? ⟨b5,1,none⟩=some (.int .i64 n.dev):=N3.cell 1
  have kz:=N3.lt
  by_cases c1:n.kind=1
  · have t1 : (n.kind == 1)=true:=by simpa using c1
    have t1b:(n.kind != 1)=false:=by simpa using c1
    have hno:=HI1.out c1
    have hm2:Hid (aboveF S no=if rootF S.devs n.dev=no∧1<n.dev then (getN S.nodes (devN S.devs n.dev).over).up else n.up):=by show _=_;rw[hm.out,if_pos c1]
    clear hm c1
    by_cases c3:1<n.dev
    · have t3 : decide (1<n.dev)=true:=decide_eq_true c3
      have C3:=zH c3
      go_wp2_with fail
      refine (rroot_any B g S X n.dev _ (h.ext E3) (by omega)).mono ?_
      rintro e w4 ⟨rfl,b4⟩
      have N4:=N3.ext b4
      have E4:=E3.trans b4
      clear k1 k2 kz
      have k1:w4.cell? ⟨b5,1,none⟩=some (.int .i64 n.dev):=N4.cell 1
      have kz:=N4.lt
      by_cases c2:rootF S.devs n.dev=no
      · have t2 : (rootF S.devs n.dev == no)=true:=by simpa using c2
        have C2:=zH c2
        clear c2 c3
        go_upto_region 5 with fail
        have c2:=C2.out
        have c3:=C3.out
        rcases rootF_zero hr n.dev with⟨r1,_⟩|⟨k,hk,e1,_,e3,_,_,_⟩
        · exfalso;omega
        have hm3:Hid (aboveF S no=(getN S.nodes S.devs[k].over).up):=by show _=_;rw[hm2.out,if_pos ⟨c2,c3⟩,e3]
        obtain ⟨ov,hov⟩:∃ov,ov=S.devs[k].over:=⟨_,rfl⟩
        obtain ⟨A7,c7,ok7,C7⟩:=rget_fix B g S X ov w4 (h.ext E4) hl hu
        obtain ⟨_,cn4,cd4,hW4,_,hD4⟩:=id (h.ext E4)
        obtain ⟨_,d1,_,_,_,_⟩:=RowD.at_ hD4 k hk
        rw [←hov]at d1 hm3
        obtain ⟨m,hm7⟩:∃m,m=getN S.nodes ov:=⟨_,rfl⟩
        rw [←hm7]at ok7 C7 hm3
        have HC7:=zH C7
        have hl4:=(h.ext E4).lt
        have u1:∀u:Gr w4,u.w.cell? ⟨g.bF,1,none⟩=some (.slice (some ⟨g.bE,0,none⟩) S.devs.length cd4):=Gr.cell hW4.lt (hW4.cell 1)
        have u5:∀u:Gr w4,u.w.cell? ⟨b5,1,none⟩=some (.int .i64 n.dev):=Gr.cell N4.lt (N4.cell 1)
        have ud:∀u:Gr w4,u.w.cell? ⟨g.bE,k*6+1,none⟩=some (.int .i64 ov):=Gr.cell hl4.2.2 d1
        have y0:(0:Int)≤n.dev-1:=by rw[e1];omega
        have y1:n.dev-1<(S.devs.length:Int):=by rw[e1];omega
        have y2:(n.dev-1).toNat=k:=by rw[e1];omega
        have y3:IntKind.i64.wrap (n.dev-1)=n.dev-1:=wrap_i64_in (by omega) (by omega)
        have y4:1≤n.dev:=by omega
        have y5:n.dev.toNat-1=k:=by omega
        clear d1 hW4 hD4 e1 e3 hov hm7 C7 k1 c2 c3 t2 t3 hm2
        go_cut [] (fun wc=>∃w0,Ext w4 w0∧Only [b5] w0 wc∧Has wc b5 (.cells #[.int .i64 m.no,.int .i64 m.dev,.int .i64 m.kind,.int .i64 m.mode,.int .i64 m.uid,.int .i64 m.gid,.int .i64 m.mtime,.int .i64 m.ctime,.int .i64 m.links,.int .i64 m.up,.string (bs m.data),.slice A7 m.ents.length c7] 66))
        case first =>
          refine wp_region_node w4 12 5 34 b5 m n A7 A c7 c N4 _ (by kernel_rfl) (by kernel_rfl) rfl rfl ((Ext.refl _).drew) ?_
          simp only[List.take_succ_cons,List.take_zero,List.drop_succ_cons,List.drop_nil]
          repeat (refine wpQuietR_step (fun K hK=>?_)
                  go_simp
                  first
                    | (refine hK _ ?_;clear hK K)
                    | (apply Exists.intro
                       refine ⟨fun u=>?_,hK _ ?_⟩
                       ((with_reducible refine (HC7.out _ (Gr.h _)).mono ?_);rintro e w'' ⟨rfl,hx⟩;exact⟨rfl,hx⟩)
                       clear hK K))
          refine wpQuietR_nil ⟨rfl,rfl,?_⟩
          refine wpQuietR_nil ?_
          intro w' hw'
          go_wp2_with fail
          go_meet
          exact hw'
        case rest =>
        obtain ⟨w0,E40,O,N5⟩:=hcut
        have k9:wc.cell? ⟨b5,9,none⟩=some (.int .i64 m.up):=N5.cell 9
        have kz5:=N5.lt
        clear kz y0 y1 y2 y3 y4 y5 u1 u5 ud
        go_wp2_with fail
        go_ret
        exact Ret.mk (ret_int hm3.out.symm) (O.after (E4.trans E40) (by intro x hx;rw[List.mem_singleton]at hx;omega))
      · have t2:(rootF S.devs n.dev == no)=false:=by simpa using c2
        have hE:Hid (aboveF S no=n.up):=by show _=_;rw[hm2.out,if_neg (fun h=>c2 h.1)]
        have k9:w4.cell? ⟨b5,9,none⟩=some (.int .i64 n.up):=N4.cell 9
        clear hm2 c2 c3
        go_wp2_with fail
        go_ret
        exact Ret.mk (ret_int hE.out.symm) E4
    · have t3:decide (1<n.dev)=false:=decide_eq_false c3
      have hE:Hid (aboveF S no=n.up):=by show _=_;rw[hm2.out,if_neg (fun h=>c3 h.2)]
      have k9:W3.cell? ⟨b5,9,none⟩=some (.int .i64 n.up):=N3.cell 9
      clear hm2 c3
      go_wp2_with fail
      go_ret
      exact Ret.mk (ret_int hE.out.symm) E3
  · have t1:(n.kind == 1)=false:=by simpa using c1
    have t1b:(n.kind != 1)=true:=by simpa using c1
    have hE:Hid (aboveF S no=0):=by show _=_;rw[hm.out,if_neg c1]
    clear hm c1
    go_wp2_with fail
    go_ret
    exact Ret.mk (ret_int hE.out.symm) E3
def wiF (S:TreeD) (base:Int):Nat→Int→Bool
 | 0,_=>false
 | f+1,no=>if no=0 then false else if no=base then true else wiF S base f (aboveF S no)
structure Rank (S:TreeD) (r:Int→Nat):Prop where
 step:∀no,no≠0→aboveF S no≠0→aboveF S no≠no→r (aboveF S no)<r no
 top:∀no,r no≤S.nodes.length
def withinF (S:TreeD) (no base:Int):Bool:=wiF S base (S.nodes.length+1) no
theorem wi_zero (S:TreeD) (base:Int) (f:Nat):wiF S base f 0=false:=by cases f<;>simp[wiF]
theorem wi_stay {S:TreeD} {base no:Int} (h:aboveF S no=no) (hb:no≠base):∀f,wiF S base f no=false
 | 0=>rfl
 | f+1=>by
  unfold wiF;split
  ·rfl
  ·rw[h];exact wi_stay h hb f
theorem wi_stable {S:TreeD} {r:Int→Nat} (R:Rank S r) (base:Int):∀(n:Nat) (no:Int),r no≤n→∀f g,r no<f→r no<g→wiF S base f no=wiF S base g no:=by
 intro n
 induction n with
 | zero =>
  intro no hn f g hf hg
  match f,g,hf,hg with
  | f + 1, g+1,_,_ =>
   unfold wiF;split
   ·rfl
   ·split
    ·rfl
    ·rename_i h0 hb
     by_cases hu:aboveF S no=0
     ·rw[hu,wi_zero,wi_zero]
     ·by_cases hs:aboveF S no=no
      ·rw[hs,wi_stay hs hb,wi_stay hs hb]
      ·have:=R.step no h0 hu hs;omega
 | succ n ih =>
  intro no hn f g hf hg
  match f,g,hf,hg with
  | f + 1, g + 1,hf,hg =>
   unfold wiF;split
   ·rfl
   ·split
    ·rfl
    ·rename_i h0 hb
     by_cases hu:aboveF S no=0
     ·rw[hu,wi_zero,wi_zero]
     ·by_cases hs:aboveF S no=no
      ·rw[hs,wi_stay hs hb,wi_stay hs hb]
      ·have:=R.step no h0 hu hs
       exact ih _ (by omega) f g (by omega) (by omega)
theorem within_zero (S:TreeD) (base:Int):withinF S 0 base=false:=wi_zero S base _
theorem within_base {S:TreeD} {no base:Int} (h0:no≠0) (h:no=base):withinF S no base=true:=by
 unfold withinF wiF;rw[if_neg h0,if_pos h]
theorem within_stay {S:TreeD} {no base:Int} (h:aboveF S no=no) (hb:no≠base):withinF S no base=false:=wi_stay h hb _
theorem within_step {S:TreeD} {r:Int→Nat} (R:Rank S r) {no base:Int} (h0:no≠0) (hb:no≠base) (hs:aboveF S no≠no):withinF S no base=withinF S (aboveF S no) base:=by
 have e:withinF S no base=wiF S base S.nodes.length (aboveF S no):=by
  conv=>lhs;unfold withinF wiF
  rw [if_neg h0,if_neg hb]
 rw [e]
 by_cases hu:aboveF S no=0
 ·rw[hu,within_zero,wi_zero]
 ·have h1:=R.step no h0 hu hs
  have h2:=R.top no;exact wi_stable R base _ _ (Nat.le_refl _) _ _ (by omega) (by omega)
theorem pwithin_any (B:Nat) (g:GhW) (S:TreeD) (r:Int→Nat) (no base:Int) (w:World) (h:WAt w B g S) (hd:0<S.devs.length) (hd2:S.devs.length≤8) (hr:RootsOk S.devs) (hu:NosUp S.nodes S.last) (R:Rank S r) :
  Calls Tryz.prog 173 #[.pointer (some ⟨g.bW,0,none⟩),.int .i64 no,.int .i64 base] w (Ret w (.bool (withinF S no base))):=by
 have HR:=zH R;clear R;obtain ⟨res,hres⟩:∃res,res=withinF S no base:=⟨_,rfl⟩;rw [←hres];have HRES:=zH hres;clear hres;go_enter Tryz.func173,Tryz.ntmps173;go_wp2_with fail;go_loopw [1,7] (fun v1 _ wr=>∃n:Int,v1=.int .i64 n∧Hid (withinF S n base=res)∧Ext w wr) (fun v1 _ _=>if intOf v1=0 then 0 else r (intOf v1)+1)
 case atStart=>exact⟨no,rfl,HRES.out.symm,Ext.refl _⟩
 case round =>
  obtain ⟨n,rfl,hw,hE⟩:=hrel
  by_cases h0:n=0
  ·have hf:Hid (res=false):=by show _=_;rw[←hw.out,h0,within_zero]
   subst h0;go_wp2_with fail;go_ret;exact Ret.mk (ret_bool hf.out.symm) hE
  ·have t0 : (n == 0)=false:=by simpa using h0
   have t0b:(n != 0)=true:=by simpa using h0
   by_cases hb:n=base
   ·have t1:(n == base)=true:=by simpa using hb
    have hf:Hid (res=true):=by show _=_;rw[←hw.out,within_base h0 hb]
    clear h0 hb;go_wp2_with fail;go_ret;exact Ret.mk (ret_bool hf.out.symm) hE
   ·have t1:(n == base)=false:=by simpa using hb
    have H0:=zH h0;have HB:=zH hb;clear h0 hb;go_wp2_with fail;refine (pabove_any B g S n _ (h.ext hE) hd hd2 hr hu).mono ?_;rintro e w2 ⟨rfl,b2⟩;obtain ⟨u,hu'⟩:∃u,u=aboveF S n:=⟨_,rfl⟩;rw [←hu'];have HU:=zH hu';clear hu'
    by_cases hs:u=n
    ·have t2:(u == n)=true:=by simpa using hs
     have hf:Hid (res=false):=by show _=_;rw[←hw.out,within_stay (by rw[←HU.out];exact hs) HB.out]
     clear hs;go_wp2_with fail;go_ret;exact Ret.mk (ret_bool hf.out.symm) (hE.trans b2)
    ·have t2:(u == n)=false:=by simpa using hs
     have hst:Hid (withinF S u base=res):=by show _=_;rw[←hw.out,HU.out];exact (within_step HR.out H0.out HB.out (by rw[←HU.out];exact hs)).symm
     have hms:Hid (u≠0→r u<r n):=by
      show u≠0→r u<r n;intro h;rw[HU.out];exact HR.out.step n H0.out (by rw[←HU.out];exact h) (by rw[←HU.out];exact hs)
     clear hs;have hms2:Hid ((if u=0 then 0 else r u+1)<(if n=0 then 0 else r n+1)):=by
      show (if u=0 then 0 else r u+1)<(if n=0 then 0 else r n+1);rw [if_neg H0.out];split
      ·omega
      ·rename_i h;have:=hms.out h;omega
     go_wp2_with fail;go_roundw
     case rel=>exact⟨u,rfl,hst,hE.trans b2⟩
     case measure=>exact hms2.out
theorem rwithin_any (B:Nat) (g:GhF) (S:TreeD) (X:Xtra) (no base:Int) (w:World) (h:FAt w B g S X) (hl:S.nodes.length≤100000) (hd2:S.devs.length≤8) (hr:RootsOk S.devs) (hu:NosUp S.nodes S.last) :
  Calls Tryz.prog 174 #[.pointer (some ⟨g.bF,0,none⟩),.int .i64 no,.int .i64 base] w (Ret w (.bool (withinF S no base))):=by
 obtain ⟨res,hres⟩:∃res,res=withinF S no base:=⟨_,rfl⟩;rw [←hres];have HRES:=zH hres;clear hres;obtain ⟨L,hL⟩:∃L,L=S.nodes.length:=⟨_,rfl⟩;have hL2:L≤100000:=by omega
 have HL:=zH hL;clear hL;go_enter Tryz.func174,Tryz.ntmps174;go_wp2_with fail;go_loopw [1,7] (fun v1 v7 wr=>∃(n:Int) (k:Nat),v1=.int .i64 n∧v7=.int .i64 k∧k≤L+1∧Hid (wiF S base (L+1-k) n=res)∧Ext w wr) (fun _ v7 _=>L+1-(intOf v7).toNat)
 case atStart=>exact⟨no,0,rfl,rfl,by omega,by show _=_;rw[HRES.out,HL.out];rfl,Ext.refl _⟩
 case round =>
  obtain ⟨n,k,rfl,rfl,hk,hw,hE⟩:=hrel;obtain ⟨_,cn,cd,hF,_,_⟩:=id (h.ext hE);have c0:wr.cell? ⟨g.bF,0,none⟩=some (.slice (some ⟨g.bN,0,none⟩) L cn):=by rw[HL.out];exact hF.cell 0
  have zF:=hF.lt;clear hF
  by_cases hkl:(k:Int)≤L
  ·have tk:decide ((k:Int)≤L)=true:=decide_eq_true hkl
   obtain ⟨f,hf⟩:∃f,L+1-k=f+1:=⟨L-k,by omega⟩;have hw2:Hid ((if n=0 then false else if n=base then true else wiF S base f (aboveF S n))=res):=by
    show _=_;rw [←hw.out,hf];rfl
   have hf2:f=L+1-(k+1):=by omega
   have HF2:=zH hf2;clear hf hf2 hw
   by_cases h0:n=0
   ·have hv:Hid (res=false):=by show _=_;rw[←hw2.out,if_pos h0]
    subst h0;go_wp2_with fail;go_ret;exact Ret.mk (ret_bool hv.out.symm) hE
   ·have t0:(n == 0)=false:=by simpa using h0
    have t0b:(n != 0)=true:=by simpa using h0
    by_cases hb:n=base
    ·have t1:(n == base)=true:=by simpa using hb
     have hv:Hid (res=true):=by show _=_;rw[←hw2.out,if_neg h0,if_pos hb]
     clear h0 hb;go_wp2_with fail;go_ret;exact Ret.mk (ret_bool hv.out.symm) hE
    ·have t1:(n == base)=false:=by simpa using hb
     have hw3:Hid (wiF S base f (aboveF S n)=res):=by show _=_;rw[←hw2.out,if_neg h0,if_neg hb]
     clear h0 hb hw2;go_wp2_with fail;refine (rabove_any B g S X n _ (h.ext hE) (by have:=HL.out;omega) hd2 hr hu).mono ?_;rintro e w2 ⟨rfl,b2⟩;clear c0 zF;go_wp2_with fail;go_roundw
     case rel=>exact⟨aboveF S n,k+1,rfl,by go_num,by omega,by show _=_;rw[←HF2.out];exact hw3.out,hE.trans b2⟩
     case measure=>simp[intOf];omega
  ·have tk:decide ((k:Int)≤L)=false:=decide_eq_false hkl
   have hv:Hid (res=false):=by
    show _=_;rw [←hw.out,show L+1-k=0 by omega];rfl
   go_wp2_with fail;go_ret;exact Ret.mk (ret_bool hv.out.symm) hE
def busyF (S:TreeD) (no:Int):Bool:=(S.devs.drop 1).any fun d=>withinF S d.over no
theorem busy_yes {S:TreeD} {no:Int} {k:Nat} (hk:k+1<S.devs.length) (h:withinF S S.devs[k+1].over no=true):busyF S no=true:=by
 unfold busyF;rw [List.any_eq_true];exact ⟨S.devs[k+1],by rw[List.mem_drop_iff_getElem];exact⟨k,by omega,by congr 1;omega⟩,h⟩
theorem busy_no {S:TreeD} {no:Int} (h:∀j,(hj:j+1<S.devs.length)→withinF S S.devs[j+1].over no=false):busyF S no=false:=by
 unfold busyF;rw [List.any_eq_false];intro d hd;rw [List.mem_drop_iff_getElem]at hd;obtain ⟨k,hk,rfl⟩:=hd;have:=h k (by omega);have e:S.devs[1+k]=S.devs[k+1]:=by congr 1;omega
 rw [e,this];decide
theorem from_oneD (bl n m cap:Nat) (h0:n=m+1) (hc:n≤cap):∃X:Addr,(∀W,(Instr.slice 104 (.slice (some ⟨bl,0,none⟩) n cap) (some (.int .i64 1)) none none).run Tryz.prog W=.ok (.slice (some X) m (cap-1)) W)∧(0<m→X=⟨bl,6,none⟩):=by
 have h4:n-1=m:=by omega
 have hu:=Tryz.underlying104;have h1:(1:Int)≤n:=by omega
 have hi:(Tryz.prog.info? 205).map (·.size)=some 6:=by kernel_rfl
 by_cases h:cap=1
 ·refine ⟨⟨bl,0,none⟩,fun W=>?_,fun h2=>by omega⟩
  subst h;go_simp;intro h;omega
 ·refine ⟨⟨bl,6,none⟩,fun W=>?_,fun _=>rfl⟩
  go_simp;intro h;omega
theorem RowD.cap {w:World} {B:Nat} {t:TypeId} {g cap:Nat} {ds:List DevD} (h:RowD w B t (.slice (some ⟨g,0,none⟩) ds.length cap) ds):ds.length≤cap:=by
 rcases h.2 with⟨h0,_⟩|⟨g',cap',cur,h0,hb,hg,h1,h2,h3,h4⟩
 ·cases h0
 ·injection h0 with h0 e1 e2
  omega
theorem pbusy_any (B:Nat) (g:GhW) (S:TreeD) (r:Int→Nat) (no:Int) (w:World) (h:WAt w B g S) (hd:0<S.devs.length) (hd2:S.devs.length≤8) (hr:RootsOk S.devs) (hu:NosUp S.nodes S.last) (R:Rank S r) :
  Calls Tryz.prog 143 #[.pointer (some ⟨g.bW,0,none⟩),.int .i64 no] w (Ret w (.bool (busyF S no))):=by
 have h0:=h;obtain ⟨h1,h2,cd,h3,h4⟩:=h;have hcap:=RowD.cap h4;obtain ⟨n,hn⟩:∃n,n=S.devs.length:=⟨_,rfl⟩;obtain ⟨m,hm⟩:∃m,n=m+1:=⟨n-1,by omega⟩;obtain ⟨X,hX1,hX2⟩:=from_oneD g.bD n m cd hm (by omega);rw [←hn]at h3;have hm8:m≤8:=by omega
 have HN:=zH hn;have HM:=zH hm;have HX2:=zH hX2;have HR:=zH R;clear hn hm hX2 R hcap;go_enter Tryz.func143,Tryz.ntmps143;go_wp2_with fail;refine (pnone_any B g S _ h0 hd).mono ?_;rintro e w1 ⟨rfl,b1⟩;have hW:=(h3.ext b1).lt;have c1:=(h3.ext b1).cell 1;simp only[gA,gC,gB]at c1;go_wp2_with fail;go_loopw [15] (fun i wr=>∃k:Nat,k≤m∧i=.int .i64 k∧Hid (∀j,(hj:j+1<S.devs.length)→j<k→withinF S S.devs[j+1].over no=false)∧Ext w wr) (fun i _=>m-(intOf i).toNat)
 case atStart=>exact⟨0,Nat.zero_le _,rfl,fun j _ h=>by omega,b1⟩
 case round =>
  obtain ⟨k,hk,rfl,ha,hE⟩:=hrel
  by_cases hlt:(k:Int)<m
  ·have hkl:k+1<S.devs.length:=by have:=HN.out;have:=HM.out;omega
   obtain rfl:=HX2.out (by omega);obtain ⟨d0,d1,d2,d3,d4,d5⟩:=RowD.at_ (show RowD wr B 205 _ S.devs from ownsRow_only h4 (Only.of_ext (L:=[]) hE) (by simp)) (k+1) hkl;rw [show (k+1)*6=6+k*6 by omega]at d0 d1 d2 d3 d4 d5;have hbD:g.bD<wr.heap.size:=(h0.ext hE).lt.2.2.2;obtain ⟨x,hx⟩:∃x,x=S.devs[k+1]:=⟨_,rfl⟩;rw [←hx]at d0 d1 d2 d3 d4 d5;have HXX:=zH hx;clear hx c1 hW;go_wp2_with fail;refine (pwithin_any B g S r x.over no _ ((h0.ext hE).ext ((Ext.refl _).alloc _)) hd hd2 hr hu HR.out).mono ?_;rintro e w2 ⟨rfl,b2⟩;have hE2:=(hE.alloc (.cells #[.int .i64 x.root,.int .i64 x.over,.int .i64 x.q.blocks,.int .i64 x.q.nodes,.int .i64 x.q.mostB,.int .i64 x.q.mostN] 205)).trans b2
   cases hq:withinF S x.over no
   ·have ha2:Hid (∀j,(hj:j+1<S.devs.length)→j<k+1→withinF S S.devs[j+1].over no=false):=by
     show ∀j,(hj:j+1<S.devs.length)→j<k+1→withinF S S.devs[j+1].over no=false;intro j hj hj2
     by_cases e:j=k
     ·subst e;rw[←HXX.out];exact hq
     ·exact ha.out j hj (by omega)
    clear hq d0 d1 d2 d3 d4 d5;go_wp2_with fail;go_roundw
    case rel=>exact⟨k+1,by omega,by go_num,ha2,hE2⟩
    case measure=>simp[intOf];omega
   ·have hf:Hid (busyF S no=true):=busy_yes hkl (by rw[←HXX.out];exact hq)
    clear hq d0 d1 d2 d3 d4 d5;go_wp2_with fail;go_ret;exact Ret.mk (ret_bool hf.out.symm) hE2
  ·have hf:Hid (busyF S no=false):=busy_no fun j hj=>ha.out j hj (by have:=HN.out;have:=HM.out;omega)
   clear c1 hW;go_wp2_with fail;go_ret;exact Ret.mk (ret_bool hf.out.symm) hE
theorem rbusy_any (B:Nat) (g:GhF) (S:TreeD) (X:Xtra) (no:Int) (w:World) (h:FAt w B g S X) (hl:S.nodes.length≤100000) (hd2:S.devs.length≤8) (hr:RootsOk S.devs) (hu:NosUp S.nodes S.last) :
  Calls Tryz.prog 144 #[.pointer (some ⟨g.bF,0,none⟩),.int .i64 no] w (Ret w (.bool (busyF S no))):=by
 obtain ⟨n,hn⟩:∃n,n=S.devs.length:=⟨_,rfl⟩;have hn8:n≤8:=by omega
 have HN:=zH hn;clear hn;go_enter Tryz.func144,Tryz.ntmps144;go_wp2_with fail;go_loopw [5] (fun i wr=>∃k:Nat,i=.int .i64 (k+1)∧k≤n∧Hid (∀j,(hj:j+1<S.devs.length)→j<k→withinF S S.devs[j+1].over no=false)∧Ext w wr) (fun i _=>n+1-(intOf i).toNat)
 case atStart=>exact⟨0,rfl,Nat.zero_le _,fun j _ h=>by omega,Ext.refl _⟩
 case round =>
  obtain ⟨k,rfl,hk,ha,hE⟩:=hrel;obtain ⟨_,cn,cd,hF,_,hD⟩:=id (h.ext hE);have c1:wr.cell? ⟨g.bF,1,none⟩=some (.slice (some ⟨g.bE,0,none⟩) n cd):=by rw[HN.out];exact hF.cell 1
  have zF:=hF.lt;clear hF
  by_cases hlt:(k:Int)+1<n
  ·have hkl:k+1<S.devs.length:=by have:=HN.out;omega
   obtain ⟨d0,d1,d2,d3,d4,d5⟩:=RowD.at_ hD (k+1) hkl;have hbE:g.bE<wr.heap.size:=(h.ext hE).lt.2.2;obtain ⟨x,hx⟩:∃x,x=S.devs[k+1]:=⟨_,rfl⟩;rw [←hx]at d1;have HXX:=zH hx;have q1:(0:Int)≤(k:Int)+1:=by omega
   have q2:((k:Int)+1).toNat=k+1:=by omega
   have q3:IntKind.i64.wrap ((k:Int)+1)=(k:Int)+1:=wrap_i64_in (by omega) (by omega);clear hx d0 d2 d3 d4 d5 hD;go_wp2_with fail;refine (rwithin_any B g S X x.over no _ (h.ext hE) hl hd2 hr hu).mono ?_;rintro e w2 ⟨rfl,b2⟩
   cases hq:withinF S x.over no
   ·have ha2:Hid (∀j,(hj:j+1<S.devs.length)→j<k+1→withinF S S.devs[j+1].over no=false):=by
     show ∀j,(hj:j+1<S.devs.length)→j<k+1→withinF S S.devs[j+1].over no=false;intro j hj hj2
     by_cases e:j=k
     ·subst e;rw[←HXX.out];exact hq
     ·exact ha.out j hj (by omega)
    clear hq d1 c1 zF;go_wp2_with fail;go_roundw
    case rel=>exact⟨k+1,by go_num,by omega,ha2,hE.trans b2⟩
    case measure=>simp[intOf];omega
   ·have hf:Hid (busyF S no=true):=busy_yes hkl (by rw[←HXX.out];exact hq)
    clear hq d1 c1 zF;go_wp2_with fail;go_ret;exact Ret.mk (ret_bool hf.out.symm) (hE.trans b2)
  ·have hf:Hid (busyF S no=false):=busy_no fun j hj=>ha.out j hj (by have:=HN.out;omega)
   go_wp2_with fail;go_ret;exact Ret.mk (ret_bool hf.out.symm) hE
theorem same_node (n:NodeD) (A A':Option Addr) (c c':Nat) (w:World) (h:EntsAt w A n.ents) (h':EntsAt w A' n.ents) (hlen:n.ents.length≤1000000) :
  Calls Tryz.prog 56 #[.agg #[.int .i64 n.no,.int .i64 n.dev,.int .i64 n.kind,.int .i64 n.mode,.int .i64 n.uid,.int .i64 n.gid,.int .i64 n.mtime,.int .i64 n.ctime,.int .i64 n.links,.int .i64 n.up,.string (bs n.data),.slice A n.ents.length c],.agg #[.int .i64 n.no,.int .i64 n.dev,.int .i64 n.kind,.int .i64 n.mode,.int .i64 n.uid,.int .i64 n.gid,.int .i64 n.mtime,.int .i64 n.ctime,.int .i64 n.links,.int .i64 n.up,.string (bs n.data),.slice A' n.ents.length c']] w (Ret w (.bool true)):=by
 obtain ⟨m,hm⟩:∃m,m=n.ents.length:=⟨_,rfl⟩;obtain ⟨W,hW⟩:∃W,W=(w.alloc (.cells #[.int .i64 n.no,.int .i64 n.dev,.int .i64 n.kind,.int .i64 n.mode,.int .i64 n.uid,.int .i64 n.gid,.int .i64 n.mtime,.int .i64 n.ctime,.int .i64 n.links,.int .i64 n.up,.string (bs n.data),.slice A n.ents.length c] 66)).alloc (.cells #[.int .i64 n.no,.int .i64 n.dev,.int .i64 n.kind,.int .i64 n.mode,.int .i64 n.uid,.int .i64 n.gid,.int .i64 n.mtime,.int .i64 n.ctime,.int .i64 n.links,.int .i64 n.up,.string (bs n.data),.slice A' n.ents.length c'] 66):=⟨_,rfl⟩;have EW:Ext w W:=by rw[hW];exact ((Ext.refl _).alloc _).alloc _
 have B1:Has W w.heap.size (.cells #[.int .i64 n.no,.int .i64 n.dev,.int .i64 n.kind,.int .i64 n.mode,.int .i64 n.uid,.int .i64 n.gid,.int .i64 n.mtime,.int .i64 n.ctime,.int .i64 n.links,.int .i64 n.up,.string (bs n.data),.slice A n.ents.length c] 66):=by rw[hW];exact (Has.new _ _).alloc _
 have B2:Has W (w.heap.size+1) (.cells #[.int .i64 n.no,.int .i64 n.dev,.int .i64 n.kind,.int .i64 n.mode,.int .i64 n.uid,.int .i64 n.gid,.int .i64 n.mtime,.int .i64 n.ctime,.int .i64 n.links,.int .i64 n.up,.string (bs n.data),.slice A' n.ents.length c'] 66):=by
  rw [hW];have:=Has.new (w.alloc (.cells #[.int .i64 n.no,.int .i64 n.dev,.int .i64 n.kind,.int .i64 n.mode,.int .i64 n.uid,.int .i64 n.gid,.int .i64 n.mtime,.int .i64 n.ctime,.int .i64 n.links,.int .i64 n.up,.string (bs n.data),.slice A n.ents.length c] 66)) (.cells #[.int .i64 n.no,.int .i64 n.dev,.int .i64 n.kind,.int .i64 n.mode,.int .i64 n.uid,.int .i64 n.gid,.int .i64 n.mtime,.int .i64 n.ctime,.int .i64 n.links,.int .i64 n.up,.string (bs n.data),.slice A' n.ents.length c'] 66)
  rwa [World.size_alloc]at this
 go_enter Tryz.func56,Tryz.ntmps56;go_upto_region 1 with fail;rw [←hW];obtain ⟨x0,x1,x2,x3,x4,x5,x6,x7,x8,x9,x10,x11⟩:=B1.node12;obtain ⟨y0,y1,y2,y3,y4,y5,y6,y7,y8,y9,y10,y11⟩:=B2.node12;have z1:=B1.lt;have z2:=B2.lt;have HM:=zH hm;rw [←hm]at x11 y11 hlen;clear hW hm;simp only[List.append];go_wp2_with fail;clear x0 x1 x2 x3 x4 x5 x6 x7 x8 x9 x10 y0 y1 y2 y3 y4 y5 y6 y7 y8 y9 y10;go_loopw [5] (fun i wr=>∃k:Nat,k≤m∧i=.int .i64 k∧Ext W wr) (fun i _=>m-(intOf i).toNat)
 case atStart=>exact⟨0,Nat.zero_le _,rfl,Ext.refl _⟩
 case round =>
  obtain ⟨k,hk,rfl,hE⟩:=hrel;have u11:=((B1.ext hE).cell 11);have v11:=((B2.ext hE).cell 11);simp only[gA,gC,gB]at u11 v11;rw [←HM.out]at u11 v11;have z3:=(B1.ext hE).lt;have z4:=(B2.ext hE).lt;clear x11 y11 z1 z2
  by_cases hlt:(k:Int)<m
  ·have hkl:k<n.ents.length:=by have:=HM.out;omega
   obtain ⟨b,o,rfl,hbw,ca,cb⟩:=h.at_ (EW.trans hE) k hkl;obtain ⟨b',o',rfl,hbw',ca',cb'⟩:=h'.at_ (EW.trans hE) k hkl;obtain ⟨x,hx⟩:∃x,x=n.ents[k]:=⟨_,rfl⟩;rw [←hx]at ca cb ca' cb';clear hx;have g2:(0:Int)≤(k:Int):=by omega
   go_upto_region 6 with fail;go_quiet (fail);go_wp2_with fail;go_roundw
   case rel=>exact⟨k+1,by omega,by go_num,hE.drewN nq⟩
   case measure=>simp[intOf];omega
  ·go_wp2_with fail
   go_ret;exact Ret.mk rfl (EW.trans hE)
theorem tlen_any (B bT bM:Nat) (ns:List NodeD) (last:Int) (w:World) (h:TAt w B bT bM ns last):Calls Tryz.prog 49 #[.pointer (some ⟨bT,0,none⟩)] w (Ret w (.int .i64 ns.length)):=by
 obtain ⟨h1,h2,h3,es,cl,h4,h5⟩:=h;have c0:=h3.cell 0;simp only[gA,gB]at c0;have z0:=h3.lt;have z1:=h4.lt;have hlen:(es.size:Int)=ns.length:=by have:=h5.1;rw[Array.length_toList]at this;omega
 have H4:w.heap[bM]?=some (.map es cl):=h4;have hr:(Builtin.len_ #[155] 3 #[.map (some bM)]).run Tryz.prog w=.ok (.int .i64 es.size) w:=by simp[Builtin.len_,run_underlying Tryz.underlying155,MapKept.run_getObj_map h4,goInt,Result.andThen]
 have HL:=zH hlen;clear h3 h4 h5 hlen H4;go_enter Tryz.func49,Tryz.ntmps49;go_wp2_with fail;go_ret;exact Ret.mk (ret_int HL.out) (Ext.refl _)
theorem res_cell1 {P:Program} {fn:Func} {p:Tmp} {ty:TypeId} (h:fn.results=#[.cell p ty]) (tmps:Array Value) (w:World) (g:Nat) (tt:TypeId) (cs:Array Value) (d:TypeDesc)
  (hp:tmps.getD p undef=.pointer (some ⟨g,0,none⟩)) (hg:Has w g (.cells cs tt))
  (hu:P.underlying ty=some d) (hd:(match d with | .struct _ | .array _ _=>true|_=>false)=true) (hi:(P.info? ty).map (·.size)=some cs.size) :
  (results fn tmps).run P w=.ok (.agg cs) w:=by
 have hp':tmps[p]?.getD undef=.pointer (some ⟨g,0,none⟩):=by simpa using hp
 have hl:=run_loadVar_row (P:=P) w g tt ty cs (0,0) d hg hu hd hi;simp [results,h,hp',asAddr,hl]
theorem wpList_store_space {ops:Array Oper} {rest:List Oper} {op:Oper} {a:Act} {w:World} {Q:Exit→Act→World→Prop} (hgd:op.guard=none) (x y:Operand) (ho:op.op=.store 189 x y)
  (b:Nat) (q:SpaceD) (hx:a.eval x=.pointer (some ⟨b,0,none⟩)) (hy:a.eval y=.agg #[.int .i64 q.blocks,.int .i64 q.nodes,.int .i64 q.mostB,.int .i64 q.mostN]) {m:SpaceD} (hb:Has w b (.cells #[.int .i64 m.blocks,.int .i64 m.nodes,.int .i64 m.mostB,.int .i64 m.mostN] 189))
  (h:∀w',Has w' b (.cells #[.int .i64 q.blocks,.int .i64 q.nodes,.int .i64 q.mostB,.int .i64 q.mostN] 189)→Only [b] w w'→wpList Tryz.prog ops Q rest (a.put op.dst undef) w'):wpList Tryz.prog ops Q (op::rest) a w:=by
 refine wpList_store_mid hgd 189 x y ho b 0 #[.int .i64 q.blocks,.int .i64 q.nodes,.int .i64 q.mostB,.int .i64 q.mostN] hx hy hb.there infoSpace4 (space_all q) ?_;exact h _ (hb.setSpace q) (only_setCells [.int .i64 q.blocks,.int .i64 q.nodes,.int .i64 q.mostB,.int .i64 q.mostN] 0 w)
theorem puse_any (B:Nat) (g:GhW) (S:TreeD) (d:Int) (w:World) (h:WAt w B g S) (hd:0<S.devs.length) (hd2:S.devs.length≤8) (hr:RootsOk S.devs):Calls Tryz.prog 139 #[.pointer (some ⟨g.bW,0,none⟩),.int .i64 d] w (Ret w (.agg #[.int .i64 (useF S.devs d).blocks,.int .i64 (useF S.devs d).nodes,.int .i64 (useF S.devs d).mostB,.int .i64 (useF S.devs d).mostN])):=by
 obtain ⟨W0,hW0⟩:∃W0,W0=w.alloc (.cells #[.int .i64 spaceZ.blocks,.int .i64 spaceZ.nodes,.int .i64 spaceZ.mostB,.int .i64 spaceZ.mostN] 189):=⟨_,rfl⟩;obtain ⟨b0,hb0⟩:∃b,b=w.heap.size:=⟨_,rfl⟩;have N0:Has W0 b0 (.cells #[.int .i64 spaceZ.blocks,.int .i64 spaceZ.nodes,.int .i64 spaceZ.mostB,.int .i64 spaceZ.mostN] 189):=by rw[hW0,hb0];exact Has.new _ _
 have E0:Ext w W0:=by rw[hW0];exact (Ext.refl _).alloc _
 have hbw:w.heap.size≤b0:=by omega
 have HW0:Hid (w.alloc (.cells #[.int .i64 0,.int .i64 0,.int .i64 0,.int .i64 0] 189)=W0):=zH hW0.symm;have HB0:Hid (w.heap.size=b0):=zH hb0.symm;clear hW0 hb0;rcases rootF_zero hr d with⟨e1,e2⟩|⟨k,hk,e1,e2,e3,e4,e5,e6⟩
 ·have hv:Hid (useF S.devs d=spaceZ):=by show _=_;unfold useF;rw[e2];rfl
  have t1:(rootF S.devs d == 0)=true:=by simpa using e1
  clear e1 e2;go_enter Tryz.func139,Tryz.ntmps139;go_upto_region 1 with fail;rw [HW0.out,HB0.out];go_wp2_with fail;refine (proot_any B g S d _ (h.ext E0) hd (by omega)).mono ?_;rintro e w1 ⟨rfl,b1⟩;have N1:=N0.ext b1;go_wp2_with (refine wpList_store_space rfl _ _ rfl b0 spaceZ rfl rfl N1 ?_;intro w2 N2 O2);exact bodyPost_ret (res_cell1 rfl _ _ b0 _ _ _ rfl N2 Tryz.underlying189 rfl infoSpace4) rfl (Ret.mk (by rw[hv.out]) (O2.after (E0.trans b1) (by intro x hx;rw[List.mem_singleton]at hx;omega)))
 ·have hv:Hid (useF S.devs d=S.devs[k].q):=by show _=_;unfold useF;rw[e2,e3];rfl
  have t1:(rootF S.devs d == 0)=false:=by rw[e4];simpa using (by omega:S.devs[k].root≠0)
  have y0:(0:Int)≤d-1:=by omega
  have y1:d-1<(S.devs.length:Int):=by omega
  have y2:(d-1).toNat=k:=by omega
  have y3:IntKind.i64.wrap (d-1)=d-1:=wrap_i64_in (by omega) (by omega);have y4:1≤d:=by omega
  have y5:d.toNat-1=k:=by omega
  clear e1 e2 e3 e4 e5 e6;go_enter Tryz.func139,Tryz.ntmps139;go_upto_region 1 with fail;rw [HW0.out,HB0.out];go_wp2_with fail;refine (proot_any B g S d _ (h.ext E0) hd (by omega)).mono ?_;rintro e w1 ⟨rfl,b1⟩;have N1:=N0.ext b1;obtain ⟨h1,h2,cd,h3,h4⟩:=(h.ext E0).ext b1;have hW:=h3.lt;have c1:=h3.cell 1;simp only[gA,gC,gB]at c1;obtain ⟨d0,d1,d2,d3,d4,d5⟩:=RowD.at_ h4 k hk;have zD:=(h.ext (E0.trans b1)).lt.2.2.2
  generalize S.devs[k]=x at hv d0 d1 d2 d3 d4 d5
  clear h2 h3 h4;go_wp2_with (refine wpList_store_space rfl _ _ rfl b0 x.q rfl rfl N1 ?_;intro w2 N2 O2);exact bodyPost_ret (res_cell1 rfl _ _ b0 _ _ _ rfl N2 Tryz.underlying189 rfl infoSpace4) rfl (Ret.mk (by rw[hv.out]) (O2.after (E0.trans b1) (by intro x hx;rw[List.mem_singleton]at hx;omega)))
theorem field_node (a0 a1 a2 a3 a4 a5 a6 a7 a8 a9 a10 a11:Value) (w:World) :
  (Instr.field 66 (.agg #[a0,a1,a2,a3,a4,a5,a6,a7,a8,a9,a10,a11]) 11).run Tryz.prog w=.ok a11 w∧(Instr.field 66 (.agg #[a0,a1,a2,a3,a4,a5,a6,a7,a8,a9,a10,a11]) 2).run Tryz.prog w=.ok a2 w:=by
 constructor<;>kernel_rfl
def childF (S:TreeD) (no:Int):Int:=
 if rootF S.devs (getN S.nodes no).dev=no∧1<(getN S.nodes no).dev then (devN S.devs (getN S.nodes no).dev).over else no
def nmF (S:TreeD) (no:Int):Option (List UInt8):=(nameOf (getN S.nodes (aboveF S no)).ents (childF S no)).map (·.1)
def whL (S:TreeD):Nat→Int→Option (List (List UInt8))
 | 0,_=>none
 | f+1,no=>if no=1 then some [] else match nmF S no with
  | none=>none
  | some x=>(whL S f (aboveF S no)).map (x::·)
def pathB (l:List (List UInt8)):List UInt8:=l.reverse.flatMap fun x=>47::x
def pathT (l:List (List UInt8)):List UInt8:=if l=[] then [47] else pathB l
def whereF (S:TreeD) (no:Int):Option (List UInt8):=(whL S (S.nodes.length+1) no).map pathT
def NamesOk (S:TreeD):Prop:=∀n∈S.nodes,∀x∈n.ents,x.1≠[]∧x.1.length≤255
theorem pathB_snoc (l:List (List UInt8)) (x:List UInt8):pathB (l++[x])=47::x++pathB l:=by
 unfold pathB;rw[List.reverse_append];rfl
theorem pathB_len (l:List (List UInt8)) (h:∀x∈l,x.length≤255):(pathB l).length≤l.length*256:=by
 induction l with
 | nil=>simp[pathB]
 | cons x l ih =>
  have h1:=ih fun y hy=>h y (by simp[hy])
  have h2:=h x (by simp);have e:pathB (x::l)=pathB l++47::x:=by unfold pathB;simp
  rw [e,List.length_append];simp only[List.length_cons];omega
theorem pathB_nil {l:List (List UInt8)}:pathB l=[]↔l=[]:=by
 constructor
 ·intro h
  cases l with
  | nil=>rfl
  | cons x l =>
   have e:pathB (x::l)=pathB l++47::x:=by unfold pathB;simp
   rw [e]at h;simp at h
 ·rintro rfl;rfl
theorem wh_succ (S:TreeD) (f:Nat) (no:Int) (h:no≠1):whL S (f+1) no=match nmF S no with|none=>none|some x=>(whL S f (aboveF S no)).map (x::·):=by
 conv=>lhs;unfold whL
 rw [if_neg h]
def WhR (w:World) (o:Option (List UInt8)) (e:Ending) (w':World):Prop:=
 (match o with
  | some s=>e=.returned (.tuple #[.string (bs s),.bool true])
  | none=>e=.returned (.tuple #[.string (bs []),.bool false]))∧Ext w w'
theorem WhR.no {w w':World} {o:Option (List UInt8)} (h:o=none) (hE:Ext w w'):WhR w o (.returned (.tuple #[.string ⟨#[]⟩,.bool false])) w':=by
 subst h;exact⟨rfl,hE⟩
theorem WhR.yes {w w':World} {o:Option (List UInt8)} {s:List UInt8} (h:o=some s) (hE:Ext w w'):WhR w o (.returned (.tuple #[.string (bs s),.bool true])) w':=by
 subst h;exact⟨rfl,hE⟩
theorem nameOf_drop {l:List EntD} {k:Nat} (hk:k<l.length) (no:Int):nameOf (l.drop k) no=if l[k].2 == no then some l[k] else nameOf (l.drop (k+1)) no:=by
 rw [List.drop_eq_getElem_cons hk];unfold nameOf;rw [List.find?_cons]
 cases l[k].2 == no<;>rfl
theorem nameOf_mem {l:List EntD} {no:Int} {x:EntD} (h:nameOf l no=some x):x∈l:=List.mem_of_find?_eq_some h
theorem rwhere_any (B:Nat) (g:GhF) (S:TreeD) (X:Xtra) (no:Int) (w:World) (h:FAt w B g S X) (hl:S.nodes.length≤100000) (hd:0<S.devs.length) (hd2:S.devs.length≤8) (hr:RootsOk S.devs) (hu:NosUp S.nodes S.last) (hn:NamesOk S) (hel:∀n∈S.nodes,n.ents.length≤1000000) :
  Calls Tryz.prog 141 #[.pointer (some ⟨g.bF,0,none⟩),.int .i64 no] w (WhR w (whereF S no)):=by
 obtain ⟨res,hres⟩:∃res,res=whereF S no:=⟨_,rfl⟩;rw [←hres];have HRES:=zH hres;clear hres;obtain ⟨L,hL⟩:∃L,L=S.nodes.length:=⟨_,rfl⟩;obtain ⟨D,hD⟩:∃D,D=S.devs.length:=⟨_,rfl⟩;have hL2:L≤100000:=by omega
 have hD1:(0:Int)<D:=by omega
 have HL:=zH hL;have HDL:=zH hD;clear hL hD;go_enter Tryz.func141,Tryz.ntmps141;go_wp2_with fail;go_loopw [1,6,7] (fun v1 v6 v7 wr=>∃(n:Int) (k:Nat) (acc:List (List UInt8)),v1=.int .i64 n∧v6=.string (bs (pathB acc))∧v7=.int .i64 k∧k≤L+1∧acc.length≤k∧Hid (∀x∈acc,x.length≤255)∧Hid ((whL S (L+1-k) n).map (fun l=>pathT (acc++l))=res)∧Ext w wr) (fun _ _ v7 _=>L+1-(intOf v7).toNat)
 case atStart=>exact⟨no,0,[],rfl,rfl,rfl,by omega,Nat.le_refl _,fun x hx=>by simp at hx,by show _=_;rw[HRES.out,HL.out];rfl,Ext.refl _⟩
 case round =>
  obtain ⟨n,k,acc,rfl,rfl,rfl,hk,hak,hac,hw,hE⟩:=hrel;obtain ⟨_,cn,cd,hF,_,_⟩:=id (h.ext hE);have c0:wr.cell? ⟨g.bF,0,none⟩=some (.slice (some ⟨g.bN,0,none⟩) L cn):=by rw[HL.out];exact hF.cell 0
  have c1:wr.cell? ⟨g.bF,1,none⟩=some (.slice (some ⟨g.bE,0,none⟩) D cd):=by rw[HDL.out];exact hF.cell 1
  have zF:=hF.lt;have hpl:=pathB_len acc hac.out;clear hF
  by_cases hkl:(k:Int)≤L
  ·have tk : decide ((k:Int)≤L)=true:=decide_eq_true hkl
   obtain ⟨f,hf⟩:∃f,L+1-k=f+1:=⟨L-k,by omega⟩;have hf2:f=L+1-(k+1):=by omega
   rw [hf]at hw;have HF2:=zH hf2;clear hf hf2
   by_cases h1:n=1
   ·have hv:Hid (res=some (pathT acc)):=by
     show _=_;rw [←hw.out,h1];unfold whL;simp
    have hsz:((bs (pathB acc)).size:Int)=(pathB acc).length:=by rw[bs_size]
    subst h1
    by_cases ha:acc=[]
    ·subst ha
     have e1:((bs (pathB [])).toList == ([]:List UInt8))=true:=by rw[bs_toList];rfl
     go_wp2_with fail;go_ret2;exact WhR.yes (s:=[47]) (by rw[hv.out];rfl) hE
    ·have e1:((bs (pathB acc)).toList == ([]:List UInt8))=false:=by
      rw [bs_toList];have:pathB acc≠[]:=fun h=>ha (pathB_nil.1 h)
      simpa using this
     have hp:Hid (pathT acc=pathB acc):=by show _=_;unfold pathT;rw[if_neg ha]
     clear ha;go_wp2_with fail;go_ret2;exact WhR.yes (by rw[hv.out,hp.out]) hE
   ·have t1 : (n == 1)=false:=by simpa using h1
    have hw2:Hid (((match nmF S n with|none=>none|some x=>(whL S f (aboveF S n)).map (x::·)):Option (List (List UInt8))).map (fun l=>pathT (acc++l))=res):=by
     show _=_;rw [←hw.out,wh_succ S f n h1]
    clear h1 hw;go_wp2_with fail;refine (rabove_any B g S X n _ (h.ext hE) (by omega) hd2 hr hu).mono ?_;rintro e w2 ⟨rfl,b2⟩;obtain ⟨u,hu'⟩:∃u,u=aboveF S n:=⟨_,rfl⟩;rw [←hu'];have HU:=zH hu';have hE2:=hE.trans b2;clear hu' c0 c1 zF;go_wp2_with fail;refine (rget_any B g S X n _ (h.ext hE2) (by omega) hu).mono ?_;rintro e w3 ⟨A3,c3,rfl,ok3,b3⟩;have hch:Hid (childF S n=if rootF S.devs (getN S.nodes n).dev=n∧1<(getN S.nodes n).dev then (devN S.devs (getN S.nodes n).dev).over else n):=by show _=_;rfl
    obtain ⟨m,hm⟩:∃m,m=getN S.nodes n:=⟨_,rfl⟩;rw [←hm]at ok3 hch⊢;obtain ⟨W4,hW4⟩:∃W4,W4=w3.alloc (.cells #[.int .i64 m.no,.int .i64 m.dev,.int .i64 m.kind,.int .i64 m.mode,.int .i64 m.uid,.int .i64 m.gid,.int .i64 m.mtime,.int .i64 m.ctime,.int .i64 m.links,.int .i64 m.up,.string (bs m.data),.slice A3 m.ents.length c3] 66):=⟨_,rfl⟩;obtain ⟨b10,hb10⟩:∃b,b=w3.heap.size:=⟨_,rfl⟩;have N4:Has W4 b10 (.cells #[.int .i64 m.no,.int .i64 m.dev,.int .i64 m.kind,.int .i64 m.mode,.int .i64 m.uid,.int .i64 m.gid,.int .i64 m.mtime,.int .i64 m.ctime,.int .i64 m.links,.int .i64 m.up,.string (bs m.data),.slice A3 m.ents.length c3] 66):=by rw[hW4,hb10];exact Has.new _ _
    have hE4:Ext w W4:=(hE2.trans b3).trans (by rw[hW4];exact (Ext.refl _).alloc _);have HM:=zH hm;clear hm ok3;go_upto_region 11 with fail;rw [←hW4];rw [←hb10];clear hW4 hb10;have k1:W4.cell? ⟨b10,1,none⟩=some (.int .i64 m.dev):=N4.cell 1;have kz:=N4.lt;obtain ⟨tb,htb⟩:∃tb:Bool,tb=decide (1<m.dev∧rootF S.devs m.dev=n):=⟨_,rfl⟩;have HTB:=zH htb;clear htb;go_cut [53] (fun v wc=>v=.bool tb∧Ext W4 wc)
    case first =>
     by_cases c3a:1<m.dev
     ·have t3:decide (1<m.dev)=true:=decide_eq_true c3a
      have hb:Hid (tb=(rootF S.devs m.dev == n)):=by show _=_;rw[HTB.out,Bool.eq_iff_iff];simp[c3a]
      clear c3a;go_wp2_with fail;refine (rroot_any B g S X m.dev _ (h.ext hE4) (by omega)).mono ?_;rintro e w5 ⟨rfl,b5⟩;go_wp2_with fail;go_meet;exact ⟨by rw[hb.out],b5⟩
     ·have t3:decide (1<m.dev)=false:=decide_eq_false c3a
      have hb:Hid (tb=false):=by show _=_;rw[HTB.out];simp[c3a]
      clear c3a;go_wp2_with fail;go_meet;exact ⟨by rw[hb.out],Ext.refl _⟩
    case rest =>
    obtain ⟨rfl,E5⟩:=hcut;obtain ⟨W5,hW5⟩:∃W5,W5=wc:=⟨_,rfl⟩;rw [←hW5]at E5⊢;have hE5:=hE4.trans E5;have N5:=N4.ext E5;clear hW5 k1 kz;obtain ⟨ch,hch2⟩:∃ch,ch=childF S n:=⟨_,rfl⟩;have HCH:=zH hch2;clear hch2;go_upto_if 53 with fail;go_cut [9] (fun v wc=>v=.int .i64 ch∧Ext W5 wc)
    case first =>
     cases tb
     ·have hv:Hid (ch=n):=by
       show _=_;have h1:=HTB.out;rw [HCH.out,hch.out,if_neg];intro h2;rw [decide_eq_true ⟨h2.2,h2.1⟩]at h1;cases h1
      go_wp2_with fail;go_meet;exact ⟨by rw[hv.out],Ext.refl _⟩
     ·have h1:=HTB.out
      have h2:1<m.dev∧rootF S.devs m.dev=n:=of_decide_eq_true h1.symm;have hv:Hid (ch=(devN S.devs m.dev).over):=by
       show _=_;rw [HCH.out,hch.out,if_pos ⟨h2.2,h2.1⟩]
      obtain ⟨q,hq,e1,e3⟩:∃q:Nat,∃hq:q<S.devs.length,m.dev=q+1∧devN S.devs m.dev=S.devs[q]:=by
       rcases rootF_zero hr m.dev with⟨r1,r2⟩|⟨q,hq,e1,_,e3,_,_,_⟩
       ·exfalso
        have hn0:n=0:=by rw[←h2.2];exact r1
        have:getN S.nodes n=nodeZ:=(isN_false (hu.zero (.inl (by omega)))).1;rw [HM.out,this]at h2;have:=h2.1;simp [nodeZ]at this
       ·exact⟨q,hq,e1,e3⟩
      obtain ⟨_,cn5,cd5,hF5,_,hD5⟩:=id (h.ext hE5);obtain ⟨_,d1,_,_,_,_⟩:=RowD.at_ hD5 q hq;rw [e3]at hv;obtain ⟨ov,hov⟩:∃ov,ov=S.devs[q].over:=⟨_,rfl⟩;rw [←hov]at d1 hv;have p1:W5.cell? ⟨g.bF,1,none⟩=some (.slice (some ⟨g.bE,0,none⟩) S.devs.length cd5):=hF5.cell 1;have pz:=hF5.lt;have p2:W5.cell? ⟨b10,1,none⟩=some (.int .i64 m.dev):=N5.cell 1;have pz2:=N5.lt;have pz3:=(h.ext hE5).lt.2.2;have y0:(0:Int)≤m.dev-1:=by rw[e1];omega
      have y1:m.dev-1<(S.devs.length:Int):=by rw[e1];omega
      have y2:(m.dev-1).toNat=q:=by rw[e1];omega
      have y3:IntKind.i64.wrap (m.dev-1)=m.dev-1:=wrap_i64_in (by omega) (by omega);have y4:1≤m.dev:=by omega
      have y5:m.dev.toNat-1=q:=by omega
      clear h1 h2 e1 e3 hov hF5 hD5;go_upto_region 12 with fail;go_quiet (fail);go_wp2_with fail;go_meet;exact ⟨by rw[hv.out],(Ext.refl _).drewN nq⟩
    case rest =>
    obtain ⟨rfl,E6⟩:=hcut;have hE6:=hE5.trans E6;clear hch N5 N4;go_wp2_with fail;refine (rget_any B g S X u _ (h.ext hE6) (by omega) hu).mono ?_;rintro e w7 ⟨A7,c7,rfl,ok7,b7⟩;have hE7:=hE6.trans b7;obtain ⟨mu,hmu⟩:∃mu,mu=getN S.nodes u:=⟨_,rfl⟩;rw [←hmu]at ok7⊢;have hnm:Hid (nmF S n=(nameOf mu.ents ch).map (·.1)):=by show _=_;unfold nmF;rw[←HU.out,←hmu,←HCH.out]
    have hmun:(∀x∈mu.ents,x.1≠[]∧x.1.length≤255)∧mu.ents.length≤1000000:=by
     cases hi:isN S.nodes u
     ·rw[hmu,(isN_false hi).1];exact⟨fun x hx=>by simp[nodeZ]at hx,by simp[nodeZ]⟩
     ·rw[hmu];exact⟨hn _ (isN_true hi).2.2,hel _ (isN_true hi).2.2⟩
    have HMN:=zH hmun;obtain ⟨E,hEE⟩:∃E,E=mu.ents.length:=⟨_,rfl⟩;have hE1M:E≤1000000:=by rw[hEE];exact hmun.2
    rw [←hEE];have HEL:=zH hEE;have hat:EntsAt w7 A7 mu.ents:=ok7.ents.ents;have hf11:=fun a0 a1 a2 a3 a4 a5 a6 a7 a8 a9 a10 a11 w=>(field_node a0 a1 a2 a3 a4 a5 a6 a7 a8 a9 a10 a11 w).1
    clear hmu hmun hEE ok7;go_wp2_with fail;clear hf11;go_loopw [12,13] (fun v12 v13 wq=>∃(j:Nat) (nm:List UInt8),v13=.int .i64 ((j:Int)-1)∧j≤E∧v12=.string (bs nm)∧Hid (nm=((nameOf (mu.ents.drop j) ch).map (·.1)).getD [])∧Ext w7 wq) (fun _ v13 _=>(intOf v13+1).toNat)
    case atStart=>exact⟨E,[],by first|rfl|(congr 1),Nat.le_refl _,rfl,by show _=_;rw[HEL.out,List.drop_length];rfl,Ext.refl _⟩
    case round =>
     obtain ⟨j,nm,rfl,hj,rfl,hnmj,hq7⟩:=hrel
     by_cases hj0:j=0
     ·subst hj0
      have hnv:Hid (nm=((nmF S n).getD [])):=by
       show _=_;rw [hnmj.out,List.drop_zero,hnm.out]
      have hE8:=hE7.trans hq7
      cases hx:nmF S n with
      | none =>
       have hnil:Hid (nm=[]):=by show _=_;rw[hnv.out,hx];rfl
       have hv:Hid (res=none):=by show _=_;rw[←hw2.out,hx];rfl
       have e1:((bs nm).toList == ([]:List UInt8))=true:=by rw[bs_toList,hnil.out];rfl
       clear hx;go_wp2_with fail;go_ret2;exact WhR.no hv.out hE8
      | some x =>
       have hnx:Hid (nm=x):=by show _=_;rw[hnv.out,hx];rfl
       have hw3:Hid ((whL S f u).map (fun l=>pathT ((acc++[x])++l))=res):=by
        show _=_;rw [←hw2.out,hx,←HU.out];simp only[Option.map_map]
        congr 1
        funext l
        simp
       have hxo:x≠[]∧x.length≤255:=by
        have:=hnm.out;rw [hx]at this;obtain ⟨y,hy,hyx⟩:=Option.map_eq_some_iff.1 this.symm;rw [←hyx];exact HMN.out.1 y (nameOf_mem hy)
       have e1:((bs nm).toList == ([]:List UInt8))=false:=by
        rw [bs_toList,hnx.out];simpa using hxo.1
       have hlx:=hxo.2;have hnl:nm.length≤255:=by rw[hnx.out];exact hlx
       have hs1:((⟨#[47]⟩:ByteArray)++bs nm)=bs (47::nm):=bs_append [47] nm;have hs2:(bs (47::nm)++bs (pathB acc))=bs (47::nm++pathB acc):=bs_append _ _;have hsn:((bs nm).size:Int)=nm.length:=by rw[bs_size]
       have hsn2:(bs nm).size=nm.length:=bs_size nm;have hsp:(bs (pathB acc)).size=(pathB acc).length:=bs_size _;have hs47:(bs (47::nm)).size=nm.length+1:=by rw[bs_size];rfl
       have HX:=zH hx;have hac2:Hid (∀y∈acc++[x],y.length≤255):=by
        show ∀y∈acc++[x],y.length≤255;intro y hy;rcases List.mem_append.1 hy with hy|hy
        ·exact hac.out y hy
        ·rw[List.mem_singleton.1 hy];exact hlx
       have hpl2:(pathB acc).length≤100001*256:=by omega
       clear hx hxo hlx hpl;go_wp2_with fail;go_roundw
       case rel=>exact⟨u,k+1,acc++[x],rfl,by rw[pathB_snoc,hnx.out];rfl,by go_num,by omega,by simp;omega,hac2,by show _=_;rw[←HF2.out];exact hw3.out,hE8⟩
       case measure=>simp[intOf];omega
     ·obtain ⟨i,rfl⟩:∃i,j=i+1:=⟨j-1,by omega⟩
      have hil:i<mu.ents.length:=by have:=HEL.out;omega
      obtain ⟨bE,oE,rfl,hbE,ca,cb⟩:=hat.at_ hq7 i hil;have hdrop:=nameOf_drop hil ch;obtain ⟨y,hy⟩:∃y,y=mu.ents[i]:=⟨_,rfl⟩;rw [←hy]at ca cb hdrop;have HDR:=zH hdrop;have q1:(((i+1:Nat):Int)-1)=i:=by omega
      rw [q1];have hcm:Hid (∀f:Nat,True):=fun _=>trivial
      clear hy hdrop hj0
      by_cases he:y.2=ch
      ·have t9:(y.2 == ch)=true:=by simpa using he
       have hn2:Hid (y.1=((nameOf (mu.ents.drop i) ch).map (·.1)).getD []):=by show _=_;rw[HDR.out,if_pos t9];rfl
       clear he;go_wp2_with fail;go_roundw
       case rel=>exact⟨i,y.1,by go_num,by omega,rfl,hn2,hq7⟩
       case measure=>simp[intOf]
      ·have t9:(y.2 == ch)=false:=by simpa using he
       have hn2:Hid (nm=((nameOf (mu.ents.drop i) ch).map (·.1)).getD []):=by show _=_;rw[HDR.out,if_neg (by rw[t9];decide)];exact hnmj.out
       clear he;go_wp2_with fail;go_roundw
       case rel=>exact⟨i,nm,by go_num,by omega,rfl,hn2,hq7⟩
       case measure=>simp[intOf]
  ·have tk:decide ((k:Int)≤L)=false:=decide_eq_false hkl
   have hv:Hid (res=none):=by
    show _=_;rw [←hw.out,show L+1-k=0 by omega];rfl
   go_wp2_with fail;go_ret2;exact WhR.no hv.out hE
theorem infoByte:(Tryz.prog.info? 5).map (fun i=>(i.zero,i.size,i.bytes))=some (some (.int .u8 0),1,1):=by kernel_rfl
theorem infoBld:(Tryz.prog.info? 229).map (·.size)=some 2:=by kernel_rfl
theorem liesBld:liesAt Tryz.prog Tryz.prog.depth 229 1 0 229 1=true:=by kernel_rfl
theorem bld_used (b:Nat) (w:World) (h0:w.cell? ⟨b,0,none⟩=some (.pointer (some ⟨b,0,none⟩))) :
  Calls Tryz.prog 198 #[.pointer (some ⟨b,0,none⟩)] w fun e w'=>e=.returned (.tuple #[])∧w'=w:=by
 obtain ⟨j,hj,_⟩:=Option.map_eq_some_iff.1 infoBld;go_enter Tryz.func198,Tryz.ntmps198;go_wp2_with fail;rw [Lib.run_neq_ptr_same w _ Tryz.underlying226 hj];go_wp2_with fail;go_end0;exact ⟨rfl,rfl⟩
theorem bld_fresh (b:Nat) (w:World) (h0:w.cell? ⟨b,0,none⟩=some (.pointer none)) (hsh:w.shape? b=some (229,2)) (hfz:w.frozen? ⟨b,0,none⟩=false) :
  Calls Tryz.prog 198 #[.pointer (some ⟨b,0,none⟩)] w fun e w'=>e=.returned (.tuple #[])∧w'=w.setCell ⟨b,0,none⟩ (.pointer (some ⟨b,0,none⟩)):=by
 obtain ⟨j,hj,hjs⟩:=Option.map_eq_some_iff.1 infoBld;go_enter Tryz.func198,Tryz.ntmps198;go_wp2_with fail;rw [Lib.run_to_unsafe w ⟨b,0,none⟩ Tryz.underlying226 Tryz.underlying276 hj (by rw[hjs];decide) hsh (Nat.zero_lt_succ 1)];simp only[Result.andThen];rw [Oper.upon_value];go_wp2_with fail;rw [run_callFunc_extern Tryz.func216 (by kernel_rfl) (by kernel_rfl) (by kernel_rfl) (e:=Extern.AbiNoEscape.same) (by kernel_rfl)];rw [Lib.run_noEscape];simp only[Result.andThen];rw [Oper.upon_value];go_wp2_with fail;rw [Lib.run_from_unsafe w ⟨b,0,none⟩ Tryz.underlying276 Tryz.underlying226 hj hsh liesBld];simp only[Result.andThen];rw [Oper.upon_value];go_wp2_with fail;go_end0;exact ⟨rfl,rfl⟩
theorem bld_check (B b:Nat) (bs:List Value) (w:World) (h:Lib.IsBuilder 229 5 B b bs w) :
  Calls Tryz.prog 198 #[.pointer (some ⟨b,0,none⟩)] w fun e w'=>e=.returned (.tuple #[])∧(Lib.BuilderAt 229 5 B b (.pointer (some ⟨b,0,none⟩)) bs w'∧Below B w w'):=by
 rcases h with h|h
 ·refine (bld_fresh b w h.cell0 h.shape h.frozen0).mono ?_
  rintro e w' ⟨rfl,rfl⟩;exact ⟨rfl,h.used _,(Below.refl B w).setCell (p:=⟨b,0,none⟩) h.1 _⟩
 ·refine (bld_used b w h.cell0).mono ?_
  rintro e w' ⟨rfl,rfl⟩;exact ⟨rfl,h,Below.refl B _⟩
theorem bld_string (B b:Nat) (bs:List Value) (s:ByteArray) (w:World) (h:Lib.IsBuilder 229 5 B b bs w) (hlen:bs.length+s.size≤140737488355328) (hBw:B≤w.heap.size) :
  Calls Tryz.prog 170 #[.pointer (some ⟨b,0,none⟩),.string s] w fun e w'=>e=.returned (.tuple #[.int .i64 s.size,.nilIface])∧(Lib.BuilderAt 229 5 B b (.pointer (some ⟨b,0,none⟩)) (bs++Lib.strCells s) w'∧Below B w w'):=by
 obtain ⟨i0,hi,hz0,hz1,hz2⟩:=info_parts infoByte;go_enter Tryz.func170,Tryz.ntmps170;go_wp2_with fail;refine (bld_check B b bs _ h).mono ?_;rintro e w1 ⟨rfl,h1,hb1⟩;obtain ⟨hB,v,hbk,hown,hne⟩:=h1;have c0:w1.cell? ⟨b,0,none⟩=some (.pointer (some ⟨b,0,none⟩)):=by rw[Lib.cell_of_heap hbk];rfl
 have c1:w1.cell? ⟨b,1,none⟩=some v:=by rw[Lib.cell_of_heap hbk];rfl
 go_wp2_with (at_builtin;refine Lib.wpList_append_own_string _ rfl _ _ 227 9 rfl B 5 i0 Tryz.underlying227 Tryz.underlying9 hi hz0 hz1 hz2 _ _ _ rfl hown s rfl ?c3 ?c4 ?c5 ?_)
 case c3=>unfold maxLen;omega
 case c4=>omega
 case c5=>have:=hb1.size;omega
 intro v' w2 hown' hgrow _;have hlt:b<w1.heap.size:=by
  rcases Nat.lt_or_ge b w1.heap.size with h'|h'
  ·exact h'
  ·simp[Array.getElem?_eq_none h']at hbk
 have hb2:w2.heap[b]?=some (.cells #[.pointer (some ⟨b,0,none⟩),v] 229 (0,0)):=by
  rw [hgrow.block b hlt (fun e=>hne e.symm)];exact hbk
 have d0:w2.cell? ⟨b,0,none⟩=some (.pointer (some ⟨b,0,none⟩)):=by rw[Lib.cell_of_heap hb2];rfl
 have d1:w2.cell? ⟨b,1,none⟩=some v:=by rw[Lib.cell_of_heap hb2];rfl
 have f1:w2.frozen? ⟨b,1,none⟩=false:=Lib.frozen_of_heap hb2 1;obtain ⟨ao,n',cap,rfl⟩:∃ao n' cap,v'=.slice ao n' cap:=by
  rcases hown'.2 with⟨hv,_⟩|⟨g,cap,cur,hv,_⟩
  ·exact⟨_,_,_,hv⟩
  ·exact⟨_,_,_,hv⟩
 go_wp2_with fail;go_ret2;refine ⟨rfl,?_,?_⟩
 ·exact Lib.BuilderAt.put (T:=229) (e:=5) hB hb2 (bs':=bs++Lib.strCells s) (by simpa [Lib.strCells_length]using hown') (by decide)
 ·exact (hb1.grown hgrow (by have:=hb1.size;omega) (fun k hk=>(hown.lt k hk).1)).setCell (p:=⟨b,1,none⟩) hB _
theorem Ext.grownBy {w w':World} (h:Ext w w'):w.grownBy w' none:=⟨h.os,h.tape,h.output,h.size,fun k hk _=>Below.block h k hk⟩
theorem own_keep {w w':World} {B:Nat} {e:TypeId} {size:Nat} {v:Value} {n:Nat} {xs:List Value} (h:w.ownsRow B e size v n xs) (k:Ext w w'):w'.ownsRow B e size v n xs:=
 h.kept k.grownBy (by cases v.ownBlock<;>simp)
theorem nmF_zero {S:TreeD} (hu:NosUp S.nodes S.last):nmF S 0=none:=by
 have h0:getN S.nodes 0=nodeZ:=(isN_false (hu.zero (.inl (by decide)))).1;have ha:aboveF S 0=0:=by unfold aboveF;rw[h0];rfl
 unfold nmF;rw [ha,h0];rfl
theorem wh_zero {S:TreeD} (hu:NosUp S.nodes S.last):∀f,whL S f 0=none
 | 0=>rfl
 | f+1=>by rw[wh_succ S f 0 (by decide),nmF_zero hu]
theorem wh_stay {S:TreeD} {no:Int} (h:aboveF S no=no) (h1:no≠1):∀f,whL S f no=none
 | 0=>rfl
 | f+1=>by
  rw [wh_succ S f no h1]
  cases nmF S no with
  | none=>rfl
  | some x=>show (whL S f (aboveF S no)).map _=none;rw[h,wh_stay h h1 f];rfl
theorem wh_stable {S:TreeD} {r:Int→Nat} (R:Rank S r) (hu:NosUp S.nodes S.last):∀(n:Nat) (no:Int),r no≤n→∀f g,r no<f→r no<g→whL S f no=whL S g no:=by
 intro n
 induction n with
 | zero =>
  intro no hn f g hf hg
  match f,g,hf,hg with
  | f + 1, g + 1,_,_ =>
   by_cases h1:no=1
   ·subst h1;unfold whL;rfl
   ·by_cases h0:no=0
    ·subst h0;rw[wh_zero hu,wh_zero hu]
    ·by_cases hs:aboveF S no=no
     ·rw[wh_stay hs h1,wh_stay hs h1]
     ·by_cases hz:aboveF S no=0
      ·rw [wh_succ S f no h1,wh_succ S g no h1,hz]
       cases nmF S no with
       | none=>rfl
       | some x=>show (whL S f 0).map _=(whL S g 0).map _;rw[wh_zero hu,wh_zero hu]
      ·have:=R.step no h0 hz hs;omega
 | succ n ih =>
  intro no hn f g hf hg
  match f,g,hf,hg with
  | f + 1, g + 1,hf,hg =>
   by_cases h1:no=1
   ·subst h1;unfold whL;rfl
   ·by_cases h0:no=0
    ·subst h0;rw[wh_zero hu,wh_zero hu]
    ·by_cases hs:aboveF S no=no
     ·rw[wh_stay hs h1,wh_stay hs h1]
     ·rw [wh_succ S f no h1,wh_succ S g no h1]
      cases nmF S no with
      | none=>rfl
      | some x =>
       show (whL S f (aboveF S no)).map _=(whL S g (aboveF S no)).map _
       by_cases hz:aboveF S no=0
       ·rw[hz,wh_zero hu,wh_zero hu]
       ·have:=R.step no h0 hz hs
        rw [ih _ (by omega) f g (by omega) (by omega)]
def wayF (S:TreeD) (no:Int):Option (List (List UInt8)):=whL S (S.nodes.length+1) no
theorem way_step {S:TreeD} {r:Int→Nat} (R:Rank S r) (hu:NosUp S.nodes S.last) {no:Int} (h1:no≠1) (hs:aboveF S no≠no):wayF S no=match nmF S no with|none=>none|some x=>(wayF S (aboveF S no)).map (x::·):=by
 by_cases h0:no=0
 ·subst h0
  have:aboveF S 0=0:=by
   have h0:getN S.nodes 0=nodeZ:=(isN_false (hu.zero (.inl (by decide)))).1;unfold aboveF;rw[h0];rfl
  exact absurd this hs
 ·unfold wayF
  rw [wh_succ S _ no h1]
  cases nmF S no with
  | none=>rfl
  | some x =>
   show (whL S _ (aboveF S no)).map _=(whL S _ (aboveF S no)).map _
   by_cases hz:aboveF S no=0
   ·rw[hz,wh_zero hu,wh_zero hu]
   ·have h2:=R.step no h0 hz hs
    have h3:=R.top no;rw [wh_stable R hu _ _ (Nat.le_refl _) S.nodes.length (S.nodes.length+1) (by omega) (by omega)]
theorem way_one (S:TreeD):wayF S 1=some []:=by unfold wayF whL;rfl
theorem way_stay {S:TreeD} {no:Int} (h:aboveF S no=no) (h1:no≠1):wayF S no=none:=wh_stay h h1 _
def TopOk (S:TreeD):Prop:=∀no,no≠0→rootF S.devs (getN S.nodes no).dev=no→(getN S.nodes no).dev≤1→aboveF S no=no
theorem pathB_drop {l:List (List UInt8)} {k:Nat} (hk:k<l.length):pathB (l.drop k)=pathB (l.drop (k+1))++47::l[k]:=by
 have e:∀(x:List UInt8) (t:List (List UInt8)),pathB (x::t)=pathB t++47::x:=fun x t=>by unfold pathB;simp
 rw [List.drop_eq_getElem_cons hk,e]
theorem pwhere_any (B:Nat) (g:GhW) (S:TreeD) (r:Int→Nat) (no:Int) (w:World) (h:WAt w B g S) (hl:S.nodes.length≤1000) (hd:0<S.devs.length) (hd2:S.devs.length≤8) (hr:RootsOk S.devs) (hu:NosUp S.nodes S.last) (hn:NamesOk S) (hel:∀n∈S.nodes,n.ents.length≤1000000) (R:Rank S r) (hto:TopOk S) (h11:aboveF S 1=1) :
  Calls Tryz.prog 140 #[.pointer (some ⟨g.bW,0,none⟩),.int .i64 no] w (WhR w (whereF S no)):=by
 obtain ⟨res,hres⟩:∃res,res=wayF S no:=⟨_,rfl⟩;have hwf:Hid (whereF S no=res.map pathT):=by show _=_;rw[hres];rfl
 have HRES:=zH hres;have HR:=zH R;have HTO:=zH hto;have H11:=zH h11;have htop:=fun n=>R.top n
 have HTP:=zH htop;clear hres R hto htop h11;obtain ⟨i0,hi,hz0,hz1,hz2⟩:=info_parts infoStr;go_enter Tryz.func140,Tryz.ntmps140;go_wp2_with fail;refine (pnone_any B g S _ h hd).mono ?_;rintro e w1 ⟨rfl,b1⟩;go_wp2_with fail;refine (pabove_any B g S no _ (h.ext b1) hd hd2 hr hu).mono ?_;rintro e w2 ⟨rfl,b2⟩;have E2:=b1.trans b2;go_wp2_with fail;go_loopw [1,6,7] (fun v1 v6 v7 wr=>∃(n u:Int) (acc:List (List UInt8)),v1=.int .i64 n∧v7=.int .i64 u∧Hid (u=aboveF S n)∧OwnT wr w.heap.size v6 acc∧acc.length+(if n=0 then 0 else r n+1)≤1002∧Hid (∀x∈acc,x.length≤255)∧Hid ((wayF S n).map (fun l=>acc++l)=res)∧Ext w wr) (fun v1 _ _ _=>if intOf v1=0 then 0 else r (intOf v1)+1)
 case atStart =>
  refine ⟨no,aboveF S no,[],rfl,rfl,rfl,⟨rfl,.inl ⟨rfl,rfl⟩⟩,?_,fun x hx=>by simp at hx,?_,E2⟩
  ·have:=HTP.out no
   split<;>simp<;>omega
  ·show _=_
   rw [HRES.out];cases wayF S no<;>rfl
 case round =>
  obtain ⟨n,u,acc,rfl,rfl,hu1,hown,hacl,hac,hw,hE⟩:=hrel
  by_cases hs:u=n
  ·have ts : (u == n)=true:=by simpa using hs
   have tsb:(u != n)=false:=by simpa using hs
   have hfin:Hid (res=if n=1 then some acc else none):=by
    show _=_;rw [←hw.out]
    by_cases h1:n=1
    ·rw[if_pos h1,h1,way_one];simp
    ·rw[if_neg h1,way_stay (by rw[←hu1.out];exact hs) h1];rfl
   obtain ⟨A6,cap6,rfl,hle6,hmx6,hat6,_⟩:=hown.at_;obtain ⟨m,hm⟩:∃m,m=acc.length:=⟨_,rfl⟩;have hm2:m≤1002:=by omega
   rw [←hm];have HM:=zH hm;have hpl:=pathB_len acc hac.out;clear hs hm hown hle6 hmx6;go_wp2_with fail;go_loopw [15] (fun i wq=>∃j:Nat,i=.int .i64 ((j:Int)-1)∧j≤m∧Lib.IsBuilder 229 5 wr.heap.size wr.heap.size (Lib.byteCells (pathB (acc.drop j))) wq∧Ext wr wq) (fun i _=>(intOf i+1).toNat)
   case atStart=>exact⟨m,rfl,Nat.le_refl _,by rw[HM.out,List.drop_length];exact Lib.fresh_isBuilder _ _ wr,(Ext.refl _).alloc _⟩
   case round =>
    obtain ⟨j,rfl,hj,hB,hq⟩:=hrel
    by_cases hj0:j=0
    ·subst hj0
     rw [List.drop_zero]at hB
     by_cases h1:n=1
     ·have t1:(n == 1)=true:=by simpa using h1
      have t1b:(n != 1)=false:=by simpa using h1
      have hv:Hid (res=some acc):=by show _=_;rw[hfin.out,if_pos h1]
      clear h1 hat6;go_wp2_with fail;refine (Tryz.Builder_Len _ _ _ _ hB).mono ?_;rintro e w5 ⟨rfl,rfl⟩
      by_cases ha:acc=[]
      ·have hp0:(Lib.byteCells (pathB acc)).length=0:=by rw[ha];rfl
       rw [hp0];go_wp2_with fail;go_ret2;exact WhR.yes (s:=[47]) (by rw[hwf.out,hv.out,ha];rfl) (hE.trans hq)
      ·have hp0:((((Lib.byteCells (pathB acc)).length:Nat):Int) == 0)=false:=by
        have h2:pathB acc≠[]:=fun h=>ha (pathB_nil.1 h)
        have h3:(Lib.byteCells (pathB acc)).length≠0:=by simpa [Lib.byteCells]using h2
        simpa using h3
       have hpt:Hid (pathT acc=pathB acc):=by show _=_;unfold pathT;rw[if_neg ha]
       generalize (((Lib.byteCells (pathB acc)).length:Nat):Int)=bl at hp0
       clear ha;go_wp2_with fail;refine (Tryz.Builder_String_any _ _ _ _ hB hq.size).mono ?_;rintro e w6 ⟨rfl,b6⟩;go_wp2_with fail;go_ret2;exact WhR.yes (by rw[hwf.out,hv.out,←hpt.out];rfl) (hE.trans (Below.trans hq b6))
     ·have t1:(n == 1)=false:=by simpa using h1
      have t1b:(n != 1)=true:=by simpa using h1
      have hv:Hid (res=none):=by show _=_;rw[hfin.out,if_neg h1]
      clear h1;go_wp2_with fail;go_ret2;exact WhR.no (by rw[hwf.out,hv.out];rfl) (hE.trans hq)
    ·obtain ⟨i,rfl⟩:∃i,j=i+1:=⟨j-1,by omega⟩
     have hil:i<acc.length:=by have:=HM.out;omega
     obtain ⟨bE,oE,rfl,hbE,ca⟩:=hat6.at_ hq i hil;have hdrop:=pathB_drop hil;have hxl:=hac.out _ (List.getElem_mem hil);obtain ⟨y,hy⟩:∃y,y=acc[i]:=⟨_,rfl⟩;rw [←hy]at ca hdrop hxl;have HDR:=zH hdrop;have q1:(((i+1:Nat):Int)-1)=i:=by omega
     rw [q1];have hs1:((⟨#[47]⟩:ByteArray)++bs y)=bs (47::y):=bs_append [47] y;have hsy:(bs y).size=y.length:=bs_size y;have hdl:(pathB (acc.drop (i+1))).length≤1002*256:=by
      have:=pathB_len (acc.drop (i+1)) (fun x hx=>hac.out x (List.mem_of_mem_drop hx));rw [List.length_drop]at this;have:=HM.out;omega
     clear hy hdrop hj0;go_wp2_with fail;refine (bld_string _ _ _ _ _ hB (by rw[bs_size];simp[Lib.byteCells];omega) hq.size).mono ?_;rintro e w5 ⟨rfl,h5,b5⟩;have H5:=zH h5;clear h5;go_wp2_with fail;go_roundw
     case rel=>exact⟨i,by go_num,by omega,.inr (by rw[HDR.out];have:=H5.out;simpa [Lib.byteCells,Lib.strCells,bs]using this),Below.trans hq b5⟩
     case measure=>simp[intOf]
  ·have ts : (u == n)=false:=by simpa using hs
   have tsb:(u != n)=true:=by simpa using hs
   have hn1:n≠1∨u≠n:=.inr hs;have hst:aboveF S n≠n:=by rw[←hu1.out];exact hs
   have HST:=zH hst;clear hs hn1 hst;obtain ⟨_,_,cdr,hWr,_⟩:=id (h.ext hE);have v0:wr.cell? ⟨g.bW,0,none⟩=some (.pointer (some ⟨g.bT,0,none⟩)):=hWr.cell 0;have vz:=hWr.lt;clear hWr;go_wp2_with fail;refine (tget_any B g.bT g.bM S.nodes S.last n _ (h.ext hE).2.1).mono ?_;rintro e w3 ⟨A3,c3,rfl,ok3,b3⟩;obtain ⟨m,hm⟩:∃m,m=getN S.nodes n:=⟨_,rfl⟩;obtain ⟨im,him⟩:∃im,im=isN S.nodes n:=⟨_,rfl⟩;rw [←hm]at ok3;rw [←hm,←him];obtain ⟨W4,hW4⟩:∃W4,W4=w3.alloc (.cells #[.int .i64 m.no,.int .i64 m.dev,.int .i64 m.kind,.int .i64 m.mode,.int .i64 m.uid,.int .i64 m.gid,.int .i64 m.mtime,.int .i64 m.ctime,.int .i64 m.links,.int .i64 m.up,.string (bs m.data),.slice A3 m.ents.length c3] 66):=⟨_,rfl⟩;obtain ⟨b8,hb8⟩:∃b,b=w3.heap.size:=⟨_,rfl⟩;have N4:Has W4 b8 (.cells #[.int .i64 m.no,.int .i64 m.dev,.int .i64 m.kind,.int .i64 m.mode,.int .i64 m.uid,.int .i64 m.gid,.int .i64 m.mtime,.int .i64 m.ctime,.int .i64 m.links,.int .i64 m.up,.string (bs m.data),.slice A3 m.ents.length c3] 66):=by rw[hW4,hb8];exact Has.new _ _
   have E34:Ext wr W4:=b3.trans (by rw[hW4];exact (Ext.refl _).alloc _);have hE4:Ext w W4:=hE.trans E34;have HM:=zH hm;clear hm him ok3 v0 vz;go_upto_region 8 with fail;rw [←hW4];rw [←hb8];clear hW4 hb8;have k1:W4.cell? ⟨b8,1,none⟩=some (.int .i64 m.dev):=N4.cell 1;have kz:=N4.lt;go_wp2_with fail;refine (proot_any B g S m.dev _ (h.ext hE4) hd (by omega)).mono ?_;rintro e w5 ⟨rfl,b5⟩;have hE5:=hE4.trans b5;have N5:=N4.ext b5;clear k1 kz;obtain ⟨ch,hch⟩:∃ch,ch=childF S n:=⟨_,rfl⟩;have HCH:=zH hch;clear hch;go_upto_if 41 with fail;go_cut [1] (fun v wc=>v=.int .i64 ch∧Ext w5 wc)
   case first =>
    by_cases hrt:rootF S.devs m.dev=n
    ·have tr:(rootF S.devs m.dev == n)=true:=by simpa using hrt
     have hfacts:n≠0∧1<m.dev:=by
      have hn0:n≠0:=by
       intro h0;have h00:getN S.nodes n=nodeZ:=by rw[h0];exact (isN_false (hu.zero (.inl (by decide)))).1
       have:aboveF S n=n:=by unfold aboveF;rw[h00,h0];rfl
       exact HST.out this
      refine ⟨hn0,?_⟩
      by_cases h':1<m.dev
      ·exact h'
      ·exact absurd (HTO.out n hn0 (by rw[←HM.out];exact hrt) (by rw[←HM.out];exact Int.not_lt.1 h')) HST.out
     have hv:Hid (ch=(devN S.devs m.dev).over):=by
      show _=_;rw [HCH.out];unfold childF;rw[←HM.out,if_pos ⟨hrt,hfacts.2⟩]
     obtain ⟨q,hq,e1,e3⟩:∃q:Nat,∃hq:q<S.devs.length,m.dev=q+1∧devN S.devs m.dev=S.devs[q]:=by
      rcases rootF_zero hr m.dev with⟨r1,r2⟩|⟨q,hq,e1,_,e3,_,_,_⟩
      ·exact absurd (by rw[←hrt];exact r1) hfacts.1
      ·exact⟨q,hq,e1,e3⟩
     obtain ⟨_,_,cd5,hW5,hD5⟩:=id (h.ext hE5);obtain ⟨_,d1,_,_,_,_⟩:=RowD.at_ hD5 q hq;rw [e3]at hv;obtain ⟨ov,hov⟩:∃ov,ov=S.devs[q].over:=⟨_,rfl⟩;rw [←hov]at d1 hv;have p1:w5.cell? ⟨g.bW,1,none⟩=some (.slice (some ⟨g.bD,0,none⟩) S.devs.length cd5):=hW5.cell 1;have pz:=hW5.lt;have p2:w5.cell? ⟨b8,1,none⟩=some (.int .i64 m.dev):=N5.cell 1;have pz2:=N5.lt;have pz3:=(h.ext hE5).lt.2.2.2;have y0:(0:Int)≤m.dev-1:=by rw[e1];omega
     have y1:m.dev-1<(S.devs.length:Int):=by rw[e1];omega
     have y2:(m.dev-1).toNat=q:=by rw[e1];omega
     have y3:IntKind.i64.wrap (m.dev-1)=m.dev-1:=wrap_i64_in (by omega) (by omega);have y4:1≤m.dev:=by omega
     have y5:m.dev.toNat-1=q:=by omega
     clear hfacts e1 e3 hov hW5 hD5 hrt;go_upto_region 9 with fail;go_quiet (fail);go_wp2_with fail;go_meet;exact ⟨by rw[hv.out],(Ext.refl _).drewN nq⟩
    ·have tr:(rootF S.devs m.dev == n)=false:=by simpa using hrt
     have hv:Hid (ch=n):=by
      show _=_;rw [HCH.out];unfold childF;rw[←HM.out,if_neg (fun h2=>hrt h2.1)]
     clear hrt;go_wp2_with fail;go_meet;exact ⟨by rw[hv.out],Ext.refl _⟩
   case rest =>
   obtain ⟨rfl,E6⟩:=hcut;obtain ⟨W6,hW6⟩:∃W6,W6=wc:=⟨_,rfl⟩;rw [←hW6]at E6⊢;have hE6:=hE5.trans E6;clear hW6 N5 N4;obtain ⟨_,_,cd6,hW6,_⟩:=id (h.ext hE6);have v0:W6.cell? ⟨g.bW,0,none⟩=some (.pointer (some ⟨g.bT,0,none⟩)):=hW6.cell 0;have vz:=hW6.lt;clear hW6;go_wp2_with fail;refine (tget_any B g.bT g.bM S.nodes S.last u _ (h.ext hE6).2.1).mono ?_;rintro e w7 ⟨A7,c7,rfl,ok7,b7⟩;obtain ⟨mu,hmu⟩:∃mu,mu=getN S.nodes u:=⟨_,rfl⟩;obtain ⟨iu,hiu⟩:∃iu,iu=isN S.nodes u:=⟨_,rfl⟩;rw [←hmu]at ok7;rw [←hmu,←hiu];have hmun:(∀x∈mu.ents,x.1≠[]∧x.1.length≤255)∧mu.ents.length≤1000000∧(iu=false→mu.ents=[]):=by
    cases hi:isN S.nodes u
    ·rw[hmu,(isN_false hi).1];exact⟨fun x hx=>by simp[nodeZ]at hx,by simp[nodeZ],fun _=>rfl⟩
    ·rw[hmu];exact⟨hn _ (isN_true hi).2.2,hel _ (isN_true hi).2.2,fun h=>by rw[hiu,hi]at h;cases h⟩
   have hnm:Hid (nmF S n=(nameOf mu.ents ch).map (·.1)):=by show _=_;unfold nmF;rw[←hu1.out,←hmu,←HCH.out]
   obtain ⟨W8,hW8⟩:∃W8,W8=w7.alloc (.cells #[.int .i64 mu.no,.int .i64 mu.dev,.int .i64 mu.kind,.int .i64 mu.mode,.int .i64 mu.uid,.int .i64 mu.gid,.int .i64 mu.mtime,.int .i64 mu.ctime,.int .i64 mu.links,.int .i64 mu.up,.string (bs mu.data),.slice A7 mu.ents.length c7] 66):=⟨_,rfl⟩;obtain ⟨b10,hb10⟩:∃b,b=w7.heap.size:=⟨_,rfl⟩;have N8:Has W8 b10 (.cells #[.int .i64 mu.no,.int .i64 mu.dev,.int .i64 mu.kind,.int .i64 mu.mode,.int .i64 mu.uid,.int .i64 mu.gid,.int .i64 mu.mtime,.int .i64 mu.ctime,.int .i64 mu.links,.int .i64 mu.up,.string (bs mu.data),.slice A7 mu.ents.length c7] 66):=by rw[hW8,hb10];exact Has.new _ _
   have E78:Ext w7 W8:=by rw[hW8];exact (Ext.refl _).alloc _
   have hE8:Ext w W8:=(hE6.trans b7).trans E78;have ok8:=ok7.ext E78;have HMN:=zH hmun;clear hmu hiu hmun v0 vz ok7;go_upto_region 11 with fail;rw [←hW8];rw [←hb10];clear hW8 hb10;have k11:W8.cell? ⟨b10,11,none⟩=some (.slice A7 mu.ents.length c7):=N8.cell 11;have kz:=N8.lt;go_wp2_with fail;refine (name_any A7 mu.ents c7 ch _ ok8.ents.ents HMN.out.2.1).mono ?_;rintro e w9 ⟨he,b9⟩;have hE9:=hE8.trans b9;have hown9:=own_keep hown ((((E34.trans b5).trans E6).trans b7).trans (E78.trans b9));clear k11 kz
   cases hx:nameOf mu.ents ch with
   | none =>
    rw [hx]at he;subst he;have hv:Hid (whereF S no=none):=by
     show _=_;rw [hwf.out,←hw.out]
     by_cases h1:n=1
     ·exact absurd (by rw[h1];exact H11.out) HST.out
     ·rw[way_step HR.out hu h1 HST.out,hnm.out,hx];rfl
    clear hx
    cases iu
    all_goals
     go_wp2_with fail;go_ret2;exact WhR.no hv.out hE9
   | some x =>
    rw [hx]at he;have hiu:iu=true:=by
     cases iu
     ·have:=HMN.out.2.2 rfl
      rw [this]at hx;cases hx
     ·rfl
    subst hiu;subst he;have hxo:=HMN.out.1 x (nameOf_mem hx);have hw3:Hid ((wayF S u).map (fun l=>(acc++[x.1])++l)=res):=by
     show _=_;rw [←hw.out]
     by_cases h1:n=1
     ·exact absurd (by rw[h1];exact H11.out) HST.out
     ·rw [way_step HR.out hu h1 HST.out,hnm.out,hx,←hu1.out]
      simp only[Option.map_some,Option.map_map]
      congr 1
      funext l
      simp
    have hac2:Hid (∀y∈acc++[x.1],y.length≤255):=by
     show ∀y∈acc++[x.1],y.length≤255;intro y hy;rcases List.mem_append.1 hy with hy|hy
     ·exact hac.out y hy
     ·rw[List.mem_singleton.1 hy];exact hxo.2
    have hms:Hid ((if u=0 then 0 else r u+1)<(if n=0 then 0 else r n+1)):=by
     show (if u=0 then 0 else r u+1)<(if n=0 then 0 else r n+1);have hn0:n≠0:=by
      intro h0;have h00:getN S.nodes n=nodeZ:=by rw[h0];exact (isN_false (hu.zero (.inl (by decide)))).1
      have:aboveF S n=n:=by unfold aboveF;rw[h00,h0];rfl
      exact HST.out this
     rw [if_neg hn0];split
     ·omega
     ·rename_i h
      have:=HR.out.step n hn0 (by rw[←hu1.out];exact h) HST.out;rw [←hu1.out]at this;omega
    have hal:acc.length≤1002:=by omega
    have hgt:acc.length+1+(if u=0 then 0 else r u+1)≤1002:=by have:=hms.out;omega
    have HGT:=zH hgt;have HX:=zH hx;clear hx hxo hgt hacl;unfold OwnT at hown;go_wp2_with (at_builtin;refine wpList_append_own _ rfl _ _ 135 rfl w.heap.size 9 i0 (.string ⟨#[]⟩) 1 16 Tryz.underlying135 hi hz0 hz1 hz2 rfl (by decide) _ _ _ rfl (hown9.alloc _) ⟨w9.heap.size,0,none⟩ 1 1 (txtCells [x.1]) rfl rfl (txt_news w9 x.1) (txtCells_one [x.1]) (by unfold maxLen;omega) (by omega) (by have:=hE9.size;simp;omega) ?_);intro v' w10 hown10 hgrow _;obtain ⟨ho10,hE10⟩:=txt_app hown9 hE9 hown10 hgrow;clear hown10 hgrow hown hown9;have HO10:=zH ho10;clear ho10;go_wp2_with fail;refine (pabove_any B g S u _ (h.ext hE10) hd hd2 hr hu).mono ?_;rintro e w11 ⟨rfl,b11⟩;go_wp2_with fail;go_roundw
    case rel=>exact⟨u,aboveF S u,acc++[x.1],rfl,rfl,rfl,own_keep HO10.out b11,by rw[List.length_append];exact HGT.out,hac2,hw3,hE10.trans b11⟩
    case measure=>exact hms.out
attribute [local irreducible] wpQuiet
structure Base (S:TreeD):Prop where
 nos:NosUp S.nodes S.last
 last:1≤S.last
 devs:0<S.devs.length
 eight:S.devs.length≤8
 roots:RootsOk S.devs
 count:S.nodes.length≤S.last
 ents:∀n∈S.nodes,n.ents.length≤1000000
structure Fit (S:TreeD):Prop where
 good:Base S
 names:NamesOk S
 top:TopOk S
 one:aboveF S 1=1
 rank:∃r,Rank S r
 short:S.last≤1000
theorem Fit.len {S:TreeD} (h:Fit S):S.nodes.length≤1000:=by have:=h.good.count;have:=h.short;omega
theorem Fit.ents {S:TreeD} (h:Fit S):∀n∈S.nodes,n.ents.length≤1000000:=h.good.ents
theorem WhR.val (o:Option (List UInt8)):∃X b,∀w e w',WhR w o e w'→e=.returned (.tuple #[.string X,.bool b])∧Ext w w':=by
 cases o with
 | none=>exact⟨_,_,fun w e w' h=>h⟩
 | some s=>exact⟨_,_,fun w e w' h=>h⟩
theorem same14_any (B B':Nat) (g:GhW) (f:GhF) (S:TreeD) (X:Xtra) (w:World) (K:WAt w B g S) (F:FAt w B' f S X) (H:Fit S) :
  Calls Tryz.prog 94 #[.pointer (some ⟨g.bW,0,none⟩),.pointer (some ⟨f.bF,0,none⟩)] w (Ret w (.bool true)):=by
 have HF:=zH H;have hd:=H.good.devs;have hd2:=H.good.eight;have hr:=H.good.roots;have hu:=H.good.nos;have hl:=H.len;have hl1:=H.good.last;have hl2:=H.short;clear H;have KD:Hid (∀u:Gr w,Calls Tryz.prog 137 #[.pointer (some ⟨g.bW,0,none⟩)] u.w (Ret u.w (.int .i64 S.devs.length))):=by
  show ∀u:Gr w,_;exact fun u=>pdevs_any B g S _ (K.ext u.h) hd
 have KL:Hid (∀u:Gr w,Calls Tryz.prog 49 #[.pointer (some ⟨g.bT,0,none⟩)] u.w (Ret u.w (.int .i64 S.nodes.length))):=by
  show ∀u:Gr w,_;exact fun u=>tlen_any B g.bT g.bM S.nodes S.last _ (K.ext u.h).2.1
 obtain ⟨_,_,cd,kW,_⟩:=id K;obtain ⟨_,cn,ce,kF,_,_⟩:=id F;have y0:=Gr.cell kW.lt (kW.cell 0);have y1:=Gr.cell kF.lt (kF.cell 0);have y2:=Gr.cell kF.lt (kF.cell 1);clear kW kF;go_enter Tryz.func94,Tryz.ntmps94;go_upto_region 1 with fail;refine wp_region_grow w (by kernel_rfl) (by kernel_rfl) (Ext.refl _).drew ?_
 repeat (quiet_step (first
  | ((with_reducible refine (KD.out _).mono ?_);rintro e w'' ⟨rfl,hEx⟩;exact⟨rfl,⟨w'',Ext.trans (Gr.h _) hEx⟩,rfl⟩)
  | ((with_reducible refine (KL.out _).mono ?_);rintro e w'' ⟨rfl,hEx⟩;exact⟨rfl,⟨w'',Ext.trans (Gr.h _) hEx⟩,rfl⟩)))
 refine wpQuiet_nil ?_;rintro w1 ⟨⟨w1',E1⟩,h1⟩;dsimp only at h1;subst h1;clear y0 y1 y2 KD KL;obtain ⟨D,hD⟩:∃D,D=S.devs.length:=⟨_,rfl⟩;have HD:=zH hD;have hD1:0<D:=by omega
 have hD8:D≤8:=by omega
 clear hD;go_wp2_with fail;go_loopw [5] (fun v5 wr=>∃d:Nat,v5=.int .i64 d∧d≤D+2∧Ext w wr) (fun v _=>D+2-(intOf v).toNat)
 case atStart=>exact⟨0,rfl,by omega,E1⟩
 case round =>
  obtain ⟨d,rfl,hdd,hE⟩:=hrel;have Kr:=K.ext hE;have Fr:=F.ext hE;obtain ⟨_,cnr,cer,kF,_,kD⟩:=id Fr;have c1:wr.cell? ⟨f.bF,1,none⟩=some (.slice (some ⟨f.bE,0,none⟩) D cer):=by rw[HD.out];exact kF.cell 1
  have zF:=kF.lt
  by_cases hin:d≤D+1
  ·have tin:decide ((d:Int)≤(D:Int)+1)=true:=decide_eq_true (by omega)
   obtain ⟨W6,hW6⟩:∃W6,W6=wr.alloc (.cells #[.int .i64 0,.int .i64 0,.int .i64 0,.int .i64 0] 189):=⟨_,rfl⟩;obtain ⟨b6,hb6⟩:∃b,b=wr.heap.size:=⟨_,rfl⟩;have N6:Has W6 b6 (.cells #[.int .i64 spaceZ.blocks,.int .i64 spaceZ.nodes,.int .i64 spaceZ.mostB,.int .i64 spaceZ.mostN] 189):=by rw[hW6,hb6];exact Has.new _ _
   have E6:Ext wr W6:=by rw[hW6];exact (Ext.refl _).alloc _
   have hb6':wr.heap.size≤b6:=by omega
   clear kF kD;go_upto_region 7 with fail;rw [←hW6];rw [←hb6];have Hb6:=zH hb6';clear hW6 hb6 hb6';go_wp2_with fail;refine (rroot_any B' f S X d _ (Fr.ext E6) (by omega)).mono ?_;rintro e w7 ⟨rfl,b7⟩;have N7:=N6.ext b7;have E7:=E6.trans b7;obtain ⟨_,_,ce7,kF7,_,kD7⟩:=id (Fr.ext E7);have c7:w7.cell? ⟨f.bF,1,none⟩=some (.slice (some ⟨f.bE,0,none⟩) D ce7):=by rw[HD.out];exact kF7.cell 1
   have z7:=kF7.lt;have z7E:=(Fr.ext E7).lt.2.2;clear kF7;obtain ⟨q,hq⟩:∃q,q=useF S.devs d:=⟨_,rfl⟩;have HQ:=zH hq;clear hq;go_upto_if 49 with fail;go_cut [6] (fun v wc=>v=.pointer (some ⟨b6,0,none⟩)∧Has wc b6 (.cells #[.int .i64 q.blocks,.int .i64 q.nodes,.int .i64 q.mostB,.int .i64 q.mostN] 189)∧Ext wr wc)
   case first =>
    rcases rootF_zero hr d with⟨e1,e2⟩|⟨k,hk,e1,e2,e3,e4,e5,e6⟩
    ·have hv:q=spaceZ:=by rw[HQ.out];unfold useF;rw[e2];rfl
     have t1:(rootF S.devs d != 0)=false:=by simpa using e1
     have t1b:(rootF S.devs d == 0)=true:=by simpa using e1
     clear e1 e2 kD7;go_wp2_with fail;go_meet;exact ⟨rfl,by rw[hv];exact N7,E7⟩
    ·have hv:q=S.devs[k].q:=by rw[HQ.out];unfold useF;rw[e2,e3];rfl
     have t1:(rootF S.devs d != 0)=true:=by rw[e4];simpa using (by omega:S.devs[k].root≠0)
     have t1b:(rootF S.devs d == 0)=false:=by rw[e4];simpa using (by omega:S.devs[k].root≠0)
     obtain ⟨d0,d1,d2,d3,d4,d5⟩:=RowD.at_ kD7 k hk;rw [←hv]at d2 d3 d4 d5;have hkD:k<D:=by have:=HD.out;omega
     have e1':(d:Int)-1=k:=by omega
     have y0:(0:Int)≤(k:Int):=Int.natCast_nonneg _;have y1:(k:Int)<(D:Int):=by omega
     have y2:((d:Int)-1).toNat=k:=by omega
     have y3:IntKind.i64.wrap ((d:Int)-1)=k:=by rw[e1'];exact wrap_i64_in (by omega) (by omega)
     clear e1 e2 e3 e4 e5 e6 hv kD7 hkD d0 d1 hk;go_wp2_with (refine wpList_store_space rfl _ _ rfl b6 q rfl rfl N7 ?_;intro w8 N8 O8);go_meet;exact ⟨rfl,N8,O8.after E7 (by intro x hx;rw[List.mem_singleton]at hx;have:=Hb6.out;omega)⟩
   case rest =>
   obtain ⟨rfl,N8,E8⟩:=hcut;obtain ⟨W8,hW8⟩:∃W8,W8=wc:=⟨_,rfl⟩;rw [←hW8]at N8 E8⊢;have KR:Hid (∀u:Gr W8,Calls Tryz.prog 138 #[.pointer (some ⟨g.bW,0,none⟩),.int .i64 d] u.w (Ret u.w (.int .i64 (rootF S.devs d)))):=by
    show ∀u:Gr W8,_;exact fun u=>proot_any B g S d _ ((Kr.ext E8).ext u.h) hd (by omega)
   have KQ:Hid (∀u:Gr W8,Calls Tryz.prog 133 #[.pointer (some ⟨f.bF,0,none⟩),.int .i64 d] u.w (Ret u.w (.int .i64 (rootF S.devs d)))):=by
    show ∀u:Gr W8,_;exact fun u=>rroot_any B' f S X d _ ((Fr.ext E8).ext u.h) (by omega)
   have KU:Hid (∀u:Gr W8,Calls Tryz.prog 139 #[.pointer (some ⟨g.bW,0,none⟩),.int .i64 d] u.w (Ret u.w (.agg #[.int .i64 q.blocks,.int .i64 q.nodes,.int .i64 q.mostB,.int .i64 q.mostN]))):=by
    show ∀u:Gr W8,_;intro u;rw [HQ.out];exact puse_any B g S d _ ((Kr.ext E8).ext u.h) hd hd2 hr
   have y0:=Gr.cell N8.lt (N8.cell 0);have y1:=Gr.cell N8.lt (N8.cell 1);have y2:=Gr.cell N8.lt (N8.cell 2);have y3:=Gr.cell N8.lt (N8.cell 3);have hc8:Ext w W8:=hE.trans E8;clear hW8 N8 N7 N6 c1 c7 zF z7 z7E kD7 E8 E7 E6 b7;go_upto_region 9 with fail;refine wp_region_grow W8 (by kernel_rfl) (by kernel_rfl) (Ext.refl _).drew ?_
   repeat (quiet_step (first
    | ((with_reducible refine (KR.out _).mono ?_);rintro e w'' ⟨rfl,hEx⟩;exact⟨rfl,⟨w'',Ext.trans (Gr.h _) hEx⟩,rfl⟩)
    | ((with_reducible refine (KQ.out _).mono ?_);rintro e w'' ⟨rfl,hEx⟩;exact⟨rfl,⟨w'',Ext.trans (Gr.h _) hEx⟩,rfl⟩)
    | ((with_reducible refine (KU.out _).mono ?_);rintro e w'' ⟨rfl,hEx⟩;exact⟨rfl,⟨w'',Ext.trans (Gr.h _) hEx⟩,rfl⟩)))
   refine wpQuiet_nil ?_;rintro w9 ⟨⟨w9',E9⟩,h9⟩;dsimp only at h9;subst h9;clear y0 y1 y2 y3 KR KQ KU;go_wp2_with fail;go_roundw
   case rel=>exact⟨d+1,by go_num,by omega,hc8.trans E9⟩
   case measure=>simp[intOf];omega
  ·have tin:decide ((d:Int)≤(D:Int)+1)=false:=decide_eq_false (by omega)
   clear hin kF kD;obtain ⟨L,hL⟩:∃L:Nat,S.last=L:=⟨S.last.toNat,by omega⟩;have hL1:1≤L:=by omega
   have hL2:L≤1000:=by omega
   have HL:=zH hL;clear hL hl1 hl2;go_wp2_with fail;go_loopw [7] (fun v7 wq=>∃k:Nat,v7=.int .i64 ((k:Int)-1)∧k≤L+3∧Ext w wq) (fun v _=>((L:Int)+2-intOf v).toNat)
   case atStart=>exact⟨0,rfl,by omega,hE⟩
   case round =>
    clear hE Kr Fr c1 zF;obtain ⟨k,rfl,hkL,hE⟩:=hrel;have Kr:=K.ext hE;have Fr:=F.ext hE;obtain ⟨_,cnr,cer,kF,_,kD⟩:=id Fr;have c2:wr.cell? ⟨f.bF,2,none⟩=some (.int .i64 (L:Int)):=by rw[←HL.out];exact kF.cell 2
    have zF:=kF.lt;clear kF kD
    by_cases hin:k≤L+2
    ·have tin2:decide ((k:Int)-1≤(L:Int)+1)=true:=decide_eq_true (by omega)
     go_upto_region 14 with fail;obtain ⟨no,hno⟩:∃no,no=(k:Int)-1:=⟨_,rfl⟩;rw [←hno];have hn1:-1≤no:=by omega
     have hn2:no≤1002:=by omega
     have HNO:=zH hno;obtain ⟨_,_,cdr,kW,_⟩:=id Kr;have v0:wr.cell? ⟨g.bW,0,none⟩=some (.pointer (some ⟨g.bT,0,none⟩)):=kW.cell 0;have vz:=kW.lt;obtain ⟨A,c,ok,C14⟩:=tget_fix B g S no wr Kr;obtain ⟨m,hm⟩:∃m,m=getN S.nodes no:=⟨_,rfl⟩;have hme:m.ents.length≤1000000:=by
      cases hi:isN S.nodes no
      ·rw[hm,(isN_false hi).1];simp[nodeZ]
      ·rw[hm];exact HF.out.ents _ (isN_true hi).2.2
     obtain ⟨im,him⟩:∃im,im=isN S.nodes no:=⟨_,rfl⟩;rw [←hm]at ok C14;rw [←him]at C14;have HM:=zH hm;have HC14:=zH C14;clear kW hm him C14 hno tin2 c2;go_wp2_with fail;refine (HC14.out _ (Ext.refl _)).mono ?_;rintro e w3 ⟨rfl,b3⟩;obtain ⟨W4,hW4⟩:∃W4,W4=w3.alloc (.cells #[.int .i64 m.no,.int .i64 m.dev,.int .i64 m.kind,.int .i64 m.mode,.int .i64 m.uid,.int .i64 m.gid,.int .i64 m.mtime,.int .i64 m.ctime,.int .i64 m.links,.int .i64 m.up,.string (bs m.data),.slice A m.ents.length c] 66):=⟨_,rfl⟩;obtain ⟨b8,hb8⟩:∃b,b=w3.heap.size:=⟨_,rfl⟩;have N4:Has W4 b8 (.cells #[.int .i64 m.no,.int .i64 m.dev,.int .i64 m.kind,.int .i64 m.mode,.int .i64 m.uid,.int .i64 m.gid,.int .i64 m.mtime,.int .i64 m.ctime,.int .i64 m.links,.int .i64 m.up,.string (bs m.data),.slice A m.ents.length c] 66):=by rw[hW4,hb8];exact Has.new _ _
     have E4:Ext wr W4:=b3.trans (by rw[hW4];exact (Ext.refl _).alloc _);clear v0 vz;go_upto_region 15 with fail;rw [←hW4];rw [←hb8];clear hW4 hb8;obtain ⟨r,R⟩:=HF.out.rank;obtain ⟨X5,t5,hX5⟩:=WhR.val (whereF S no);have HX5:=zH hX5;have HR:=zH R;clear hX5 R;go_wp2_with fail;refine (pwhere_any B g S r no _ (Kr.ext E4) hl hd hd2 hr hu HF.out.names HF.out.ents HR.out HF.out.top HF.out.one).mono ?_;intro e w5 hwh;obtain ⟨rfl,b5⟩:=HX5.out _ _ _ hwh;clear hwh;go_wp2_with fail;refine (rwhere_any B' f S X no _ (Fr.ext (E4.trans b5)) (by omega) hd hd2 hr hu HF.out.names HF.out.ents).mono ?_;intro e w6 hwh;obtain ⟨rfl,b6⟩:=HX5.out _ _ _ hwh;clear hwh;have N6:=N4.ext (b5.trans b6);have E6:=E4.trans (b5.trans b6);go_upto_region 17 with fail;obtain ⟨A',c',ok',C17⟩:=rget_fix B' f S X no w6 (Fr.ext E6) (by omega) hu;rw [←HM.out]at ok' C17;have HC17:=zH C17;have ok6:=ok.ext E6;have KS:Hid (∀u:Gr w6,Calls Tryz.prog 56 #[.agg #[.int .i64 m.no,.int .i64 m.dev,.int .i64 m.kind,.int .i64 m.mode,.int .i64 m.uid,.int .i64 m.gid,.int .i64 m.mtime,.int .i64 m.ctime,.int .i64 m.links,.int .i64 m.up,.string (bs m.data),.slice A m.ents.length c],.agg #[.int .i64 m.no,.int .i64 m.dev,.int .i64 m.kind,.int .i64 m.mode,.int .i64 m.uid,.int .i64 m.gid,.int .i64 m.mtime,.int .i64 m.ctime,.int .i64 m.links,.int .i64 m.up,.string (bs m.data),.slice A' m.ents.length c']] u.w (Ret u.w (.bool true))):=by
      show ∀u:Gr w6,_;intro u;exact same_node m A A' c c' u.w (ok6.ext u.h).ents.ents (ok'.ext u.h).ents.ents hme
     have K1:Hid (∀u:Gr w6,Calls Tryz.prog 101 #[.pointer (some ⟨g.bW,0,none⟩),.int .i64 no] u.w (Ret u.w (.int .i64 (overF S.devs no)))):=by
      show ∀u:Gr w6,_;exact fun u=>pover_any B g S no _ ((Kr.ext E6).ext u.h) hd (by omega)
     have K2:Hid (∀u:Gr w6,Calls Tryz.prog 84 #[.pointer (some ⟨f.bF,0,none⟩),.int .i64 no] u.w (Ret u.w (.int .i64 (overF S.devs no)))):=by
      show ∀u:Gr w6,_;exact fun u=>rover_any B' f S X no _ ((Fr.ext E6).ext u.h) (by omega)
     have K3:Hid (∀u:Gr w6,Calls Tryz.prog 142 #[.pointer (some ⟨g.bW,0,none⟩),.int .i64 no] u.w (Ret u.w (.int .i64 (aboveF S no)))):=by
      show ∀u:Gr w6,_;exact fun u=>pabove_any B g S no _ ((Kr.ext E6).ext u.h) hd hd2 hr hu
     have K4:Hid (∀u:Gr w6,Calls Tryz.prog 83 #[.pointer (some ⟨f.bF,0,none⟩),.int .i64 no] u.w (Ret u.w (.int .i64 (aboveF S no)))):=by
      show ∀u:Gr w6,_;exact fun u=>rabove_any B' f S X no _ ((Fr.ext E6).ext u.h) (by omega) hd2 hr hu
     have K5:Hid (∀u:Gr w6,Calls Tryz.prog 143 #[.pointer (some ⟨g.bW,0,none⟩),.int .i64 no] u.w (Ret u.w (.bool (busyF S no)))):=by
      show ∀u:Gr w6,_;exact fun u=>pbusy_any B g S r no _ ((Kr.ext E6).ext u.h) hd hd2 hr hu HR.out
     have K6:Hid (∀u:Gr w6,Calls Tryz.prog 144 #[.pointer (some ⟨f.bF,0,none⟩),.int .i64 no] u.w (Ret u.w (.bool (busyF S no)))):=by
      show ∀u:Gr w6,_;exact fun u=>rbusy_any B' f S X no _ ((Fr.ext E6).ext u.h) (by omega) hd2 hr hu
     have zb:=N6.lt;obtain ⟨x0',x1',x2',x3',x4',x5',x6',x7',x8',x9',x10',x11'⟩:=N6.node12;have y0:=Gr.cell zb x0';have y1:=Gr.cell zb x1';have y2:=Gr.cell zb x2';have y3:=Gr.cell zb x3';have y4:=Gr.cell zb x4';have y5:=Gr.cell zb x5';have y6:=Gr.cell zb x6';have y7:=Gr.cell zb x7';have y8:=Gr.cell zb x8';have y9:=Gr.cell zb x9';have y10:=Gr.cell zb x10';have y11:=Gr.cell zb x11';obtain ⟨ov,hov⟩:∃ov,ov=overF S.devs no:=⟨_,rfl⟩;obtain ⟨ab,hab⟩:∃ab,ab=aboveF S no:=⟨_,rfl⟩;obtain ⟨bu,hbu⟩:∃bu,bu=busyF S no:=⟨_,rfl⟩;rw [←hov]at K1 K2;rw [←hab]at K3 K4;rw [←hbu]at K5 K6;have hE6:=hE.trans E6;clear x0' x1' x2' x3' x4' x5' x6' x7' x8' x9' x10' x11' C17 hov hab hbu N4 N6 ok ok' ok6 E4 b5 b6 b3 E6;refine wp_region_grow w6 (by kernel_rfl) (by kernel_rfl) (Ext.refl _).drew ?_
     repeat (quiet_step (first
      | ((with_reducible refine (HC17.out _ (Gr.h _)).mono ?_);rintro e w'' ⟨rfl,hEx⟩;exact⟨rfl,⟨w'',Ext.trans (Gr.h _) hEx⟩,rfl⟩)
      | ((with_reducible refine (KS.out _).mono ?_);rintro e w'' ⟨rfl,hEx⟩;exact⟨rfl,⟨w'',Ext.trans (Gr.h _) hEx⟩,rfl⟩)
      | ((with_reducible refine (K1.out _).mono ?_);rintro e w'' ⟨rfl,hEx⟩;exact⟨rfl,⟨w'',Ext.trans (Gr.h _) hEx⟩,rfl⟩)
      | ((with_reducible refine (K2.out _).mono ?_);rintro e w'' ⟨rfl,hEx⟩;exact⟨rfl,⟨w'',Ext.trans (Gr.h _) hEx⟩,rfl⟩)
      | ((with_reducible refine (K3.out _).mono ?_);rintro e w'' ⟨rfl,hEx⟩;exact⟨rfl,⟨w'',Ext.trans (Gr.h _) hEx⟩,rfl⟩)
      | ((with_reducible refine (K4.out _).mono ?_);rintro e w'' ⟨rfl,hEx⟩;exact⟨rfl,⟨w'',Ext.trans (Gr.h _) hEx⟩,rfl⟩)
      | ((with_reducible refine (K5.out _).mono ?_);rintro e w'' ⟨rfl,hEx⟩;exact⟨rfl,⟨w'',Ext.trans (Gr.h _) hEx⟩,rfl⟩)
      | ((with_reducible refine (K6.out _).mono ?_);rintro e w'' ⟨rfl,hEx⟩;exact⟨rfl,⟨w'',Ext.trans (Gr.h _) hEx⟩,rfl⟩)))
     refine wpQuiet_nil ?_;rintro w7 ⟨⟨w7',b7'⟩,h7⟩;dsimp only at h7;subst h7;clear y0 y1 y2 y3 y4 y5 y6 y7 y8 y9 y10 y11 K1 K2 K3 K4 K5 K6 KS;go_wp2_with fail;go_roundw
     case rel=>exact⟨k+1,by rw[HNO.out];go_num,by omega,hE6.trans b7'⟩
     case measure=>have:=HNO.out;simp[intOf];omega
    ·have tin2:decide ((k:Int)-1≤(L:Int)+1)=false:=decide_eq_false (by omega)
     go_wp2_with fail;go_ret;exact Ret.mk rfl hE
end Go.Proofs.YtpibnfdolojpcaaGreat
namespace Go.Proofs.YtpibnfdolojpcaaGreat
open Go.ChangeShapes Go.WideShapes Go.ChangeAt Go.RowKit
def bitOn (m:Int) (i:Nat):Bool:=m / 2 ^ i % 2 == 1
theorem bit_and (mode:Int) (i:Nat):(bits BinOp.and IntKind.i64 (mode / 2 ^ i) 1 == 1)=bitOn mode i:=by rw[and_1];rfl
def hasW (m want:Int):Bool:=bits .and .i64 (bits .and .i64 m want) 7 == bits .and .i64 want 7
def part (u g uid gid mode:Int):Int:=if u=uid then mode / 64 else if g=gid then mode / 8 else mode
def mayB (u g uid gid mode want:Int):Bool:=if u=0 then true else hasW (part u g uid gid mode) want
theorem mayB_0 (g uid gid mode want:Int) {u:Int} (h:u=0):mayB u g uid gid mode want=true:=by unfold mayB;rw[if_pos h]
theorem mayB_1 (g gid mode want:Int) {u uid:Int} (h:¬u=0) (h1:u=uid):mayB u g uid gid mode want=hasW (mode / 64) want:=by unfold mayB part;rw[if_neg h,if_pos h1]
theorem mayB_2 (mode want:Int) {u g uid gid:Int} (h:¬u=0) (h1:¬u=uid) (h2:g=gid):mayB u g uid gid mode want=hasW (mode / 8) want:=by unfold mayB part;rw[if_neg h,if_neg h1,if_pos h2]
theorem mayB_3 (mode want:Int) {u g uid gid:Int} (h:¬u=0) (h1:¬u=uid) (h2:¬g=gid):mayB u g uid gid mode want=hasW mode want:=by unfold mayB part;rw[if_neg h,if_neg h1,if_neg h2]
theorem may_any (u g uid gid mode want:Int) (w:World) :
  Calls Tryz.prog 95 #[.agg #[.int .i64 u,.int .i64 g],.int .i64 uid,.int .i64 gid,.int .i64 mode,.int .i64 want] w (Ret w (.bool (mayB u g uid gid mode want))):=by
 by_cases h0:u=0
 ·have hfin:=zH (mayB_0 g uid gid mode want h0)
  have b0:(u == 0)=true:=beq_iff_eq.2 h0;clear h0;go_enter Tryz.func95,Tryz.ntmps95;go_wp2_with fail;go_ret;exact Ret.mk (by rw[hfin.out];rfl) ((Ext.refl _).alloc _)
 ·have b0:(u == 0)=false:=beq_eq_false_iff_ne.2 h0
  by_cases h1:u=uid
  ·have hfin:=zH (mayB_1 g gid mode want h0 h1)
   have b1:(u == uid)=true:=beq_iff_eq.2 h1;clear h0 h1;go_enter Tryz.func95,Tryz.ntmps95;go_wp2_with fail;go_ret;exact Ret.mk (by rw[hfin.out];rfl) ((Ext.refl _).alloc _)
  ·have b1:(u == uid)=false:=beq_eq_false_iff_ne.2 h1
   by_cases h2:g=gid
   ·have hfin:=zH (mayB_2 mode want h0 h1 h2)
    have b2:(g == gid)=true:=beq_iff_eq.2 h2;clear h0 h1 h2;go_enter Tryz.func95,Tryz.ntmps95;go_wp2_with fail;go_ret;exact Ret.mk (by rw[hfin.out];rfl) ((Ext.refl _).alloc _)
   ·have hfin:=zH (mayB_3 mode want h0 h1 h2)
    have b2:(g == gid)=false:=beq_eq_false_iff_ne.2 h2;clear h0 h1 h2;go_enter Tryz.func95,Tryz.ntmps95;go_wp2_with fail;go_ret;exact Ret.mk (by rw[hfin.out];rfl) ((Ext.refl _).alloc _)
theorem bitOn_nat (x:Int) (i:Nat) (hi:i≤2):bitOn x i=((x % 18446744073709551616).toNat).testBit i:=by
 have:i=0∨i=1∨i=2:=by omega
 rw [Nat.testBit_eq_decide_div_mod_eq];unfold bitOn;rcases this with rfl|rfl|rfl<;>rw[Bool.eq_iff_iff,beq_iff_eq,decide_eq_true_iff]<;>omega
theorem mod8_bits (x:Int):x % 8=(if bitOn x 0=true then 1 else 0)+(if bitOn x 1=true then 2 else 0)+(if bitOn x 2=true then 4 else 0):=by
 unfold bitOn;simp only[beq_iff_eq];split<;>split<;>split<;>omega
theorem wrap_mod (n:Nat) (h:n<2 ^ 64):((((n:Int)+9223372036854775808) % 18446744073709551616-9223372036854775808) % 18446744073709551616).toNat=n:=by omega
theorem bitOn_and (x y:Int) (i:Nat) (hi:i≤2):bitOn (bits .and .i64 x y) i=(bitOn x i&&bitOn y i):=by
 have h:bits .and .i64 x y=IntKind.i64.wrap ((BitVec.ofInt 64 x &&& BitVec.ofInt 64 y).toNat:Int):=rfl;rw [h,IntKind.wrap_i64,bitOn_nat _ i hi,bitOn_nat x i hi,bitOn_nat y i hi,←Nat.testBit_and,←ofInt_toNat,←ofInt_toNat x,←ofInt_toNat y,←BitVec.toNat_and];rw [ofInt_toNat,wrap_mod _ (BitVec.ofInt 64 x &&& BitVec.ofInt 64 y).isLt]
theorem has_bits (m want:Int):hasW m want=((!bitOn want 0 || bitOn m 0)&&((!bitOn want 1 || bitOn m 1)&&(!bitOn want 2 || bitOn m 2))):=by
 unfold hasW;rw [and_7,and_7,mod8_bits,mod8_bits want,bitOn_and _ _ 0 (by omega),bitOn_and _ _ 1 (by omega),bitOn_and _ _ 2 (by omega)]
 cases bitOn want 0<;>cases bitOn want 1<;>cases bitOn want 2<;>cases bitOn m 0<;>cases bitOn m 1<;>cases bitOn m 2<;>rfl
theorem bitOn_div (m:Int) (k i:Nat):bitOn (m / 2 ^ k) i=bitOn m (k+i):=by
 unfold bitOn;rw [Int.pow_add,Int.ediv_ediv_of_nonneg (Int.le_of_lt (Int.pow_pos (by decide)))]
theorem div_half (m:Int) (k:Nat):m / 2 ^ k / 2=m / 2 ^ (k+1):=by
 rw [Int.ediv_ediv_of_nonneg (Int.le_of_lt (Int.pow_pos (by decide))),Int.pow_succ]
theorem rbit_nat (mode:Int) (n:Nat) (w:World) (hn:n≤1000):Calls Tryz.prog 104 #[.int .i64 mode,.int .i64 n] w (Ret w (.bool (bitOn mode n))):=by
 go_enter Tryz.func104,Tryz.ntmps104;go_wp2_with fail;go_loop [0,5] (fun m i=>∃k:Nat,k≤n∧i=.int .i64 k∧m=.int .i64 (mode / 2 ^ k)) (fun _ i=>n-(intOf i).toNat)
 case atStart=>exact⟨0,by omega,rfl,by simp⟩
 case round =>
  obtain ⟨k,hk,rfl,rfl⟩:=hrel
  by_cases hlt:k<n
  ·have hd:=zH (div_half mode k)
   go_wp2_with fail;go_round
   case rel=>exact⟨k+1,by omega,by go_num,by rw[←hd.out]⟩
   case measure=>simp[intOf];omega
  ·obtain rfl:k=n:=by omega
   have hfin:=zH (bit_and mode k);go_wp2_with fail;go_ret;exact Ret.mk (by rw[hfin.out];rfl) (Ext.refl _)
theorem rbit_any (mode at_:Int) (w:World) (h0:0≤at_) (h1:at_≤1000):Calls Tryz.prog 104 #[.int .i64 mode,.int .i64 at_] w (Ret w (.bool (bitOn mode at_.toNat))):=by
 obtain ⟨n,rfl⟩:=Int.eq_ofNat_of_zero_le h0;exact rbit_nat mode n w (by omega)
def rhas (m want:Int) (f:Nat) (k:Nat):Bool:=(List.range k).all fun j=>!bitOn want j || bitOn m (f+j)
theorem rhas_succ (m want:Int) (f k:Nat):rhas m want f (k+1)=(rhas m want f k&&(!bitOn want k || bitOn m (f+k))):=by
 simp [rhas,List.range_succ]
theorem rhas_3 (m want:Int) (f:Nat):rhas m want f 3=hasW (m / 2 ^ f) want:=by
 rw [has_bits,bitOn_div,bitOn_div,bitOn_div];simp[rhas,List.range,List.range.loop]
theorem rhas_mono (m want:Int) (f:Nat):∀k j,rhas m want f (k+j)=true→rhas m want f k=true
 | _,0,h=>h
 | k,j+1,h=>rhas_mono m want f k j (by rw[←Nat.add_assoc,rhas_succ]at h;simp at h;exact h.1)
def fromOf (u g uid gid:Int):Nat:=if u=uid then 6 else if g=gid then 3 else 0
theorem mayB_has (u g uid gid mode want:Int):mayB u g uid gid mode want=(u == 0 || rhas mode want (fromOf u g uid gid) 3):=by
 rw [rhas_3];unfold mayB part fromOf
 by_cases h0:u=0
 ·rw[if_pos h0];simp[h0]
 ·rw [if_neg h0,beq_eq_false_iff_ne.2 h0,Bool.false_or]
  split
  ·rfl
  ·split<;>simp
theorem mayB_true {u g uid gid mode want:Int} (h:rhas mode want (fromOf u g uid gid) 3=true):mayB u g uid gid mode want=true:=by rw[mayB_has,h];simp
theorem mayB_zero {u g uid gid mode want:Int} {k:Nat} (hk:k<3) (h:(bitOn want k&&!bitOn mode (fromOf u g uid gid+k))=true):mayB u g uid gid mode want=(u == 0):=by
 have : rhas mode want (fromOf u g uid gid) 3=false:=by
  cases hh:rhas mode want (fromOf u g uid gid) 3 with
  | false=>rfl
  | true =>
   have h1:=rhas_mono mode want (fromOf u g uid gid) (k+1) (3-(k+1)) (by rw[show k+1+(3-(k+1))=3 from by omega];exact hh);rw [rhas_succ]at h1;simp at h1 h;rcases h1.2 with h2|h2
   ·rw[h.1]at h2;cases h2
   ·rw[h.2]at h2;cases h2
 rw [mayB_has,this];simp
theorem rmay_any (u g uid gid mode want:Int) (w:World) :
  Calls Tryz.prog 103 #[.agg #[.int .i64 u,.int .i64 g],.int .i64 uid,.int .i64 gid,.int .i64 mode,.int .i64 want] w (Ret w (.bool (mayB u g uid gid mode want))):=by
 have A0:Has (w.alloc (.cells #[.int .i64 u,.int .i64 g] 27)) w.heap.size (.cells #[.int .i64 u,.int .i64 g] 27):=Has.new _ _
 by_cases h1:u=uid
 ·have hfr : Hid (fromOf u g uid gid=6):=by show _=_;unfold fromOf;rw[if_pos h1]
  have b1:(u == uid)=true:=beq_iff_eq.2 h1;clear h1;go_enter Tryz.func103,Tryz.ntmps103;go_wp2_with fail;go_loopw [12] (fun i wr=>∃k:Nat,k≤3∧i=.int .i64 k∧Hid (rhas mode want 6 k=true)∧Ext (w.alloc (.cells #[.int .i64 u,.int .i64 g] 27)) wr) (fun i _=>3-(intOf i).toNat)
  case atStart=>exact⟨0,by omega,rfl,rfl,Ext.refl _⟩
  case round =>
   obtain ⟨k,hk,rfl,hr,hx⟩:=hrel
   by_cases hlt:k<3
   ·go_wp2_with fail
    refine (rbit_any _ _ _ (by omega) (by omega)).mono ?_;rintro e w1 ⟨rfl,b1⟩;rw [Int.toNat_natCast]
    cases hw:bitOn want k with
    | false =>
     have hs:Hid (rhas mode want 6 (k+1)=true):=by show _=_;rw[rhas_succ,hr.out,hw];rfl
     clear hw;go_wp2_with fail;go_roundw
     case rel=>exact⟨k+1,by omega,by go_num,hs,hx.trans b1⟩
     case measure=>simp[intOf];omega
    | true =>
     have hW:Hid (bitOn want k=true):=hw;clear hw;go_wp2_with fail;refine (rbit_any _ _ _ (by omega) (by omega)).mono ?_;rintro e w2 ⟨rfl,b2⟩;rw [show (6+(k:Int)).toNat=6+k from by omega]
     cases hm:bitOn mode (6+k) with
     | true =>
      have hs:Hid (rhas mode want 6 (k+1)=true):=by show _=_;rw[rhas_succ,hr.out,hm];simp
      clear hm;go_wp2_with fail;go_roundw
      case rel=>exact⟨k+1,by omega,by go_num,hs,(hx.trans b1).trans b2⟩
      case measure=>simp[intOf];omega
     | false =>
      have hs:Hid (mayB u g uid gid mode want=(u == 0)):=by show _=_;refine mayB_zero (k:=k) hlt ?_;rw[hfr.out,hW.out,hm];rfl
      clear hm;have A1:=((A0.ext hx).ext b1).ext b2;have hc:∀i,w2.cell? ⟨w.heap.size,i,none⟩=_:=fun i=>A1.cell i
      go_wp2_with fail;go_ret;exact Ret.mk (by rw[hs.out];rfl) ((((Ext.refl _).alloc _).trans hx).trans (b1.trans b2))
   ·obtain rfl:k=3:=by omega
    have hs:Hid (mayB u g uid gid mode want=true):=by show _=_;refine mayB_true ?_;rw[hfr.out];exact hr.out
    go_wp2_with fail;go_ret;exact Ret.mk (by rw[hs.out];rfl) (((Ext.refl _).alloc _).trans hx)
 ·have b1 : (u == uid)=false:=beq_eq_false_iff_ne.2 h1
  by_cases h2:g=gid
  ·have hfr : Hid (fromOf u g uid gid=3):=by show _=_;unfold fromOf;rw[if_neg h1,if_pos h2]
   have b2:(g == gid)=true:=beq_iff_eq.2 h2;clear h1 h2;go_enter Tryz.func103,Tryz.ntmps103;go_wp2_with fail;go_loopw [12] (fun i wr=>∃k:Nat,k≤3∧i=.int .i64 k∧Hid (rhas mode want 3 k=true)∧Ext (w.alloc (.cells #[.int .i64 u,.int .i64 g] 27)) wr) (fun i _=>3-(intOf i).toNat)
   case atStart=>exact⟨0,by omega,rfl,rfl,Ext.refl _⟩
   case round =>
    obtain ⟨k,hk,rfl,hr,hx⟩:=hrel
    by_cases hlt:k<3
    ·go_wp2_with fail
     refine (rbit_any _ _ _ (by omega) (by omega)).mono ?_;rintro e w1 ⟨rfl,b1⟩;rw [Int.toNat_natCast]
     cases hw:bitOn want k with
     | false =>
      have hs:Hid (rhas mode want 3 (k+1)=true):=by show _=_;rw[rhas_succ,hr.out,hw];rfl
      clear hw;go_wp2_with fail;go_roundw
      case rel=>exact⟨k+1,by omega,by go_num,hs,hx.trans b1⟩
      case measure=>simp[intOf];omega
     | true =>
      have hW:Hid (bitOn want k=true):=hw;clear hw;go_wp2_with fail;refine (rbit_any _ _ _ (by omega) (by omega)).mono ?_;rintro e w2 ⟨rfl,b2⟩;rw [show (3+(k:Int)).toNat=3+k from by omega]
      cases hm:bitOn mode (3+k) with
      | true =>
       have hs:Hid (rhas mode want 3 (k+1)=true):=by show _=_;rw[rhas_succ,hr.out,hm];simp
       clear hm;go_wp2_with fail;go_roundw
       case rel=>exact⟨k+1,by omega,by go_num,hs,(hx.trans b1).trans b2⟩
       case measure=>simp[intOf];omega
      | false =>
       have hs:Hid (mayB u g uid gid mode want=(u == 0)):=by show _=_;refine mayB_zero (k:=k) hlt ?_;rw[hfr.out,hW.out,hm];rfl
       clear hm;have A1:=((A0.ext hx).ext b1).ext b2;have hc:∀i,w2.cell? ⟨w.heap.size,i,none⟩=_:=fun i=>A1.cell i
       go_wp2_with fail;go_ret;exact Ret.mk (by rw[hs.out];rfl) ((((Ext.refl _).alloc _).trans hx).trans (b1.trans b2))
    ·obtain rfl:k=3:=by omega
     have hs:Hid (mayB u g uid gid mode want=true):=by show _=_;refine mayB_true ?_;rw[hfr.out];exact hr.out
     go_wp2_with fail;go_ret;exact Ret.mk (by rw[hs.out];rfl) (((Ext.refl _).alloc _).trans hx)
  ·have hfr : Hid (fromOf u g uid gid=0):=by show _=_;unfold fromOf;rw[if_neg h1,if_neg h2]
   have b2:(g == gid)=false:=beq_eq_false_iff_ne.2 h2;clear h1 h2;go_enter Tryz.func103,Tryz.ntmps103;go_wp2_with fail;go_loopw [12] (fun i wr=>∃k:Nat,k≤3∧i=.int .i64 k∧Hid (rhas mode want 0 k=true)∧Ext (w.alloc (.cells #[.int .i64 u,.int .i64 g] 27)) wr) (fun i _=>3-(intOf i).toNat)
   case atStart=>exact⟨0,by omega,rfl,rfl,Ext.refl _⟩
   case round =>
    obtain ⟨k,hk,rfl,hr,hx⟩:=hrel
    by_cases hlt:k<3
    ·go_wp2_with fail
     refine (rbit_any _ _ _ (by omega) (by omega)).mono ?_;rintro e w1 ⟨rfl,b1⟩;rw [Int.toNat_natCast]
     cases hw:bitOn want k with
     | false =>
      have hs:Hid (rhas mode want 0 (k+1)=true):=by show _=_;rw[rhas_succ,hr.out,hw];rfl
      clear hw;go_wp2_with fail;go_roundw
      case rel=>exact⟨k+1,by omega,by go_num,hs,hx.trans b1⟩
      case measure=>simp[intOf];omega
     | true =>
      have hW:Hid (bitOn want k=true):=hw;clear hw;go_wp2_with fail;refine (rbit_any _ _ _ (by omega) (by omega)).mono ?_;rintro e w2 ⟨rfl,b2⟩;rw [show ((k:Int)).toNat=0+k from by omega]
      cases hm:bitOn mode (0+k) with
      | true =>
       have hs:Hid (rhas mode want 0 (k+1)=true):=by show _=_;rw[rhas_succ,hr.out,hm];simp
       clear hm;go_wp2_with fail;go_roundw
       case rel=>exact⟨k+1,by omega,by go_num,hs,(hx.trans b1).trans b2⟩
       case measure=>simp[intOf];omega
      | false =>
       have hs:Hid (mayB u g uid gid mode want=(u == 0)):=by show _=_;refine mayB_zero (k:=k) hlt ?_;rw[hfr.out,hW.out,hm];rfl
       clear hm;have A1:=((A0.ext hx).ext b1).ext b2;have hc:∀i,w2.cell? ⟨w.heap.size,i,none⟩=_:=fun i=>A1.cell i
       go_wp2_with fail;go_ret;exact Ret.mk (by rw[hs.out];rfl) ((((Ext.refl _).alloc _).trans hx).trans (b1.trans b2))
    ·obtain rfl:k=3:=by omega
     have hs:Hid (mayB u g uid gid mode want=true):=by show _=_;refine mayB_true ?_;rw[hfr.out];exact hr.out
     go_wp2_with fail;go_ret;exact Ret.mk (by rw[hs.out];rfl) (((Ext.refl _).alloc _).trans hx)
def fineB (u g:Int):Bool:=decide (0≤u)&&(decide (u≤2147483648)&&(decide (0≤g)&&decide (g≤2147483648)))
def ownsB (u o:Int):Bool:=u == 0 || u == o
def freeB (u dmode do_ no:Int):Bool:=!bitOn dmode 9 || (ownsB u do_ || ownsB u no)
theorem pfine_any (u g:Int) (w:World):Calls Tryz.prog 161 #[.agg #[.int .i64 u,.int .i64 g]] w (Ret w (.bool (fineB u g))):=by
 go_enter Tryz.func161,Tryz.ntmps161;go_wp2_with fail
 all_goals
  go_ret;exact Ret.mk (by simp[fineB, *]<;>omega) ((Ext.refl _).alloc _)
theorem powns_any (u g:Int) (x0 x1 x2 x3:Value) (o:Int) (x5 x6 x7 x8 x9 x10 x11:Value) (w:World) :
  Calls Tryz.prog 96 #[.agg #[.int .i64 u,.int .i64 g],.agg #[x0,x1,x2,x3,.int .i64 o,x5,x6,x7,x8,x9,x10,x11]] w (Ret w (.bool (ownsB u o))):=by
 cases h:(u == 0) with
 | true =>
  have hf:Hid (ownsB u o=true):=by show _=_;unfold ownsB;rw[h];rfl
  go_enter Tryz.func96,Tryz.ntmps96;go_wp2_with fail;go_ret;exact Ret.mk (by rw[hf.out];rfl) (((Ext.refl _).alloc _).alloc _)
 | false =>
  have hf:Hid (ownsB u o=(u == o)):=by show _=_;unfold ownsB;rw[h];rfl
  go_enter Tryz.func96,Tryz.ntmps96;go_wp2_with fail;go_ret;exact Ret.mk (by rw[hf.out];rfl) (((Ext.refl _).alloc _).alloc _)
theorem pnode_any (u g:Int) (x0 x1 x2:Value) (mode o gr:Int) (x6 x7 x8 x9 x10 x11:Value) (want:Int) (w:World) :
  Calls Tryz.prog 51 #[.agg #[.int .i64 u,.int .i64 g],.agg #[x0,x1,x2,.int .i64 mode,.int .i64 o,.int .i64 gr,x6,x7,x8,x9,x10,x11],.int .i64 want] w (Ret w (.bool (mayB u g o gr mode want))):=by
 go_enter Tryz.func51,Tryz.ntmps51;go_wp2_with fail;refine (may_any _ _ _ _ _ _ _).mono ?_;rintro e w1 ⟨rfl,b1⟩;go_wp2_with fail;go_ret;exact Ret.mk rfl ((((Ext.refl _).alloc _).alloc _).trans b1)
theorem rfine_any (u g:Int) (w:World):Calls Tryz.prog 128 #[.agg #[.int .i64 u,.int .i64 g]] w (Ret w (.bool (fineB u g))):=by
 go_enter Tryz.func128,Tryz.ntmps128;go_wp2_with fail
 all_goals
  go_ret;exact Ret.mk (by simp[fineB, *]<;>omega) ((Ext.refl _).alloc _)
theorem rowns_any (u g:Int) (x0 x1 x2 x3:Value) (o:Int) (x5 x6 x7 x8 x9 x10 x11:Value) (w:World) :
  Calls Tryz.prog 105 #[.agg #[.int .i64 u,.int .i64 g],.agg #[x0,x1,x2,x3,.int .i64 o,x5,x6,x7,x8,x9,x10,x11]] w (Ret w (.bool (ownsB u o))):=by
 cases h:(u == 0) with
 | true =>
  have hf:Hid (ownsB u o=true):=by show _=_;unfold ownsB;rw[h];rfl
  go_enter Tryz.func105,Tryz.ntmps105;go_wp2_with fail;go_ret;exact Ret.mk (by rw[hf.out];rfl) (((Ext.refl _).alloc _).alloc _)
 | false =>
  have hf:Hid (ownsB u o=(u == o)):=by show _=_;unfold ownsB;rw[h];rfl
  go_enter Tryz.func105,Tryz.ntmps105;go_wp2_with fail;go_ret;exact Ret.mk (by rw[hf.out];rfl) (((Ext.refl _).alloc _).alloc _)
theorem rnode_any (u g:Int) (x0 x1 x2:Value) (mode o gr:Int) (x6 x7 x8 x9 x10 x11:Value) (want:Int) (w:World) :
  Calls Tryz.prog 59 #[.agg #[.int .i64 u,.int .i64 g],.agg #[x0,x1,x2,.int .i64 mode,.int .i64 o,.int .i64 gr,x6,x7,x8,x9,x10,x11],.int .i64 want] w (Ret w (.bool (mayB u g o gr mode want))):=by
 go_enter Tryz.func59,Tryz.ntmps59;go_wp2_with fail;refine (rmay_any _ _ _ _ _ _ _).mono ?_;rintro e w1 ⟨rfl,b1⟩;go_wp2_with fail;go_ret;exact Ret.mk rfl ((((Ext.refl _).alloc _).alloc _).trans b1)
def ownE (S:TreeD) (cu no:Int):Int:=if isN S.nodes no=false then 5 else if ownsB cu (getN S.nodes no).uid=false then 4 else 0
def ownN (S:TreeD) (cu no:Int):NodeD:=if ownE S cu no=0 then getN S.nodes no else nodeZ
def OwnQ (w:World) (B:Nat) (S:TreeD) (cu no:Int) (e:Ending) (w':World):Prop:=
 ∃ A c,e=.returned (.tuple #[.agg #[.int .i64 (ownN S cu no).no,.int .i64 (ownN S cu no).dev,.int .i64 (ownN S cu no).kind,.int .i64 (ownN S cu no).mode,.int .i64 (ownN S cu no).uid,.int .i64 (ownN S cu no).gid,.int .i64 (ownN S cu no).mtime,.int .i64 (ownN S cu no).ctime,.int .i64 (ownN S cu no).links,.int .i64 (ownN S cu no).up,.string (bs (ownN S cu no).data),.slice A (ownN S cu no).ents.length c],.int .i64 (ownE S cu no)])∧NodeOk w' B (ownN S cu no) A c∧Ext w w'
theorem pown_any (B:Nat) (g:GhW) (S:TreeD) (cu cg no:Int) (w:World) (h:WAt w B g S) (hd:0<S.devs.length):Calls Tryz.prog 160 #[.pointer (some ⟨g.bW,0,none⟩),.agg #[.int .i64 cu,.int .i64 cg],.int .i64 no] w (OwnQ w B S cu no):=by
 have h0:=h;obtain ⟨h1,h2,cd,h3,h4⟩:=h;have hl0:((S.devs.length:Int) == 0)=false:=by simpa using (show ¬(S.devs.length:Int)=0 by omega)
 have E0:Ext w ((w.alloc (.cells #[.int .i64 cu,.int .i64 cg] 27)).alloc (.cells #[.int .i64 0,.int .i64 0,.int .i64 0,.int .i64 0,.int .i64 0,.int .i64 0,.int .i64 0,.int .i64 0,.int .i64 0,.int .i64 0,.string ⟨#[]⟩,.slice none 0 0] 66)):=((Ext.refl _).alloc _).alloc _;go_enter Tryz.func160,Tryz.ntmps160;go_wp2_with fail;refine (pdevs_any B g S _ (h0.ext E0) hd).mono ?_;rintro e w1 ⟨rfl,b1⟩;have E1:=E0.trans b1;have R0:=Has.new (w.alloc (.cells #[.int .i64 cu,.int .i64 cg] 27)) (.cells #[.int .i64 nodeZ.no,.int .i64 nodeZ.dev,.int .i64 nodeZ.kind,.int .i64 nodeZ.mode,.int .i64 nodeZ.uid,.int .i64 nodeZ.gid,.int .i64 nodeZ.mtime,.int .i64 nodeZ.ctime,.int .i64 nodeZ.links,.int .i64 nodeZ.up,.string (bs nodeZ.data),.slice none nodeZ.ents.length 0] 66);rw [World.size_alloc]at R0;have R1:=R0.ext b1;have C1:=((Has.new w (.cells #[.int .i64 cu,.int .i64 cg] 27)).alloc (.cells #[.int .i64 0,.int .i64 0,.int .i64 0,.int .i64 0,.int .i64 0,.int .i64 0,.int .i64 0,.int .i64 0,.int .i64 0,.int .i64 0,.string ⟨#[]⟩,.slice none 0 0] 66)).ext b1;have v0:w1.cell? ⟨g.bW,0,none⟩=some (.pointer (some ⟨g.bT,0,none⟩)):=(h3.ext E1).cell 0;have z1:=(h3.ext E1).lt;go_wp2_with fail;refine (tget_any B g.bT g.bM S.nodes S.last no _ (h2.ext E1)).mono ?_;rintro e w2 ⟨A2,k2,rfl,ok2,b2⟩;have R2:=R1.ext b2;have C2:=C1.ext b2;have hm:Hid (ownE S cu no=if isN S.nodes no=false then 5 else if ownsB cu (getN S.nodes no).uid=false then 4 else 0):=by show _=_;rfl
 have hm2:Hid (ownN S cu no=if ownE S cu no=0 then getN S.nodes no else nodeZ):=by show _=_;rfl
 obtain ⟨m,hmm⟩:∃m,m=getN S.nodes no:=⟨_,rfl⟩;rw [←hmm]at ok2 hm hm2⊢;obtain ⟨W3,hW3⟩:∃W3,W3=w2.alloc (.cells #[.int .i64 m.no,.int .i64 m.dev,.int .i64 m.kind,.int .i64 m.mode,.int .i64 m.uid,.int .i64 m.gid,.int .i64 m.mtime,.int .i64 m.ctime,.int .i64 m.links,.int .i64 m.up,.string (bs m.data),.slice A2 m.ents.length k2] 66):=⟨_,rfl⟩;have E23:Ext w2 W3:=by rw[hW3];exact (Ext.refl _).alloc _
 have N3:Has W3 w2.heap.size (.cells #[.int .i64 m.no,.int .i64 m.dev,.int .i64 m.kind,.int .i64 m.mode,.int .i64 m.uid,.int .i64 m.gid,.int .i64 m.mtime,.int .i64 m.ctime,.int .i64 m.links,.int .i64 m.up,.string (bs m.data),.slice A2 m.ents.length k2] 66):=by rw[hW3];exact Has.new _ _
 have R3:=R2.ext E23;have C3:=C2.ext E23;have E3:Ext w W3:=(E1.trans b2).trans E23;obtain ⟨b8,hb8⟩:∃b8,b8=w2.heap.size:=⟨_,rfl⟩;obtain ⟨i,hi⟩:∃i,i=isN S.nodes no:=⟨_,rfl⟩;rw [←hi]at hm⊢;clear v0 hmm hi;go_upto_region 4 with fail;rw [←hW3];rw [←hb8]at N3⊢;clear hW3 hb8
 cases i
 ·have hE:Hid (ownE S cu no=5):=by show _=_;rw[hm.out];rfl
  have hN:Hid (ownN S cu no=nodeZ):=by show _=_;rw[hm2.out,hE.out];rfl
  clear hm hm2;go_wp2_with (refine wpList_store_node rfl _ _ rfl (w.heap.size+1) nodeZ none 0 rfl rfl R3 ?_;intro w4 R4 O4);refine bodyPost_ret (v:=.tuple #[.agg #[.int .i64 nodeZ.no,.int .i64 nodeZ.dev,.int .i64 nodeZ.kind,.int .i64 nodeZ.mode,.int .i64 nodeZ.uid,.int .i64 nodeZ.gid,.int .i64 nodeZ.mtime,.int .i64 nodeZ.ctime,.int .i64 nodeZ.links,.int .i64 nodeZ.up,.string (bs nodeZ.data),.slice none nodeZ.ents.length 0],.int .i64 5]) (res_node Tryz.results160 _ _ (w.heap.size+1) nodeZ none 0 _ rfl rfl R4) rfl ?_;exact ⟨none,0,by rw[hE.out,hN.out],by rw[hN.out];exact NodeOk.zero _ _,O4.after E3 (by simp)⟩
 ·obtain ⟨u,hu⟩:∃u,u=ownsB cu m.uid:=⟨_,rfl⟩
  rw [←hu]at hm;have HU:=zH hu;have c0:W3.cell? ⟨w.heap.size,0,none⟩=some (.int .i64 cu):=C3.cell 0;have c1:W3.cell? ⟨w.heap.size,1,none⟩=some (.int .i64 cg):=C3.cell 1;have zc:=C3.lt;clear hu;go_wp2_with (refine wpList_load_node rfl _ rfl b8 m A2 k2 rfl N3 ?_);refine (powns_any cu cg _ _ _ _ m.uid _ _ _ _ _ _ _ _).mono ?_;rw [←HU.out];rintro e w4 ⟨rfl,b4⟩;have R4:=R3.ext b4;have N4:=N3.ext b4
  cases u
  ·have hE:Hid (ownE S cu no=4):=by show _=_;rw[hm.out];rfl
   have hN:Hid (ownN S cu no=nodeZ):=by show _=_;rw[hm2.out,hE.out];rfl
   clear hm hm2;go_wp2_with (refine wpList_store_node rfl _ _ rfl (w.heap.size+1) nodeZ none 0 rfl rfl R4 ?_;intro w5 R5 O5);refine bodyPost_ret (v:=.tuple #[.agg #[.int .i64 nodeZ.no,.int .i64 nodeZ.dev,.int .i64 nodeZ.kind,.int .i64 nodeZ.mode,.int .i64 nodeZ.uid,.int .i64 nodeZ.gid,.int .i64 nodeZ.mtime,.int .i64 nodeZ.ctime,.int .i64 nodeZ.links,.int .i64 nodeZ.up,.string (bs nodeZ.data),.slice none nodeZ.ents.length 0],.int .i64 4]) (res_node Tryz.results160 _ _ (w.heap.size+1) nodeZ none 0 _ rfl rfl R5) rfl ?_;exact ⟨none,0,by rw[hE.out,hN.out],by rw[hN.out];exact NodeOk.zero _ _,O5.after (E3.trans b4) (by simp)⟩
  ·have hE:Hid (ownE S cu no=0):=by show _=_;rw[hm.out];rfl
   have hN:Hid (ownN S cu no=m):=by show _=_;rw[hm2.out,hE.out];rfl
   clear hm hm2 c0 c1;go_wp2_with (first|(refine wpList_load_node rfl _ rfl b8 m A2 k2 rfl N4 ?_)|(refine wpList_store_node rfl _ _ rfl (w.heap.size+1) m A2 k2 rfl rfl R4 ?_;intro w5 R5 O5));refine bodyPost_ret (v:=.tuple #[.agg #[.int .i64 m.no,.int .i64 m.dev,.int .i64 m.kind,.int .i64 m.mode,.int .i64 m.uid,.int .i64 m.gid,.int .i64 m.mtime,.int .i64 m.ctime,.int .i64 m.links,.int .i64 m.up,.string (bs m.data),.slice A2 m.ents.length k2],.int .i64 0]) (res_node Tryz.results160 _ _ (w.heap.size+1) m A2 k2 _ rfl rfl R5) rfl ?_;have ok5:NodeOk w5 B m A2 k2:=(((ok2.ext E23).ext b4).only O5 (by
    intro b hb;rw [List.mem_singleton]at hb;subst hb;exact ⟨by have:=h1;have:=h0.lt.1;omega,R4.noTag (by decide)⟩))
   exact ⟨A2,k2,by rw[hE.out,hN.out],by rw[hN.out];exact ok5,O5.after (E3.trans b4) (by simp)⟩
def ErrR (w:World) (B:Nat) (g:GhW) (T:TreeD) (x:Int) (e:Ending) (w':World):Prop:=
 e = .returned (.int .i64 x)∧WAt w' B g T∧Only g.list w w'
theorem errR_same {w w':World} {B:Nat} {g:GhW} {S T:TreeD} {x:Int} (h:WAt w B g S) (hE:Ext w w') (hT:T=S):ErrR w B g T x (.returned (.int .i64 x)) w':=
 ⟨rfl,by rw[hT];exact h.ext hE,Only.of_ext hE⟩
def modeE (S:TreeD) (cu no mode:Int):Int:=if ownE S cu no≠0 then ownE S cu no else if mode<0∨1023<mode∨(getN S.nodes no).kind=3 then 1 else 0
def modeT (S:TreeD) (cu now no mode:Int):TreeD:=if modeE S cu no mode=0 then setT S {getN S.nodes no with mode:=mode,ctime:=now} else S
theorem ownE_zero {S:TreeD} {cu no:Int} (h:ownE S cu no=0):isN S.nodes no=true∧ownsB cu (getN S.nodes no).uid=true∧ownN S cu no=getN S.nodes no:=by
 refine ⟨?_,?_,by unfold ownN;rw[if_pos h]⟩
 ·cases hi:isN S.nodes no
  ·unfold ownE at h;rw[if_pos hi]at h;cases h
  ·rfl
 ·unfold ownE at h
  split at h
  ·cases h
  ·split at h
   ·cases h
   ·rename_i h2;simpa using h2
theorem wset_any (B:Nat) (g:GhW) (S:TreeD) (n:NodeD) (A:Option Addr) (c:Nat) (w:World) (h:WAt w B g S) (hu:NosUp S.nodes S.last) (hn:NodeOk w B n A c) :
  Calls Tryz.prog 162 #[.pointer (some ⟨g.bT,0,none⟩),.agg #[.int .i64 n.no,.int .i64 n.dev,.int .i64 n.kind,.int .i64 n.mode,.int .i64 n.uid,.int .i64 n.gid,.int .i64 n.mtime,.int .i64 n.ctime,.int .i64 n.links,.int .i64 n.up,.string (bs n.data),.slice A n.ents.length c]] w (fun e w'=>e=.returned (.bool (isN S.nodes n.no))∧WAt w' B g (setT S n)∧Only g.list w w'):=by
 refine (tset_any B g.bT g.bM S.nodes S.last n A c w h.2.1 hu hn).mono ?_;rintro e w' ⟨rfl,h2,h3⟩;exact ⟨rfl,WAt.table h h3 h2,h3.mono (by simp)⟩
theorem pmode_any (B:Nat) (g:GhW) (S:TreeD) (cu cg now no mode:Int) (w:World) (h:WAt w B g S) (hd:0<S.devs.length) (hu:NosUp S.nodes S.last) :
  Calls Tryz.prog 118 #[.pointer (some ⟨g.bW,0,none⟩),.agg #[.int .i64 cu,.int .i64 cg],.int .i64 now,.int .i64 no,.int .i64 mode] w (ErrR w B g (modeT S cu now no mode) (modeE S cu no mode)):=by
 have E0:Ext w (w.alloc (.cells #[.int .i64 cu,.int .i64 cg] 27)):=(Ext.refl _).alloc _;have hm:Hid (modeE S cu no mode=if ownE S cu no≠0 then ownE S cu no else if mode<0∨1023<mode∨(getN S.nodes no).kind=3 then 1 else 0):=by show _=_;rfl
 have hoz:Hid (ownE S cu no=0→isN S.nodes no=true∧ownsB cu (getN S.nodes no).uid=true∧ownN S cu no=getN S.nodes no):=ownE_zero;go_enter Tryz.func118,Tryz.ntmps118;go_wp2_with fail;refine (pown_any B g S cu cg no _ (h.ext E0) hd).mono ?_;rintro e w2 ⟨A,c,rfl,ok2,b2⟩;have E2:=E0.trans b2;obtain ⟨m,hmm⟩:∃m,m=ownN S cu no:=⟨_,rfl⟩;obtain ⟨x,hx⟩:∃x,x=ownE S cu no:=⟨_,rfl⟩;rw [←hmm]at ok2 hoz;rw [←hx]at hm hoz;rw [←hmm,←hx];clear hmm hx
 by_cases hx0:x=0
 ·have t0 : (x == 0)=true:=by simpa using hx0
  have t0b:(x != 0)=false:=by simpa using hx0
  obtain ⟨hi,ho,hmg⟩:=hoz.out hx0;have hm2:Hid (modeE S cu no mode=if mode<0∨1023<mode∨m.kind=3 then 1 else 0):=by show _=_;rw[hm.out,if_neg (by simpa using hx0),←hmg]
  have hmno:m.no=no:=by rw[hmg];exact (isN_true hi).2.1
  have HMG:=zH hmg;have HNO:=zH hmno;clear hm hoz hmg hmno hi ho hx0
  by_cases c1:mode<0
  ·have t1:decide (mode<0)=true:=decide_eq_true c1
   have hE:Hid (modeE S cu no mode=1):=by show _=_;rw[hm2.out,if_pos (.inl c1)]
   clear hm2 c1;go_wp2_with fail;go_ret;rw [hE.out];exact errR_same h (E2.alloc _) (by unfold modeT;rw[hE.out];rfl)
  ·have t1:decide (mode<0)=false:=decide_eq_false c1
   by_cases c2:1023<mode
   ·have t2:decide (1023<mode)=true:=decide_eq_true c2
    have hE:Hid (modeE S cu no mode=1):=by show _=_;rw[hm2.out,if_pos (.inr (.inl c2))]
    clear hm2 c1 c2;go_wp2_with fail;go_ret;rw [hE.out];exact errR_same h (E2.alloc _) (by unfold modeT;rw[hE.out];rfl)
   ·have t2:decide (1023<mode)=false:=decide_eq_false c2
    by_cases c3:m.kind=3
    ·have t3:(m.kind == 3)=true:=by simpa using c3
     have hE:Hid (modeE S cu no mode=1):=by show _=_;rw[hm2.out,if_pos (.inr (.inr c3))]
     clear hm2 c1 c2 c3;go_wp2_with fail;go_ret;rw [hE.out];exact errR_same h (E2.alloc _) (by unfold modeT;rw[hE.out];rfl)
    ·have t3:(m.kind == 3)=false:=by simpa using c3
     have hE:Hid (modeE S cu no mode=0):=by show _=_;rw[hm2.out,if_neg (by rintro (g'|g'|g')<;>contradiction)]
     clear hm2 c1 c2 c3;go_upto_region 7 with fail;obtain ⟨n,hn⟩:∃n:NodeD,n={m with mode:=mode,ctime:=now}:=⟨_,rfl⟩;obtain ⟨V,hV⟩:∃V,V=w2.alloc (.cells #[.int .i64 n.no,.int .i64 n.dev,.int .i64 n.kind,.int .i64 n.mode,.int .i64 n.uid,.int .i64 n.gid,.int .i64 n.mtime,.int .i64 n.ctime,.int .i64 n.links,.int .i64 n.up,.string (bs n.data),.slice A n.ents.length c] 66):=⟨_,rfl⟩;have hV2:=hV;rw [hn]at hV2;rw [←hV2];have NV:Has V w2.heap.size (.cells #[.int .i64 n.no,.int .i64 n.dev,.int .i64 n.kind,.int .i64 n.mode,.int .i64 n.uid,.int .i64 n.gid,.int .i64 n.mtime,.int .i64 n.ctime,.int .i64 n.links,.int .i64 n.up,.string (bs n.data),.slice A n.ents.length c] 66):=by rw[hV];exact Has.new _ _
     have EV:Ext w V:=by rw[hV];exact E2.alloc _
     have okV:NodeOk V B n A c:=((ok2.ext (by rw[hV];exact (Ext.refl _).alloc _)).same (by rw[hn]));have HN:=zH hn;clear hV hV2 hn;have KV:=h.ext EV;obtain ⟨_,_,cd,hW,_⟩:=id KV;have v0:V.cell? ⟨g.bW,0,none⟩=some (.pointer (some ⟨g.bT,0,none⟩)):=hW.cell 0;have vz:=hW.lt;obtain ⟨x0,x1,x2,x3,x4,x5,x6,x7,x8,x9,x10,x11⟩:=NV.node12;have zN:=NV.lt;go_still_tail 5,(by kernel_rfl);change wpList _ _ _ _ _ V.drew;go_wp2_with fail;have ED:Ext V V.drew:=(Ext.refl _).drew;refine (wset_any B g S n A c _ (KV.ext ED) hu (okV.ext ED)).mono ?_;rintro e w5 ⟨rfl,K5,O5⟩;go_wp2_with fail;go_ret;rw [hE.out];refine ⟨rfl,?_,Only.pre (EV.trans ED) O5⟩;have:modeT S cu now no mode=setT S n:=by unfold modeT;rw[if_pos hE.out,HN.out,HMG.out]
     rw [this];exact K5
 ·have t0:(x == 0)=false:=by simpa using hx0
  have t0b:(x != 0)=true:=by simpa using hx0
  have hE:Hid (modeE S cu no mode=x):=by show _=_;rw[hm.out,if_pos hx0]
  have hT:Hid (modeT S cu now no mode=S):=by show _=_;unfold modeT;rw[if_neg (by rw[hE.out];exact hx0)]
  clear hm hoz hx0;go_wp2_with fail;go_ret;rw [hE.out];exact errR_same h (E2.alloc _) hT.out
def OnDev (S:TreeD):Prop:=∀n∈S.nodes,hasD S.devs n.dev=true∧n.data.length≤1048576
def moreB (n:NodeD) (dl:Int):Int:=blocksF n.kind dl-blocksF n.kind n.data.length
def fillE (S:TreeD) (no dl:Int):Int:=
 if isN S.nodes no=false then 5 else takeE (devN S.devs (getN S.nodes no).dev).q (moreB (getN S.nodes no) dl) 0
def fillT (S:TreeD) (no:Int) (data:List UInt8):TreeD:=
 if fillE S no data.length=0 then⟨setN S.nodes {getN S.nodes no with data:=data},setQ S.devs (getN S.nodes no).dev (takeQ (devN S.devs (getN S.nodes no).dev).q (moreB (getN S.nodes no) data.length) 0),S.last⟩ else S
theorem app_left {α:Type} (l:List α) (x:α) (k:Nat) (h:k<l.length) (h':k<(l++[x]).length):(l++[x])[k]'h'=l[k]:=List.getElem_append_left h
theorem app_right {α:Type} (l:List α) (x:α) (k:Nat) (h:k=l.length) (h':k<(l++[x]).length):(l++[x])[k]'h'=x:=by subst h;simp
theorem mod_at (l:List DevD) (i:Nat) (f:DevD→DevD) (k:Nat) (h:k<(l.modify i f).length) (h2:k<l.length):(l.modify i f)[k]'h=if i=k then f l[k] else l[k]:=List.getElem_modify ..
theorem mem_getN {S:TreeD} (hu:NosUp S.nodes S.last) {n:NodeD} (h:n∈S.nodes):getN S.nodes n.no=n∧isN S.nodes n.no=true:=by
 obtain ⟨k,hk,rfl⟩:=List.getElem_of_mem h;have e:=getO_at hu hk;exact ⟨by unfold getN;rw[e];rfl,by unfold isN;rw[e];rfl⟩
def DirT (S:TreeD) (no:Int):Prop:=∃m∈S.nodes,m.no=no∧m.kind=1
structure Grown (S:TreeD):Prop where
 good:Good S
 names:NamesOk S
 on:OnDev S
 first:∃m∈S.nodes,m.no=1
 one:∀n∈S.nodes,n.no=1→n.kind=1∧n.dev=1∧n.up=1
 ups:∀n∈S.nodes,n.kind=1→n.up≤n.no∧∃m∈S.nodes,m.no=n.up
 root1:∀h:0<S.devs.length,S.devs[0].root=1
 overs:∀k,(h:k+1<S.devs.length)→S.devs[k+1].over<S.devs[k+1].root∧DirT S S.devs[k+1].over
theorem getN_node {S:TreeD} {no:Int} (h:(getN S.nodes no).kind=1):isN S.nodes no=true∧(getN S.nodes no).no=no∧getN S.nodes no∈S.nodes:=by
 cases hi:isN S.nodes no
 ·rw[(isN_false hi).1]at h;cases h
 ·exact⟨rfl,(isN_true hi).2⟩
theorem Grown.dev1 {S:TreeD} (h:Grown S):rootF S.devs 1=1:=by
 unfold rootF hasD devN;have:=h.good.devs;rw [if_pos (by simp;omega)];simp only[show ((1:Int)-1).toNat=0 by decide];rw [List.getD_eq_getElem?_getD,List.getElem?_eq_getElem this];exact h.root1 this
theorem setQ_at {ds:List DevD} {d:Int} {q:SpaceD} {k:Nat} (hk:k<(setQ ds d q).length) (hk2:k<ds.length):(setQ ds d q)[k].root=ds[k].root∧(setQ ds d q)[k].over=ds[k].over:=by
 have e:=mod_at ds (d-1).toNat (fun x=>{x with q:=q}) k hk hk2;exact ⟨(congrArg DevD.root e).trans (by split<;>rfl),(congrArg DevD.over e).trans (by split<;>rfl)⟩
theorem set_has {ns:List NodeD} {n m:NodeD} (h:m∈ns):(if m.no=n.no then n else m)∈setN ns n:=by
 unfold setN;rw [List.mem_map];refine ⟨m,h,?_⟩
 by_cases e:m.no=n.no
 ·rw[if_pos e,if_pos (by simpa using e)]
 ·rw[if_neg e,if_neg (by simpa using e)]
theorem mem_putF {l:List EntD} {x y:EntD} (h:y∈putF l x):y∈l∨y=x:=by
 unfold putF lessF moreF at h;simp only[List.mem_append,List.mem_singleton,List.mem_filter]at h;rcases h with (h|h)|h
 ·exact .inl h.1
 ·exact .inr h
 ·exact .inl h.1
theorem checkN_short {l:List UInt8} (h:checkN l=0):l≠[]∧l.length≤255:=by
 unfold checkN at h;split at h
 ·cases h
 ·split at h
  ·cases h
  ·rename_i h1 h2
   exact ⟨fun e=>h1 (.inl e),by omega⟩
theorem grown_first {b n:Int} (hl:limitsF b n=true):Grown (rootT emptyT 0 b n):=by
 refine ⟨good_first hl,?_,?_,⟨rootNode emptyT,List.mem_append_right _ (List.mem_singleton.2 rfl),rfl⟩,?_,?_,fun _=>rfl,?_⟩
 ·intro m hm x hx
  simp [rootT,emptyT]at hm;subst hm;cases hx
 ·intro m hm
  simp [rootT,emptyT]at hm;subst hm;exact ⟨rfl,by decide⟩
 ·intro m hm _
  simp [rootT,emptyT]at hm;subst hm;exact⟨rfl,rfl,rfl⟩
 ·intro m hm _
  simp [rootT,emptyT]at hm;subst hm;exact ⟨Int.le_refl _,_,List.mem_append_right _ (List.mem_singleton.2 rfl),rfl⟩
 ·intro k hk
  have:k+1<1:=hk;omega
end Go.Proofs.YtpibnfdolojpcaaGreat
