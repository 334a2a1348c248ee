/- Layer 6 (info): awake, and the law InfoTells. -/
import Derived.Test.YtanaifobmkjpaaaDoorInfY
namespace Go.Proofs.YtanaifobmkjpaaaDoor
open Go.ChangeShapes Go.WideShapes Go.ChangeAt Go.RowKit

theorem wr_good {p t : Ln} {n : Nat} {e : Int} (hp : p ≠ []) (h0 : hasB p 0 = false) (hn : n ≤ 253402300799) (h : WrZ p n t e) : ∃ D : Ln, TxtZ n (bs D) ∧ Vis D ∧ D.length = 19 ∧ t = writeF p D ∧ e = 0 := by
  rcases h with ⟨c, _⟩ | ⟨_, h⟩
  · rcases c with c | c
    · exact absurd c hp
    · rw [h0] at c; cases c
  · rcases h with ⟨c, _⟩ | ⟨m, D, e1, _, hz, hv, hl, rfl, rfl⟩
    · omega
    · obtain rfl : n = m := by omega
      exact ⟨D, hz, hv, hl, rfl, rfl⟩
theorem prs_txtZ {sec : Nat} {t : ByteArray} {n e : Int} (h : TxtZ sec t) (hp : PrsZ t.data.toList n e) : n = sec ∧ e = 0 := by
  obtain ⟨y, m, d, hv, hy0, hy, hn, rfl⟩ := h
  have l1 := days_le y m
  have c1 := hv.2.2.1
  have c3 := hv.2.2.2.2
  rw [bs_list] at hp
  exact sec_of hv hy0 hy hn rfl rfl rfl (prs_txt (by omega) (by omega) (by omega) (by omega) (by omega) (by omega) hp)
theorem inf_good {l p q D : Ln} {n e : Int} {m : Nat} (hp : pathO l = some p) (hd : dayO l = D) (hz : TxtZ m (bs D)) (h : InfZ l q n e) : q = p ∧ n = m ∧ e = 0 := by
  rcases h with ⟨c, _⟩ | ⟨a, f, h1, rfl, h2, rfl⟩
  · rw [hp] at c; cases c
  · rw [hp] at h1
    rw [hd] at h2
    have h3 : PrsZ (bs D).data.toList a f := by rw [bs_list]; exact h2
    obtain ⟨rfl, rfl⟩ := prs_txtZ hz h3
    exact ⟨(Option.some.inj h1).symm, by rw [if_pos rfl], rfl⟩
theorem txt0 : TxtZ 0 (bs (txtL 1970 1 1 0 0 0)) := ⟨1970, 1, 1, by unfold Valid; decide, by decide, by decide, by decide, rfl⟩
theorem ex6_1 : writeF [47, 97, 32, 98] (txtL 1970 1 1 0 0 0) = [91, 84, 114, 97, 115, 104, 32, 73, 110, 102, 111, 93, 10, 80, 97, 116, 104, 61, 47, 97, 37, 50, 48, 98, 10, 68, 101, 108, 101, 116, 105, 111, 110, 68, 97, 116, 101, 61, 49, 57, 55, 48, 45, 48, 49, 45, 48, 49, 84, 48, 48, 58, 48, 48, 58, 48, 48, 10] := by kernel_rfl
theorem ex6_2 : pathO [91, 84, 114, 97, 115, 104, 32, 73, 110, 102, 111, 93, 10, 80, 97, 116, 104, 32, 61, 32, 120, 13, 10] = some [120] ∧ dayO [91, 84, 114, 97, 115, 104, 32, 73, 110, 102, 111, 93, 10, 80, 97, 116, 104, 32, 61, 32, 120, 13, 10] = [] := ⟨by kernel_rfl, by kernel_rfl⟩
theorem ex6_3 : pathO [80, 97, 116, 104, 61, 120, 10] = none := by kernel_rfl
theorem inf_ex2 {p : Ln} {n e : Int} (h : InfZ [91, 84, 114, 97, 115, 104, 32, 73, 110, 102, 111, 93, 10, 80, 97, 116, 104, 32, 61, 32, 120, 13, 10] p n e) : p = [120] ∧ n = -1 ∧ e = 0 := by
  rcases h with ⟨c, _⟩ | ⟨a, f, h1, rfl, h2, rfl⟩
  · rw [ex6_2.1] at c; cases c
  · rw [ex6_2.1] at h1
    rw [ex6_2.2] at h2
    rcases h2 with ⟨_, _, rfl⟩ | ⟨c, _⟩
    · exact ⟨(Option.some.inj h1).symm, by rw [if_neg (by decide)], rfl⟩
    · simp at c
theorem inf_ex3 {p : Ln} {n e : Int} (h : InfZ [80, 97, 116, 104, 61, 120, 10] p n e) : e = 2 := by
  rcases h with ⟨_, _, _, rfl⟩ | ⟨a, f, h1, _⟩
  · rfl
  · rw [ex6_3] at h1; cases h1
set_option maxRecDepth 100000 in
set_option maxHeartbeats 4000000 in
theorem awake06 (w : World) (hM : HasMax w) : Calls Tryd.prog 22 #[] w (Ret w (.bool true)) := by
  have H1 : Hid (∀ w', Calls Tryd.prog 23 #[.string ⟨#[47, 97, 32, 98]⟩, .int .i64 0] w' (fun e w2 => ∃ t : Ln, t = [91, 84, 114, 97, 115, 104, 32, 73, 110, 102, 111, 93, 10, 80, 97, 116, 104, 61, 47, 97, 37, 50, 48, 98, 10, 68, 101, 108, 101, 116, 105, 111, 110, 68, 97, 116, 101, 61, 49, 57, 55, 48, 45, 48, 49, 45, 48, 49, 84, 48, 48, 58, 48, 48, 58, 48, 48, 10] ∧ e = .returned (.tuple #[.string (bs t), .int .i64 0]) ∧ Ext w' w2)) := fun w' =>
    (piwrite_any [47, 97, 32, 98] (0 : Nat) w' (by decide)).mono fun e w2 ⟨t, er, hz, he, hE⟩ => by
      obtain ⟨D, hz2, _, _, ht, rfl⟩ := wr_good (by decide) (by decide) (by decide) hz
      exact ⟨t, by rw [ht, bs_inj (hz2.same txt0), ex6_1], he, hE⟩
  have H2 : Hid (∀ w', Ext w w' → Calls Tryd.prog 25 #[.string ⟨#[91, 84, 114, 97, 115, 104, 32, 73, 110, 102, 111, 93, 10, 80, 97, 116, 104, 32, 61, 32, 120, 13, 10]⟩] w' (fun e w2 => ∃ p : Ln, p = [120] ∧ e = .returned (.tuple #[.string (bs p), .int .i64 (-1), .int .i64 0]) ∧ Ext w' w2)) := fun w' hE =>
    (pparse6_any [91, 84, 114, 97, 115, 104, 32, 73, 110, 102, 111, 93, 10, 80, 97, 116, 104, 32, 61, 32, 120, 13, 10] w' (hM.ext hE) (by decide)).mono fun e w2 ⟨p, n, er, hz, he, hE⟩ => by
      obtain ⟨rfl, rfl, rfl⟩ := inf_ex2 hz
      exact ⟨_, rfl, he, hE⟩
  have H3 : Hid (∀ w', Ext w w' → Calls Tryd.prog 25 #[.string ⟨#[80, 97, 116, 104, 61, 120, 10]⟩] w' (fun e w2 => ∃ (p : Ln) (n : Int), e = .returned (.tuple #[.string (bs p), .int .i64 n, .int .i64 2]) ∧ Ext w' w2)) := fun w' hE =>
    (pparse6_any [80, 97, 116, 104, 61, 120, 10] w' (hM.ext hE) (by decide)).mono fun e w2 ⟨p, n, er, hz, he, hE⟩ => by
      obtain rfl := inf_ex3 hz
      exact ⟨p, n, he, hE⟩
  go_enter Tryd.func22, Tryd.ntmps22
  go_wp2_with fail
  refine (H1.out _).mono ?_
  rintro e w1 ⟨t, ht, rfl, b1⟩
  have q1 : ((bs t).toList == [91, 84, 114, 97, 115, 104, 32, 73, 110, 102, 111, 93, 10, 80, 97, 116, 104, 61, 47, 97, 37, 50, 48, 98, 10, 68, 101, 108, 101, 116, 105, 111, 110, 68, 97, 116, 101, 61, 49, 57, 55, 48, 45, 48, 49, 45, 48, 49, 84, 48, 48, 58, 48, 48, 58, 48, 48, 10]) = true := by rw [ht, bs_toList]; rfl
  clear ht
  go_wp2_with fail
  refine (H2.out _ b1).mono ?_
  rintro e w2 ⟨p, hp, rfl, b2⟩
  have q2 : ((bs p).toList == [120]) = true := by rw [hp, bs_toList]; rfl
  have b12 := b1.trans b2
  clear hp
  go_wp2_with fail
  refine (H3.out _ b12).mono ?_
  rintro e w3 ⟨p3, n3, rfl, b3⟩
  go_wp2_with fail
  go_ret
  exact Ret.mk rfl (b12.trans b3)
set_option maxRecDepth 100000 in
set_option maxHeartbeats 4000000 in
theorem infoTells_any (p s : Ln) (sec : Int) (w : World) (hM : HasMax w) (hp : p.length ≤ 9223372036854775807) (hs : s.length ≤ 9223372036854775807) : Calls Tryd.prog 6 #[.string (bs p), .int .i64 sec, .string (bs s)] w (Ret w (.bool true)) := by
  have HAW := Lib.hid (fun w' (hE : Ext w w') => awake06 w' (hM.ext hE))
  have z1 : ((bs p).size : Int) = p.length := by rw [bs_size]
  have z2 : ((bs s).size : Int) = s.length := by rw [bs_size]
  obtain ⟨np, hnp⟩ : ∃ n, n = p.length := ⟨_, rfl⟩
  obtain ⟨ns, hns⟩ : ∃ n, n = s.length := ⟨_, rfl⟩
  rw [← hnp] at z1
  rw [← hns] at z2
  by_cases h1 : 300 < np
  · have q1 : decide ((300 : Int) < np) = true := decide_eq_true (by omega)
    have q1' : (300 : Int) < np := by omega
    clear hnp hns
    go_enter Tryd.func6, Tryd.ntmps6
    go_wp2_with fail
    refine (HAW.out _ (Ext.refl _)).mono ?_
    rintro e w1 ⟨rfl, b1⟩
    go_wp2_with fail
    go_ret
    exact Ret.mk rfl b1
  · have q1 : ¬ (300 : Int) < np := by omega
    by_cases h2 : 1000 < ns
    · have q2 : (1000 : Int) < ns := by omega
      clear hnp hns
      go_enter Tryd.func6, Tryd.ntmps6
      go_wp2_with fail
      refine (HAW.out _ (Ext.refl _)).mono ?_
      rintro e w1 ⟨rfl, b1⟩
      go_wp2_with fail
      go_ret
      exact Ret.mk rfl b1
    · have q2 : ¬ (1000 : Int) < ns := by omega
      have H1 := Lib.hid (fun w' => piwrite_any p sec w' (by omega))
      have H2 := Lib.hid (fun w' => riwrite_any p sec w' (by omega))
      have H3 := Lib.hid (fun w' (hE : Ext w w') => pparse6_any s w' (hM.ext hE) (by omega))
      have H4 := Lib.hid (fun w' => rparse6_any s w' (by omega))
      clear hnp hns
      go_enter Tryd.func6, Tryd.ntmps6
      go_wp2_with fail
      refine (H1.out _).mono ?_
      rintro e w1 ⟨t, er, hz1, rfl, b1⟩
      have HZ1 := Lib.hid hz1
      clear hz1
      go_wp2_with fail
      refine (H2.out _).mono ?_
      rintro e w2 ⟨t2, er2, hz2, rfl, b2⟩
      obtain ⟨rfl, rfl⟩ := HZ1.out.same hz2
      have b12 := b1.trans b2
      clear hz2
      go_wp2_with fail
      refine (H3.out _ b12).mono ?_
      rintro e w3 ⟨p3, n3, e3, hz3, rfl, b3⟩
      have HZ3 := Lib.hid hz3
      have b13 := b12.trans b3
      clear hz3
      go_wp2_with fail
      refine (H4.out _).mono ?_
      rintro e w4 ⟨p4, n4, e4, hz4, rfl, b4⟩
      obtain ⟨rfl, rfl, rfl⟩ := HZ3.out.same hz4
      have b14 := b13.trans b4
      clear hz4
      go_wp2_with fail
      refine (HAW.out _ b14).mono ?_
      rintro e w5 ⟨rfl, b5⟩
      go_wp2_with fail
      go_ret
      exact Ret.mk rfl (b14.trans b5)
end Go.Proofs.YtanaifobmkjpaaaDoor
