/- Layer 6 (info): the reference's Bare. -/
import Derived.Test.YtanaifobmkjpaaaDoorInfP
import Derived.Test.YtanaifobmkjpaaaDoorStr
namespace Go.Proofs.YtanaifobmkjpaaaDoor
open Go.ChangeShapes Go.WideShapes Go.ChangeAt Go.RowKit

theorem beqY {c : UInt8} {k : UInt8} (h : c = k) : ((c.toNat : Int) == (k.toNat : Int)) = true := by rw [h]; simp
theorem beqN {c : UInt8} {k : UInt8} (h : ¬ c = k) : ((c.toNat : Int) == (k.toNat : Int)) = false := by
  rw [beq_eq_false_iff_ne]
  intro e
  exact h (UInt8.toNat_inj.1 (by omega))
set_option maxRecDepth 100000 in
set_option maxHeartbeats 4000000 in
theorem rbare_bl2 (s0 : Ln) (w : World) (hlen : s0.length ≤ 1000000) : Calls Tryd.prog 84 #[.string (bs s0), .bool false] w (Ret w (.string (bs (Lib.trimS s0 bl2)))) := by
  go_enter Tryd.func84, Tryd.ntmps84
  go_wp2_with fail
  go_loopw [0] (fun v wr => ∃ s : Ln, v = .string (bs s) ∧ Hid (Lib.trimLeftS s bl2 = Lib.trimLeftS s0 bl2) ∧ s.length ≤ 1000000 ∧ wr = w) (fun v _ => match v with | .string x => x.size | _ => 0)
  case atStart => exact ⟨s0, rfl, rfl, hlen, rfl⟩
  case round =>
    obtain ⟨s, rfl, ht, hl, hwr⟩ := hrel
    have hwr2 := hwr.symm
    subst hwr2
    have hsz : ((bs s).size : Int) = s.length := by rw [bs_size]
    cases s with
    | nil =>
      obtain ⟨X, hX'⟩ : ∃ X : Ln, X = [] := ⟨_, rfl⟩
      have hX : Hid (X = Lib.trimLeftS s0 bl2) := by show _ = _; rw [hX', ← ht.out]; rfl
      have hXl : X.length ≤ 1000000 := by rw [hX']; simp
      have HX0 := Lib.hid hX'
      go_wp2_with fail
      rw [← HX0.out]
      clear hX'
      go_loopw [0] (fun v wr => ∃ s : Ln, v = .string (bs s) ∧ Hid (Lib.trimRightS s bl2 = Lib.trimRightS X bl2) ∧ s.length ≤ 1000000 ∧ wr = w) (fun v _ => match v with | .string x => x.size | _ => 0)
      case atStart => exact ⟨X, rfl, rfl, hXl, rfl⟩
      case round =>
        obtain ⟨s, rfl, ht, hl, hwr⟩ := hrel
        have hwr2 := hwr.symm
        subst hwr2
        have hsz : ((bs s).size : Int) = s.length := by rw [bs_size]
        rcases List.eq_nil_or_concat s with rfl | ⟨r, c, hs⟩
        · have hres : Hid (Lib.trimS s0 bl2 = []) := by show _ = _; rw [← bareF_eq]; unfold bareF; rw [← hX.out, ← ht.out]; rfl
          go_wp2_with fail
          go_ret
          refine Ret.mk ?_ (Ext.refl _)
          rw [hres.out]
          all_goals rfl
        · rw [List.concat_eq_append] at hs
          have hlr : s.length = r.length + 1 := by rw [hs]; simp
          obtain ⟨n, hn⟩ : ∃ n, n = r.length := ⟨_, rfl⟩
          rw [← hn] at hlr
          have hks : n < (bs s).size := by rw [bs_size]; omega
          have hg : (bs s)[n] = c := by
            rw [bs_get s n hks (by omega)]
            subst hs
            subst hn
            simp
          have hlen1 : (((bs s).size : Int) - 1) = n := by omega
          have hw1 : IntKind.i64.wrap (((bs s).size : Int) - 1) = n := by rw [hlen1]; exact wrap_i64_in (by omega) (by omega)
          have hpos : (0 : Int) < ((bs s).size : Int) := by omega
          have HS := Lib.hid hs
          have HN := Lib.hid hn
          clear hs hn
          by_cases hc32 : c = 32
          · have q32 : ((c.toNat : Int) == 32) = true := beqY hc32
            have hst : Hid (Lib.trimRightS r bl2 = Lib.trimRightS X bl2) := by show _ = _; rw [← ht.out, HS.out, trimR_snoc (by rw [contains2]; simp [hc32])]
            have s1 : (bs s).extract 0 n = bs r := by rw [bs_extract, HS.out, HN.out]; simp
            have hs2 : ∀ w', (Instr.slice 9 (.string (bs s)) none (some (.int .i64 (n : Int))) none).run Tryd.prog w' = .ok (.string (bs r)) w' := fun w' => by
              have h := run_slice_string_to_if (P := Tryd.prog) w' 9 (bs s) .i64 (n : Int) Tryd.underlying9
              rw [h, if_pos (by omega)]
              have : (n : Int).toNat = n := by omega
              rw [this, s1]
            have hzr : ((bs r).size : Int) = n := by rw [bs_size, HN.out]
            go_wp2_with fail
            go_roundw
            case rel => exact ⟨r, rfl, hst, by have := HN.out; omega, by trivial⟩
            case measure => simp only []; omega
          · have q32 : ((c.toNat : Int) == 32) = false := beqN hc32
            by_cases hc9 : c = 9
            · have q9 : ((c.toNat : Int) == 9) = true := beqY hc9
              have hst : Hid (Lib.trimRightS r bl2 = Lib.trimRightS X bl2) := by show _ = _; rw [← ht.out, HS.out, trimR_snoc (by rw [contains2]; simp [hc9])]
              have s1 : (bs s).extract 0 n = bs r := by rw [bs_extract, HS.out, HN.out]; simp
              have hs2 : ∀ w', (Instr.slice 9 (.string (bs s)) none (some (.int .i64 (n : Int))) none).run Tryd.prog w' = .ok (.string (bs r)) w' := fun w' => by
                have h := run_slice_string_to_if (P := Tryd.prog) w' 9 (bs s) .i64 (n : Int) Tryd.underlying9
                rw [h, if_pos (by omega)]
                have : (n : Int).toNat = n := by omega
                rw [this, s1]
              have hzr : ((bs r).size : Int) = n := by rw [bs_size, HN.out]
              go_wp2_with fail
              go_roundw
              case rel => exact ⟨r, rfl, hst, by have := HN.out; omega, by trivial⟩
              case measure => simp only []; omega
            · have q9 : ((c.toNat : Int) == 9) = false := beqN hc9
              have hres : Hid (Lib.trimS s0 bl2 = s) := by show _ = _; rw [← bareF_eq]; unfold bareF; rw [← hX.out, ← ht.out, HS.out, trimR_stop (by rw [contains2]; simp [hc32, hc9])]
              go_wp2_with fail
              go_ret
              refine Ret.mk ?_ (Ext.refl _)
              rw [hres.out]
              all_goals rfl
    | cons c r =>
      obtain ⟨s, hs⟩ : ∃ s, s = c :: r := ⟨_, rfl⟩
      rw [← hs] at ht hl hsz ⊢
      have hlr : s.length = r.length + 1 := by rw [hs]; simp
      have hks : 0 < (bs s).size := by rw [bs_size]; omega
      have hg : (bs s)[0] = c := by
        rw [bs_get s 0 hks (by omega)]
        subst hs
        simp
      have hpos : (0 : Int) < ((bs s).size : Int) := by omega
      have HS := Lib.hid hs
      clear hs
      by_cases hc32 : c = 32
      · have q32 : ((c.toNat : Int) == 32) = true := beqY hc32
        have hst : Hid (Lib.trimLeftS r bl2 = Lib.trimLeftS s0 bl2) := by show _ = _; rw [← ht.out, HS.out, trimL_cons (by rw [contains2]; simp [hc32])]
        have s1 : (bs s).extract 1 (bs s).size = bs r := by rw [bs_extract, bs_size, HS.out]; simp
        have hs2 : ∀ w', (Instr.slice 9 (.string (bs s)) (some (.int .i64 1)) none none).run Tryd.prog w' = .ok (.string (bs r)) w' := fun w' => by
          have h := run_slice_string_from_if (P := Tryd.prog) w' 9 (bs s) .i64 1 Tryd.underlying9
          rw [h, if_pos (by omega)]
          have : (1 : Int).toNat = 1 := by omega
          rw [this, s1]
        have hzr : ((bs r).size : Int) = r.length := by rw [bs_size]
        go_wp2_with fail
        go_roundw
        case rel => exact ⟨r, rfl, hst, by omega, by trivial⟩
        case measure => simp only []; omega
      · have q32 : ((c.toNat : Int) == 32) = false := beqN hc32
        by_cases hc9 : c = 9
        · have q9 : ((c.toNat : Int) == 9) = true := beqY hc9
          have hst : Hid (Lib.trimLeftS r bl2 = Lib.trimLeftS s0 bl2) := by show _ = _; rw [← ht.out, HS.out, trimL_cons (by rw [contains2]; simp [hc9])]
          have s1 : (bs s).extract 1 (bs s).size = bs r := by rw [bs_extract, bs_size, HS.out]; simp
          have hs2 : ∀ w', (Instr.slice 9 (.string (bs s)) (some (.int .i64 1)) none none).run Tryd.prog w' = .ok (.string (bs r)) w' := fun w' => by
            have h := run_slice_string_from_if (P := Tryd.prog) w' 9 (bs s) .i64 1 Tryd.underlying9
            rw [h, if_pos (by omega)]
            have : (1 : Int).toNat = 1 := by omega
            rw [this, s1]
          have hzr : ((bs r).size : Int) = r.length := by rw [bs_size]
          go_wp2_with fail
          go_roundw
          case rel => exact ⟨r, rfl, hst, by omega, by trivial⟩
          case measure => simp only []; omega
        · have q9 : ((c.toNat : Int) == 9) = false := beqN hc9
          obtain ⟨X, hX'⟩ : ∃ X : Ln, X = s := ⟨_, rfl⟩
          have hX : Hid (X = Lib.trimLeftS s0 bl2) := by show _ = _; rw [hX', ← ht.out, HS.out, trimL_stop (by rw [contains2]; simp [hc32, hc9])]
          have hXl : X.length ≤ 1000000 := by rw [hX']; exact hl
          have HX0 := Lib.hid hX'
          clear hX'
          go_wp2_with fail
          rw [← HX0.out]
          clear hg hks hpos hsz hl hlr HS q32 q9 hc32 hc9
          go_loopw [0] (fun v wr => ∃ s : Ln, v = .string (bs s) ∧ Hid (Lib.trimRightS s bl2 = Lib.trimRightS X bl2) ∧ s.length ≤ 1000000 ∧ wr = w) (fun v _ => match v with | .string x => x.size | _ => 0)
          case atStart => exact ⟨X, rfl, rfl, hXl, rfl⟩
          case round =>
            obtain ⟨s, rfl, ht, hl, hwr⟩ := hrel
            have hwr2 := hwr.symm
            subst hwr2
            have hsz : ((bs s).size : Int) = s.length := by rw [bs_size]
            rcases List.eq_nil_or_concat s with rfl | ⟨r, c, hs⟩
            · have hres : Hid (Lib.trimS s0 bl2 = []) := by show _ = _; rw [← bareF_eq]; unfold bareF; rw [← hX.out, ← ht.out]; rfl
              go_wp2_with fail
              go_ret
              refine Ret.mk ?_ (Ext.refl _)
              rw [hres.out]
              all_goals rfl
            · rw [List.concat_eq_append] at hs
              have hlr : s.length = r.length + 1 := by rw [hs]; simp
              obtain ⟨n, hn⟩ : ∃ n, n = r.length := ⟨_, rfl⟩
              rw [← hn] at hlr
              have hks : n < (bs s).size := by rw [bs_size]; omega
              have hg : (bs s)[n] = c := by
                rw [bs_get s n hks (by omega)]
                subst hs
                subst hn
                simp
              have hlen1 : (((bs s).size : Int) - 1) = n := by omega
              have hw1 : IntKind.i64.wrap (((bs s).size : Int) - 1) = n := by rw [hlen1]; exact wrap_i64_in (by omega) (by omega)
              have hpos : (0 : Int) < ((bs s).size : Int) := by omega
              have HS := Lib.hid hs
              have HN := Lib.hid hn
              clear hs hn
              by_cases hc32 : c = 32
              · have q32 : ((c.toNat : Int) == 32) = true := beqY hc32
                have hst : Hid (Lib.trimRightS r bl2 = Lib.trimRightS X bl2) := by show _ = _; rw [← ht.out, HS.out, trimR_snoc (by rw [contains2]; simp [hc32])]
                have s1 : (bs s).extract 0 n = bs r := by rw [bs_extract, HS.out, HN.out]; simp
                have hs2 : ∀ w', (Instr.slice 9 (.string (bs s)) none (some (.int .i64 (n : Int))) none).run Tryd.prog w' = .ok (.string (bs r)) w' := fun w' => by
                  have h := run_slice_string_to_if (P := Tryd.prog) w' 9 (bs s) .i64 (n : Int) Tryd.underlying9
                  rw [h, if_pos (by omega)]
                  have : (n : Int).toNat = n := by omega
                  rw [this, s1]
                have hzr : ((bs r).size : Int) = n := by rw [bs_size, HN.out]
                go_wp2_with fail
                go_roundw
                case rel => exact ⟨r, rfl, hst, by have := HN.out; omega, by trivial⟩
                case measure => simp only []; omega
              · have q32 : ((c.toNat : Int) == 32) = false := beqN hc32
                by_cases hc9 : c = 9
                · have q9 : ((c.toNat : Int) == 9) = true := beqY hc9
                  have hst : Hid (Lib.trimRightS r bl2 = Lib.trimRightS X bl2) := by show _ = _; rw [← ht.out, HS.out, trimR_snoc (by rw [contains2]; simp [hc9])]
                  have s1 : (bs s).extract 0 n = bs r := by rw [bs_extract, HS.out, HN.out]; simp
                  have hs2 : ∀ w', (Instr.slice 9 (.string (bs s)) none (some (.int .i64 (n : Int))) none).run Tryd.prog w' = .ok (.string (bs r)) w' := fun w' => by
                    have h := run_slice_string_to_if (P := Tryd.prog) w' 9 (bs s) .i64 (n : Int) Tryd.underlying9
                    rw [h, if_pos (by omega)]
                    have : (n : Int).toNat = n := by omega
                    rw [this, s1]
                  have hzr : ((bs r).size : Int) = n := by rw [bs_size, HN.out]
                  go_wp2_with fail
                  go_roundw
                  case rel => exact ⟨r, rfl, hst, by have := HN.out; omega, by trivial⟩
                  case measure => simp only []; omega
                · have q9 : ((c.toNat : Int) == 9) = false := beqN hc9
                  have hres : Hid (Lib.trimS s0 bl2 = s) := by show _ = _; rw [← bareF_eq]; unfold bareF; rw [← hX.out, ← ht.out, HS.out, trimR_stop (by rw [contains2]; simp [hc32, hc9])]
                  go_wp2_with fail
                  go_ret
                  refine Ret.mk ?_ (Ext.refl _)
                  rw [hres.out]
                  all_goals rfl
set_option maxRecDepth 100000 in
set_option maxHeartbeats 4000000 in
theorem rbare_bl3 (s0 : Ln) (w : World) (hlen : s0.length ≤ 1000000) : Calls Tryd.prog 84 #[.string (bs s0), .bool true] w (Ret w (.string (bs (Lib.trimS s0 bl3)))) := by
  go_enter Tryd.func84, Tryd.ntmps84
  go_wp2_with fail
  go_loopw [0] (fun v wr => ∃ s : Ln, v = .string (bs s) ∧ Hid (Lib.trimLeftS s bl3 = Lib.trimLeftS s0 bl3) ∧ s.length ≤ 1000000 ∧ wr = w) (fun v _ => match v with | .string x => x.size | _ => 0)
  case atStart => exact ⟨s0, rfl, rfl, hlen, rfl⟩
  case round =>
    obtain ⟨s, rfl, ht, hl, hwr⟩ := hrel
    have hwr2 := hwr.symm
    subst hwr2
    have hsz : ((bs s).size : Int) = s.length := by rw [bs_size]
    cases s with
    | nil =>
      obtain ⟨X, hX'⟩ : ∃ X : Ln, X = [] := ⟨_, rfl⟩
      have hX : Hid (X = Lib.trimLeftS s0 bl3) := by show _ = _; rw [hX', ← ht.out]; rfl
      have hXl : X.length ≤ 1000000 := by rw [hX']; simp
      have HX0 := Lib.hid hX'
      go_wp2_with fail
      rw [← HX0.out]
      clear hX'
      go_loopw [0] (fun v wr => ∃ s : Ln, v = .string (bs s) ∧ Hid (Lib.trimRightS s bl3 = Lib.trimRightS X bl3) ∧ s.length ≤ 1000000 ∧ wr = w) (fun v _ => match v with | .string x => x.size | _ => 0)
      case atStart => exact ⟨X, rfl, rfl, hXl, rfl⟩
      case round =>
        obtain ⟨s, rfl, ht, hl, hwr⟩ := hrel
        have hwr2 := hwr.symm
        subst hwr2
        have hsz : ((bs s).size : Int) = s.length := by rw [bs_size]
        rcases List.eq_nil_or_concat s with rfl | ⟨r, c, hs⟩
        · have hres : Hid (Lib.trimS s0 bl3 = []) := by show _ = _; rw [← bareF_eq]; unfold bareF; rw [← hX.out, ← ht.out]; rfl
          go_wp2_with fail
          go_ret
          refine Ret.mk ?_ (Ext.refl _)
          rw [hres.out]
          all_goals rfl
        · rw [List.concat_eq_append] at hs
          have hlr : s.length = r.length + 1 := by rw [hs]; simp
          obtain ⟨n, hn⟩ : ∃ n, n = r.length := ⟨_, rfl⟩
          rw [← hn] at hlr
          have hks : n < (bs s).size := by rw [bs_size]; omega
          have hg : (bs s)[n] = c := by
            rw [bs_get s n hks (by omega)]
            subst hs
            subst hn
            simp
          have hlen1 : (((bs s).size : Int) - 1) = n := by omega
          have hw1 : IntKind.i64.wrap (((bs s).size : Int) - 1) = n := by rw [hlen1]; exact wrap_i64_in (by omega) (by omega)
          have hpos : (0 : Int) < ((bs s).size : Int) := by omega
          have HS := Lib.hid hs
          have HN := Lib.hid hn
          clear hs hn
          by_cases hc32 : c = 32
          · have q32 : ((c.toNat : Int) == 32) = true := beqY hc32
            have hst : Hid (Lib.trimRightS r bl3 = Lib.trimRightS X bl3) := by show _ = _; rw [← ht.out, HS.out, trimR_snoc (by rw [contains3]; simp [hc32])]
            have s1 : (bs s).extract 0 n = bs r := by rw [bs_extract, HS.out, HN.out]; simp
            have hs2 : ∀ w', (Instr.slice 9 (.string (bs s)) none (some (.int .i64 (n : Int))) none).run Tryd.prog w' = .ok (.string (bs r)) w' := fun w' => by
              have h := run_slice_string_to_if (P := Tryd.prog) w' 9 (bs s) .i64 (n : Int) Tryd.underlying9
              rw [h, if_pos (by omega)]
              have : (n : Int).toNat = n := by omega
              rw [this, s1]
            have hzr : ((bs r).size : Int) = n := by rw [bs_size, HN.out]
            go_wp2_with fail
            go_roundw
            case rel => exact ⟨r, rfl, hst, by have := HN.out; omega, by trivial⟩
            case measure => simp only []; omega
          · have q32 : ((c.toNat : Int) == 32) = false := beqN hc32
            by_cases hc9 : c = 9
            · have q9 : ((c.toNat : Int) == 9) = true := beqY hc9
              have hst : Hid (Lib.trimRightS r bl3 = Lib.trimRightS X bl3) := by show _ = _; rw [← ht.out, HS.out, trimR_snoc (by rw [contains3]; simp [hc9])]
              have s1 : (bs s).extract 0 n = bs r := by rw [bs_extract, HS.out, HN.out]; simp
              have hs2 : ∀ w', (Instr.slice 9 (.string (bs s)) none (some (.int .i64 (n : Int))) none).run Tryd.prog w' = .ok (.string (bs r)) w' := fun w' => by
                have h := run_slice_string_to_if (P := Tryd.prog) w' 9 (bs s) .i64 (n : Int) Tryd.underlying9
                rw [h, if_pos (by omega)]
                have : (n : Int).toNat = n := by omega
                rw [this, s1]
              have hzr : ((bs r).size : Int) = n := by rw [bs_size, HN.out]
              go_wp2_with fail
              go_roundw
              case rel => exact ⟨r, rfl, hst, by have := HN.out; omega, by trivial⟩
              case measure => simp only []; omega
            · have q9 : ((c.toNat : Int) == 9) = false := beqN hc9
              by_cases hc13 : c = 13
              · have q13 : ((c.toNat : Int) == 13) = true := beqY hc13
                have hst : Hid (Lib.trimRightS r bl3 = Lib.trimRightS X bl3) := by show _ = _; rw [← ht.out, HS.out, trimR_snoc (by rw [contains3]; simp [hc13])]
                have s1 : (bs s).extract 0 n = bs r := by rw [bs_extract, HS.out, HN.out]; simp
                have hs2 : ∀ w', (Instr.slice 9 (.string (bs s)) none (some (.int .i64 (n : Int))) none).run Tryd.prog w' = .ok (.string (bs r)) w' := fun w' => by
                  have h := run_slice_string_to_if (P := Tryd.prog) w' 9 (bs s) .i64 (n : Int) Tryd.underlying9
                  rw [h, if_pos (by omega)]
                  have : (n : Int).toNat = n := by omega
                  rw [this, s1]
                have hzr : ((bs r).size : Int) = n := by rw [bs_size, HN.out]
                go_wp2_with fail
                go_roundw
                case rel => exact ⟨r, rfl, hst, by have := HN.out; omega, by trivial⟩
                case measure => simp only []; omega
              · have q13 : ((c.toNat : Int) == 13) = false := beqN hc13
                have hres : Hid (Lib.trimS s0 bl3 = s) := by show _ = _; rw [← bareF_eq]; unfold bareF; rw [← hX.out, ← ht.out, HS.out, trimR_stop (by rw [contains3]; simp [hc32, hc9, hc13])]
                go_wp2_with fail
                go_ret
                refine Ret.mk ?_ (Ext.refl _)
                rw [hres.out]
                all_goals rfl
    | cons c r =>
      obtain ⟨s, hs⟩ : ∃ s, s = c :: r := ⟨_, rfl⟩
      rw [← hs] at ht hl hsz ⊢
      have hlr : s.length = r.length + 1 := by rw [hs]; simp
      have hks : 0 < (bs s).size := by rw [bs_size]; omega
      have hg : (bs s)[0] = c := by
        rw [bs_get s 0 hks (by omega)]
        subst hs
        simp
      have hpos : (0 : Int) < ((bs s).size : Int) := by omega
      have HS := Lib.hid hs
      clear hs
      by_cases hc32 : c = 32
      · have q32 : ((c.toNat : Int) == 32) = true := beqY hc32
        have hst : Hid (Lib.trimLeftS r bl3 = Lib.trimLeftS s0 bl3) := by show _ = _; rw [← ht.out, HS.out, trimL_cons (by rw [contains3]; simp [hc32])]
        have s1 : (bs s).extract 1 (bs s).size = bs r := by rw [bs_extract, bs_size, HS.out]; simp
        have hs2 : ∀ w', (Instr.slice 9 (.string (bs s)) (some (.int .i64 1)) none none).run Tryd.prog w' = .ok (.string (bs r)) w' := fun w' => by
          have h := run_slice_string_from_if (P := Tryd.prog) w' 9 (bs s) .i64 1 Tryd.underlying9
          rw [h, if_pos (by omega)]
          have : (1 : Int).toNat = 1 := by omega
          rw [this, s1]
        have hzr : ((bs r).size : Int) = r.length := by rw [bs_size]
        go_wp2_with fail
        go_roundw
        case rel => exact ⟨r, rfl, hst, by omega, by trivial⟩
        case measure => simp only []; omega
      · have q32 : ((c.toNat : Int) == 32) = false := beqN hc32
        by_cases hc9 : c = 9
        · have q9 : ((c.toNat : Int) == 9) = true := beqY hc9
          have hst : Hid (Lib.trimLeftS r bl3 = Lib.trimLeftS s0 bl3) := by show _ = _; rw [← ht.out, HS.out, trimL_cons (by rw [contains3]; simp [hc9])]
          have s1 : (bs s).extract 1 (bs s).size = bs r := by rw [bs_extract, bs_size, HS.out]; simp
          have hs2 : ∀ w', (Instr.slice 9 (.string (bs s)) (some (.int .i64 1)) none none).run Tryd.prog w' = .ok (.string (bs r)) w' := fun w' => by
            have h := run_slice_string_from_if (P := Tryd.prog) w' 9 (bs s) .i64 1 Tryd.underlying9
            rw [h, if_pos (by omega)]
            have : (1 : Int).toNat = 1 := by omega
            rw [this, s1]
          have hzr : ((bs r).size : Int) = r.length := by rw [bs_size]
          go_wp2_with fail
          go_roundw
          case rel => exact ⟨r, rfl, hst, by omega, by trivial⟩
          case measure => simp only []; omega
        · have q9 : ((c.toNat : Int) == 9) = false := beqN hc9
          by_cases hc13 : c = 13
          · have q13 : ((c.toNat : Int) == 13) = true := beqY hc13
            have hst : Hid (Lib.trimLeftS r bl3 = Lib.trimLeftS s0 bl3) := by show _ = _; rw [← ht.out, HS.out, trimL_cons (by rw [contains3]; simp [hc13])]
            have s1 : (bs s).extract 1 (bs s).size = bs r := by rw [bs_extract, bs_size, HS.out]; simp
            have hs2 : ∀ w', (Instr.slice 9 (.string (bs s)) (some (.int .i64 1)) none none).run Tryd.prog w' = .ok (.string (bs r)) w' := fun w' => by
              have h := run_slice_string_from_if (P := Tryd.prog) w' 9 (bs s) .i64 1 Tryd.underlying9
              rw [h, if_pos (by omega)]
              have : (1 : Int).toNat = 1 := by omega
              rw [this, s1]
            have hzr : ((bs r).size : Int) = r.length := by rw [bs_size]
            go_wp2_with fail
            go_roundw
            case rel => exact ⟨r, rfl, hst, by omega, by trivial⟩
            case measure => simp only []; omega
          · have q13 : ((c.toNat : Int) == 13) = false := beqN hc13
            obtain ⟨X, hX'⟩ : ∃ X : Ln, X = s := ⟨_, rfl⟩
            have hX : Hid (X = Lib.trimLeftS s0 bl3) := by show _ = _; rw [hX', ← ht.out, HS.out, trimL_stop (by rw [contains3]; simp [hc32, hc9, hc13])]
            have hXl : X.length ≤ 1000000 := by rw [hX']; exact hl
            have HX0 := Lib.hid hX'
            clear hX'
            go_wp2_with fail
            rw [← HX0.out]
            clear hg hks hpos hsz hl hlr HS q32 q9 q13 hc32 hc9 hc13
            go_loopw [0] (fun v wr => ∃ s : Ln, v = .string (bs s) ∧ Hid (Lib.trimRightS s bl3 = Lib.trimRightS X bl3) ∧ s.length ≤ 1000000 ∧ wr = w) (fun v _ => match v with | .string x => x.size | _ => 0)
            case atStart => exact ⟨X, rfl, rfl, hXl, rfl⟩
            case round =>
              obtain ⟨s, rfl, ht, hl, hwr⟩ := hrel
              have hwr2 := hwr.symm
              subst hwr2
              have hsz : ((bs s).size : Int) = s.length := by rw [bs_size]
              rcases List.eq_nil_or_concat s with rfl | ⟨r, c, hs⟩
              · have hres : Hid (Lib.trimS s0 bl3 = []) := by show _ = _; rw [← bareF_eq]; unfold bareF; rw [← hX.out, ← ht.out]; rfl
                go_wp2_with fail
                go_ret
                refine Ret.mk ?_ (Ext.refl _)
                rw [hres.out]
                all_goals rfl
              · rw [List.concat_eq_append] at hs
                have hlr : s.length = r.length + 1 := by rw [hs]; simp
                obtain ⟨n, hn⟩ : ∃ n, n = r.length := ⟨_, rfl⟩
                rw [← hn] at hlr
                have hks : n < (bs s).size := by rw [bs_size]; omega
                have hg : (bs s)[n] = c := by
                  rw [bs_get s n hks (by omega)]
                  subst hs
                  subst hn
                  simp
                have hlen1 : (((bs s).size : Int) - 1) = n := by omega
                have hw1 : IntKind.i64.wrap (((bs s).size : Int) - 1) = n := by rw [hlen1]; exact wrap_i64_in (by omega) (by omega)
                have hpos : (0 : Int) < ((bs s).size : Int) := by omega
                have HS := Lib.hid hs
                have HN := Lib.hid hn
                clear hs hn
                by_cases hc32 : c = 32
                · have q32 : ((c.toNat : Int) == 32) = true := beqY hc32
                  have hst : Hid (Lib.trimRightS r bl3 = Lib.trimRightS X bl3) := by show _ = _; rw [← ht.out, HS.out, trimR_snoc (by rw [contains3]; simp [hc32])]
                  have s1 : (bs s).extract 0 n = bs r := by rw [bs_extract, HS.out, HN.out]; simp
                  have hs2 : ∀ w', (Instr.slice 9 (.string (bs s)) none (some (.int .i64 (n : Int))) none).run Tryd.prog w' = .ok (.string (bs r)) w' := fun w' => by
                    have h := run_slice_string_to_if (P := Tryd.prog) w' 9 (bs s) .i64 (n : Int) Tryd.underlying9
                    rw [h, if_pos (by omega)]
                    have : (n : Int).toNat = n := by omega
                    rw [this, s1]
                  have hzr : ((bs r).size : Int) = n := by rw [bs_size, HN.out]
                  go_wp2_with fail
                  go_roundw
                  case rel => exact ⟨r, rfl, hst, by have := HN.out; omega, by trivial⟩
                  case measure => simp only []; omega
                · have q32 : ((c.toNat : Int) == 32) = false := beqN hc32
                  by_cases hc9 : c = 9
                  · have q9 : ((c.toNat : Int) == 9) = true := beqY hc9
                    have hst : Hid (Lib.trimRightS r bl3 = Lib.trimRightS X bl3) := by show _ = _; rw [← ht.out, HS.out, trimR_snoc (by rw [contains3]; simp [hc9])]
                    have s1 : (bs s).extract 0 n = bs r := by rw [bs_extract, HS.out, HN.out]; simp
                    have hs2 : ∀ w', (Instr.slice 9 (.string (bs s)) none (some (.int .i64 (n : Int))) none).run Tryd.prog w' = .ok (.string (bs r)) w' := fun w' => by
                      have h := run_slice_string_to_if (P := Tryd.prog) w' 9 (bs s) .i64 (n : Int) Tryd.underlying9
                      rw [h, if_pos (by omega)]
                      have : (n : Int).toNat = n := by omega
                      rw [this, s1]
                    have hzr : ((bs r).size : Int) = n := by rw [bs_size, HN.out]
                    go_wp2_with fail
                    go_roundw
                    case rel => exact ⟨r, rfl, hst, by have := HN.out; omega, by trivial⟩
                    case measure => simp only []; omega
                  · have q9 : ((c.toNat : Int) == 9) = false := beqN hc9
                    by_cases hc13 : c = 13
                    · have q13 : ((c.toNat : Int) == 13) = true := beqY hc13
                      have hst : Hid (Lib.trimRightS r bl3 = Lib.trimRightS X bl3) := by show _ = _; rw [← ht.out, HS.out, trimR_snoc (by rw [contains3]; simp [hc13])]
                      have s1 : (bs s).extract 0 n = bs r := by rw [bs_extract, HS.out, HN.out]; simp
                      have hs2 : ∀ w', (Instr.slice 9 (.string (bs s)) none (some (.int .i64 (n : Int))) none).run Tryd.prog w' = .ok (.string (bs r)) w' := fun w' => by
                        have h := run_slice_string_to_if (P := Tryd.prog) w' 9 (bs s) .i64 (n : Int) Tryd.underlying9
                        rw [h, if_pos (by omega)]
                        have : (n : Int).toNat = n := by omega
                        rw [this, s1]
                      have hzr : ((bs r).size : Int) = n := by rw [bs_size, HN.out]
                      go_wp2_with fail
                      go_roundw
                      case rel => exact ⟨r, rfl, hst, by have := HN.out; omega, by trivial⟩
                      case measure => simp only []; omega
                    · have q13 : ((c.toNat : Int) == 13) = false := beqN hc13
                      have hres : Hid (Lib.trimS s0 bl3 = s) := by show _ = _; rw [← bareF_eq]; unfold bareF; rw [← hX.out, ← ht.out, HS.out, trimR_stop (by rw [contains3]; simp [hc32, hc9, hc13])]
                      go_wp2_with fail
                      go_ret
                      refine Ret.mk ?_ (Ext.refl _)
                      rw [hres.out]
                      all_goals rfl
theorem rbare_any (s : Ln) (cr : Bool) (w : World) (hlen : s.length ≤ 1000000) : Calls Tryd.prog 84 #[.string (bs s), .bool cr] w (Ret w (.string (bs (Lib.trimS s (setB cr))))) := by
  cases cr
  · exact rbare_bl2 s w hlen
  · exact rbare_bl3 s w hlen
end Go.Proofs.YtanaifobmkjpaaaDoor
