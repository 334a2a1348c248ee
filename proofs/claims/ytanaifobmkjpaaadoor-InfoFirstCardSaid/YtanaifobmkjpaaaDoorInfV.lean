/- Layer 6 (info): the reference's Value. -/
import Derived.Test.YtanaifobmkjpaaaDoorInfB
import Derived.Test.YtanaifobmkjpaaaDoorTxt
namespace Go.Proofs.YtanaifobmkjpaaaDoor
open Go.ChangeShapes Go.WideShapes Go.ChangeAt Go.RowKit

theorem lineV_none {key t : Ln} (h : (61 : UInt8) ∉ t) : lineV key t = none := by unfold lineV; rw [cutB_none.2 h]
theorem lineV_cut {key t : Ln} {k : Nat} (hk : k < t.length) (h : (61 : UInt8) ∉ t.take k) (hc : t[k] = 61) : lineV key t = if Lib.trimS (t.take k) bl2 = key then some (Lib.trimS (t.drop (k + 1)) bl2) else none := by
  have e : t = t.take k ++ 61 :: t.drop (k + 1) := by rw [← hc, ← List.drop_eq_getElem_cons hk, List.take_append_drop]
  unfold lineV
  rw [e, cutB_at _ _ h, ← e]
theorem valueF_at {key : Ln} {L : List Ln} {i : Nat} (h : i < L.length) : valueF key (L.drop i) = (lineV key L[i]).or (valueF key (L.drop (i + 1))) := by rw [List.drop_eq_getElem_cons h, valueF_cons]
def valV (o : Option Ln) : Value := .tuple #[.string (bs (o.getD [])), .bool o.isSome]
set_option maxRecDepth 100000 in
set_option maxHeartbeats 4000000 in
theorem rvalue6_any (A : Option Addr) (cap : Nat) (L : List Ln) (key : Ln) (w : World) (hat : TxtAt w A L) (hn : L.length ≤ 1000000) (hl : ∀ t ∈ L, t.length ≤ 1000000) : Calls Tryd.prog 53 #[.slice A L.length cap, .string (bs key)] w (Ret w (valV (valueF key L))) := by
  obtain ⟨nL, hnL⟩ : ∃ nL, nL = L.length := ⟨_, rfl⟩
  rw [← hnL]
  have hn1 : nL ≤ L.length := by omega
  have hn2 : L.length ≤ nL := by omega
  clear hnL
  have HAT := Lib.hid hat
  have HLL := Lib.hid hl
  clear hat hl
  go_enter Tryd.func53, Tryd.ntmps53
  go_wp2_with fail
  go_loopw [6] (fun v wr => ∃ i : Nat, i ≤ nL ∧ v = .int .i64 i ∧ Hid (valueF key (L.drop i) = valueF key L) ∧ Ext w wr) (fun v _ => nL - (intOf v).toNat)
  case atStart => exact ⟨0, Nat.zero_le _, rfl, rfl, Ext.refl _⟩
  case round =>
    obtain ⟨i, hi, rfl, hv, hE⟩ := hrel
    by_cases hlt : (i : Int) < nL
    · have hil : i < L.length := by omega
      obtain ⟨bl, o, rfl, hbl, -⟩ := HAT.out.at_ (Ext.refl _) i hil
      obtain ⟨t, ht⟩ : ∃ t, t = L[i] := ⟨_, rfl⟩
      have HC : Hid (∀ w', Ext w w' → w'.cell? ⟨bl, o + i, none⟩ = some (.string (bs t))) := fun w' hE' => by
        obtain ⟨b2, o2, e, _, h⟩ := HAT.out.at_ hE' i hil
        injection e with e
        injection e with e1 e2 _
        subst e1; subst e2
        rw [ht]; exact h
      have HVL : Hid (valueF key L = (lineV key t).or (valueF key (L.drop (i + 1)))) := by show _ = _; rw [← hv.out, valueF_at hil, ht]
      have htl : t.length ≤ 1000000 := by rw [ht]; exact HLL.out _ (List.getElem_mem hil)
      have hw1 : IntKind.i64.wrap ((i : Int) + 1) = i + 1 := wrap_i64_in (by omega) (by omega)
      have hsz : ((bs t).size : Int) = t.length := by rw [bs_size]
      obtain ⟨nt, hnt⟩ : ∃ nt, nt = t.length := ⟨_, rfl⟩
      rw [← hnt] at hsz htl
      have ht1 : nt ≤ t.length := by omega
      have ht2 : t.length ≤ nt := by omega
      clear ht hnt
      go_wp2_with fail
      go_loopw [7] (fun v wr2 => ∃ k : Nat, k ≤ nt ∧ v = .int .i64 k ∧ Hid ((61 : UInt8) ∉ t.take k) ∧ Ext w wr2) (fun v _ => nt - (intOf v).toNat)
      case atStart => exact ⟨0, Nat.zero_le _, rfl, by show _ ∉ _; simp, hE⟩
      case round =>
        obtain ⟨k, hk, rfl, hno, hE2⟩ := hrel
        have hcl := HC.out _ hE2
        by_cases hkt : (k : Int) < nt
        · have hkl : k < t.length := by omega
          have hks : k < (bs t).size := by rw [bs_size]; exact hkl
          obtain ⟨c, hc⟩ : ∃ c, c = t[k] := ⟨_, rfl⟩
          have hg : (bs t)[k] = c := by rw [bs_get t k hks hkl]; exact hc.symm
          have hw2 : IntKind.i64.wrap ((k : Int) + 1) = k + 1 := wrap_i64_in (by omega) (by omega)
          have HCC := Lib.hid hc
          clear hc
          by_cases hc61 : c = 61
          · have q61 : ((c.toNat : Int) == 61) = true := beqY hc61
            have hlv := lineV_cut (key := key) hkl hno.out (HCC.out.symm.trans hc61)
            obtain ⟨X1, hX1⟩ : ∃ X1, X1 = Lib.trimS (t.take k) bl2 := ⟨_, rfl⟩
            obtain ⟨X2, hX2⟩ : ∃ X2, X2 = Lib.trimS (t.drop (k + 1)) bl2 := ⟨_, rfl⟩
            rw [← hX1, ← hX2] at hlv
            have s1 : (bs t).extract 0 k = bs (t.take k) := by rw [bs_extract]; simp
            have s2 : (bs t).extract (k + 1) (bs t).size = bs (t.drop (k + 1)) := by rw [bs_extract, bs_size, List.take_of_length_le (by rw [List.length_drop]; omega)]
            have hs1 : ∀ w', (Instr.slice 9 (.string (bs t)) none (some (.int .i64 (k : Int))) none).run Tryd.prog w' = .ok (.string (bs (t.take k))) w' := fun w' => by
              have h := run_slice_string_to_if (P := Tryd.prog) w' 9 (bs t) .i64 (k : Int) Tryd.underlying9
              rw [h, if_pos (by omega)]
              have : (k : Int).toNat = k := by omega
              rw [this, s1]
            have hs2 : ∀ w', (Instr.slice 9 (.string (bs t)) (some (.int .i64 ((k : Int) + 1))) none none).run Tryd.prog w' = .ok (.string (bs (t.drop (k + 1)))) w' := fun w' => by
              have h := run_slice_string_from_if (P := Tryd.prog) w' 9 (bs t) .i64 ((k : Int) + 1) Tryd.underlying9
              rw [h, if_pos (by omega)]
              have : ((k : Int) + 1).toNat = k + 1 := by omega
              rw [this, s2]
            have HB1 := Lib.hid (fun w' => rbare_any (t.take k) false w' (by rw [List.length_take]; omega))
            have HB2 := Lib.hid (fun w' => rbare_any (t.drop (k + 1)) false w' (by rw [List.length_drop]; omega))
            simp only [setB, Bool.false_eq_true, if_false] at HB1 HB2
            rw [← hX1] at HB1
            rw [← hX2] at HB2
            clear hX1 hX2 s1 s2
            by_cases hkey : X1 = key
            · have qk : ((bs X1).toList == (bs key).toList) = true := by rw [hkey]; simp
              rw [if_pos hkey] at hlv
              have HR : Hid (valueF key L = some X2) := by show _ = _; rw [HVL.out, hlv]; rfl
              clear hlv hkey
              go_wp2_with fail
              refine (HB1.out _).mono ?_
              rintro e w3 ⟨rfl, hE3⟩
              have E3 := hE2.trans hE3
              have hcl3 := HC.out _ E3
              go_wp2_with fail
              refine (HB2.out _).mono ?_
              rintro e w4 ⟨rfl, hE4⟩
              go_wp2_with fail
              go_ret2
              exact Ret.mk (by rw [HR.out]; rfl) (E3.trans hE4)
            · have qk : ((bs X1).toList == (bs key).toList) = false := by
                rw [beq_eq_false_iff_ne]
                intro e
                exact hkey (by rw [bs_toList, bs_toList] at e; exact e)
              rw [if_neg hkey] at hlv
              have HR : Hid (valueF key (L.drop (i + 1)) = valueF key L) := by show _ = _; rw [HVL.out, hlv]; rfl
              clear hlv hkey
              go_wp2_with fail
              refine (HB1.out _).mono ?_
              rintro e w3 ⟨rfl, hE3⟩
              have E3 := hE2.trans hE3
              go_wp2_with fail
              go_roundw
              case rel => exact ⟨i + 1, by omega, by go_num, HR, E3⟩
              case measure => simp [intOf]; omega
          · have q61 : ((c.toNat : Int) == 61) = false := beqN hc61
            have hno2 : Hid ((61 : UInt8) ∉ t.take (k + 1)) := by
              show _ ∉ _
              rw [List.take_succ_eq_append_getElem hkl, List.mem_append]
              rintro (h | h)
              · exact hno.out h
              · exact hc61 (by rw [HCC.out]; exact (List.mem_singleton.1 h).symm)
            go_wp2_with fail
            go_roundw
            case rel => exact ⟨k + 1, by omega, by go_num, hno2, hE2⟩
            case measure => simp [intOf]; omega
        · have hkn : k = t.length := by omega
          have HR : Hid (valueF key (L.drop (i + 1)) = valueF key L) := by
            show _ = _
            rw [HVL.out, lineV_none (by have := hno.out; rwa [hkn, List.take_length] at this)]
            rfl
          clear hkn
          go_wp2_with fail
          go_roundw
          case rel => exact ⟨i + 1, by omega, by go_num, HR, hE2⟩
          case measure => simp [intOf]; omega
    · have hin : i = L.length := by omega
      have HR : Hid (valueF key L = none) := by show _ = _; rw [← hv.out, hin, List.drop_length]; rfl
      clear hin
      go_wp2_with fail
      go_ret2
      exact Ret.mk (by rw [HR.out]; rfl) hE
end Go.Proofs.YtanaifobmkjpaaaDoor
