/- Layer 7 (sizes): Parse of the reference. -/
import Derived.Test.YtmppjbimdonfmaaDoorSizY
import Derived.Test.YtmppjbimdonfmaaDoorLinR
namespace Go.Proofs.YtmppjbimdonfmaaDoor
open Go.ChangeShapes Go.WideShapes Go.ChangeAt Go.RowKit

set_option maxRecDepth 100000 in
set_option maxHeartbeats 4000000 in
theorem rparseL_any (l : List UInt8) (w : World) (hlen : l.length ≤ 100000) : Calls Tryd.prog 48 #[.string (bs l)] w (OwnR w (parseL (pcB 10 [] l))) := by
  obtain ⟨L, hL⟩ : ∃ L, L = pcB 10 [] l := ⟨_, rfl⟩
  have hLl : L.length ≤ 100001 := by rw [hL]; have := pcB_len 10 l []; omega
  have hLs : ∀ x ∈ L, x.length ≤ 100000 := fun x hx => by
    rw [hL] at hx
    have := pcB_small 10 l [] x hx
    simp at this; omega
  have hLi := lines_any l w (by omega)
  rw [← hL] at hLi ⊢
  have HLI := Lib.hid hLi
  have HLS := Lib.hid hLs
  clear hLi hLs hL
  go_enter Tryd.func48, Tryd.ntmps48
  go_wp2_with fail
  refine (HLI.out).mono ?_
  rintro e w1 ⟨v, rfl, ho, b1⟩
  obtain ⟨A, cap, rfl, _, _, hat, _⟩ := ho.at_
  have HAT := Lib.hid hat
  obtain ⟨n, hn⟩ : ∃ n, n = L.length := ⟨_, rfl⟩
  rw [← hn] at hLl ⊢
  have HN := Lib.hid hn
  clear hat ho hn
  go_wp2_with fail
  go_loopw [3, 5] (fun u i wr => ∃ k : Nat, k ≤ n ∧ i = .int .i64 k ∧ OwnE wr w1.heap.size u (parseL (L.take k)) ∧ Ext w1 wr) (fun _ i _ => n - (intOf i).toNat)
  case atStart => exact ⟨0, Nat.zero_le _, rfl, World.ownsRow_nil _ _ _ _, Ext.refl _⟩
  case round =>
    obtain ⟨k, hk, rfl, hown, hE⟩ := hrel
    by_cases hlt : (k : Int) < n
    · have hkl : k < L.length := by rw [← HN.out]; omega
      obtain ⟨b, o, rfl, hbb, hcl⟩ := HAT.out.at_ hE k hkl
      have hxs := HLS.out L[k] (List.getElem_mem hkl)
      have hpl : parseL (L.take (k + 1)) = stepF (parseL (L.take k)) L[k] := by rw [List.take_succ_eq_append_getElem hkl, parseL_snoc]
      have hql : (parseL (L.take k)).length ≤ 100001 := by
        have h1 := parseL_len (L.take k)
        have h2 := List.length_take_le k L
        omega
      obtain ⟨x, hx⟩ : ∃ x, x = L[k] := ⟨_, rfl⟩
      rw [← hx] at hcl hxs hpl
      obtain ⟨q, hq⟩ : ∃ q, q = parseL (L.take k) := ⟨_, rfl⟩
      rw [← hq] at hown hpl hql
      obtain ⟨A2, c2, rfl, _, _, hat2⟩ := hown.at_
      have HO := Lib.hid hown
      have HAT2 := Lib.hid hat2
      have HPL := Lib.hid hpl
      clear hx hq hown hat2 hpl
      go_wp2_with fail
      refine (rline_any x _ hxs).mono ?_
      rintro e w2 ⟨⟨ynm, ysz, ytm⟩, bb, rfl, r1, r2, b2⟩
      have R1 := Lib.hid r1
      have R2 := Lib.hid r2
      obtain ⟨V, hV⟩ : ∃ V, V = w2.alloc (.cells #[.int .i64 ysz, .int .i64 ytm, .string (bs ynm)] 48) := ⟨_, rfl⟩
      have hC : Has V w2.heap.size (.cells #[.int .i64 ysz, .int .i64 ytm, .string (bs ynm)] 48) := by rw [hV]; exact Has.new _ _
      have EV : Ext wr V := by rw [hV]; exact b2.alloc _
      obtain ⟨c0, c1, c3⟩ : V.cell? ⟨w2.heap.size, 0, none⟩ = some (.int .i64 ysz) ∧ V.cell? ⟨w2.heap.size, 1, none⟩ = some (.int .i64 ytm) ∧ V.cell? ⟨w2.heap.size, 2, none⟩ = some (.string (bs ynm)) := ⟨hC.cell 0, hC.cell 1, hC.cell 2⟩
      have HV := Lib.hid hV
      clear hV r1 r2
      dsimp only [lineA]
      cases bb with
      | false =>
        have HR : Hid (parseL (L.take (k + 1)) = q) := by show _ = _; rw [HPL.out, stepF_none (R2.out rfl)]
        go_wp2_with (rw [← HV.out])
        go_roundw
        case rel => exact ⟨k + 1, by omega, by go_num, by rw [HR.out]; exact HO.out.keep EV, hE.trans EV⟩
        case measure => simp [intOf]; omega
      | true =>
        have HR : Hid (parseL (L.take (k + 1)) = putF q (ynm, ysz, ytm)) := by show _ = _; rw [HPL.out, stepF_some (R1.out rfl)]
        have hput := lput_any A2 q c2 (ynm, ysz, ytm) V (HAT2.out.ext EV) (by omega)
        have HPUT := Lib.hid hput
        clear hput
        go_wp2_with (rw [← HV.out])
        refine (HPUT.out).mono ?_
        rintro e w3 ⟨v3, rfl, ho3, b3⟩
        have HO3 := Lib.hid (ho3.base (B' := w1.heap.size) (hE.trans EV).size)
        clear ho3
        go_wp2_with fail
        go_roundw
        case rel => exact ⟨k + 1, by omega, by go_num, by rw [HR.out]; exact HO3.out, (hE.trans EV).trans b3⟩
        case measure => simp [intOf]; omega
    · obtain rfl : n = k := by omega
      have hfin : L.take n = L := by rw [HN.out, List.take_length]
      rw [hfin] at hown
      have HO := Lib.hid hown
      clear hown hfin
      go_wp2_with fail
      go_ret
      exact ⟨_, rfl, HO.out.base b1.size, b1.trans hE⟩
end Go.Proofs.YtmppjbimdonfmaaDoor
