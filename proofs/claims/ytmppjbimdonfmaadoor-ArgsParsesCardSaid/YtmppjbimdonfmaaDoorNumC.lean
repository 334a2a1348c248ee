/- Layer 1 (num), plain: a number's digits are read back, and canonical digits are a number's. No program in sight. -/
import Derived.Test.YtmppjbimdonfmaaDoorNumR
import Derived.Test.YtmppjbimdonfmaaDoorNumW
namespace Go.Proofs.YtmppjbimdonfmaaDoor
open Go.RowKit

theorem low_more (b : Nat) : ∀ f n, n < b ^ f → low b (f + 1) n = low b f n
  | 0, n, h => by simp at h; subst h; simp [low]
  | f + 1, n, h => by
    by_cases h0 : n = 0
    · subst h0; simp [low]
    · have hb : 0 < b := by
        rcases Nat.eq_zero_or_pos b with rfl | hb
        · simp at h
        · exact hb
      have h1 : n / b < b ^ f := by rw [Nat.div_lt_iff_lt_mul hb, ← Nat.pow_succ]; exact h
      rw [low, if_neg h0, low_more b f (n / b) h1, low, if_neg h0]
theorem chr_toNat (d : Nat) (h : d < 10) : (chr d).toNat = 48 + d := by
  have : ∀ k : Fin 10, (chr k.val).toNat = 48 + k.val := by decide
  exact this ⟨d, h⟩
theorem valL_low (b : Nat) (hb : 1 < b) (hb' : b ≤ 10) : ∀ f n, n < b ^ f → valL b ((low b f n).reverse.map chr) = n
  | 0, n, h => by simp at h; subst h; rfl
  | f + 1, n, h => by
    by_cases h0 : n = 0
    · subst h0; simp [low, valL]
    · have h1 : n / b < b ^ f := by rw [Nat.div_lt_iff_lt_mul (by omega), ← Nat.pow_succ]; exact h
      have hm : n % b < b := Nat.mod_lt _ (by omega)
      rw [low, if_neg h0, List.reverse_cons, List.map_append, List.map_cons, List.map_nil, valL_snoc, valL_low b hb hb' f (n / b) h1, chr_toNat _ (by omega)]
      have := Nat.div_add_mod n b
      rw [Nat.mul_comm] at this
      omega
theorem valL_digL (b : Nat) (hb : 1 < b) (hb' : b ≤ 10) (n : Nat) (h : n < b ^ 64) : valL b (digL b n) = n := by
  unfold digL
  split
  · rename_i h0; subst h0; simp [valL]
  · exact valL_low b hb hb' 64 n h
theorem digL_all (b : Nat) (hb : 1 < b) (hb' : b ≤ 10) (n : Nat) : (digL b n).all (digitB b) = true := by
  unfold digL
  split
  · simp [digitB]; omega
  · rw [List.all_eq_true]
    intro c hc
    obtain ⟨d, hd, rfl⟩ := List.mem_map.1 hc
    have := low_lt b (by omega) 64 n d (List.mem_reverse.1 hd)
    unfold digitB
    rw [chr_toNat d (by omega)]
    simp; omega
theorem digL_ne (b n : Nat) : digL b n ≠ [] := by
  unfold digL
  split
  · simp
  · rename_i h
    have := low_pos b n h
    intro h1
    have h2 : ((low b 64 n).reverse.map chr).length = 0 := by rw [h1]; rfl
    rw [List.length_map, List.length_reverse] at h2; omega
/-- No nought ahead. -/
def NoLead (t : List UInt8) : Prop := 1 < t.length → t.head? ≠ some 48
theorem low_last (b : Nat) (hb : 1 < b) : ∀ f n, 0 < n → n < b ^ f → ∃ d, (low b f n).getLast? = some d ∧ d ≠ 0
  | 0, n, h0, h => by simp at h; omega
  | f + 1, n, h0, h => by
    rw [low, if_neg (by omega)]
    by_cases hd : n / b = 0
    · rw [hd, low_zero]
      have : n < b := by rwa [Nat.div_eq_zero_iff_lt (by omega)] at hd
      exact ⟨n % b, rfl, by rw [Nat.mod_eq_of_lt this]; omega⟩
    · have h1 : n / b < b ^ f := by rw [Nat.div_lt_iff_lt_mul (by omega), ← Nat.pow_succ]; exact h
      obtain ⟨d, h2, h3⟩ := low_last b hb f (n / b) (Nat.pos_of_ne_zero hd) h1
      refine ⟨d, ?_, h3⟩
      cases hl : low b f (n / b) with
      | nil => rw [hl] at h2; simp at h2
      | cons x xs => rw [hl] at h2; rw [List.getLast?_cons_cons]; exact h2
theorem digL_lead (b : Nat) (hb : 1 < b) (hb' : b ≤ 10) (n : Nat) (h : n < b ^ 64) : NoLead (digL b n) := by
  intro hl hh
  unfold digL at hl hh
  split at hl
  · simp at hl
  · rename_i h0
    rw [if_neg h0] at hh
    obtain ⟨d, h1, h2⟩ := low_last b hb 64 n (by omega) h
    rw [List.head?_map, List.head?_reverse, h1] at hh
    simp at hh
    have hlt : d < b := low_lt b (by omega) 64 n d (List.mem_of_getLast? h1)
    have := congrArg UInt8.toNat hh
    rw [chr_toNat d (by omega)] at this
    simp at this
    omega
theorem digit_chr {b : Nat} (hb : b ≤ 10) {c : UInt8} (h : digitB b c = true) : c = chr (c.toNat - 48) ∧ c.toNat - 48 < b := by
  unfold digitB at h
  simp at h
  refine ⟨?_, by omega⟩
  apply UInt8.toNat_inj.1
  rw [chr_toNat _ (by omega)]; omega
/-- Digits without a nought ahead are those of their number. -/
theorem canon (b : Nat) (hb : 1 < b) (hb' : b ≤ 10) : ∀ (k : Nat) (t : List UInt8), t.length = k → t ≠ [] → t.all (digitB b) = true → NoLead t → valL b t < b ^ 64 → digL b (valL b t) = t
  | 0, t, hk, h0, _, _, _ => absurd (List.eq_nil_of_length_eq_zero hk) h0
  | k + 1, t, hk, h0, hd, hl, hv => by
    obtain ⟨l, c, rfl⟩ : ∃ l c, t = l ++ [c] := ⟨t.dropLast, t.getLast h0, (List.dropLast_concat_getLast h0).symm⟩
    rw [List.all_append] at hd
    simp only [Bool.and_eq_true] at hd
    obtain ⟨hd1, hd2⟩ := hd
    have hc : digitB b c = true := by simpa using hd2
    obtain ⟨hc1, hc2⟩ := digit_chr hb' hc
    rw [valL_snoc] at hv ⊢
    by_cases hn : l = []
    · subst hn
      rw [valL_nil, Nat.zero_mul, Nat.zero_add, List.nil_append]
      generalize hd : c.toNat - 48 = d at hc1 hc2
      unfold digL
      split
      · rename_i e; rw [hc1, e]; rfl
      · rename_i e
        show (List.map chr (low b (63 + 1) d).reverse) = [c]
        rw [low, if_neg e, Nat.div_eq_of_lt hc2, low_zero, Nat.mod_eq_of_lt hc2, hc1]; rfl
    · have hl2 : NoLead l := by
        intro h1 h2
        apply hl (by simp; omega)
        cases l with
        | nil => exact absurd rfl hn
        | cons x xs => exact h2
      have ih := canon b hb hb' k l (by simp at hk; omega) hn hd1 hl2 (by
        have : valL b l * 1 ≤ valL b l * b := Nat.mul_le_mul_left _ (by omega)
        omega)
      have hp : 0 < valL b l := by
        rcases Nat.eq_zero_or_pos (valL b l) with e | e
        · rw [e] at ih
          have h48 : digL b 0 = [48] := rfl
          rw [h48] at ih
          exfalso
          apply hl (by rw [← ih]; simp)
          rw [← ih]; rfl
        · exact e
      generalize valL b l = v at ih hp hv
      generalize hdd : c.toNat - 48 = d at hc1 hc2 hv
      have hpos : ¬ v * b + d = 0 := by
        have : 0 < v * b := Nat.mul_pos hp (by omega)
        omega
      have hdiv : (v * b + d) / b = v := by rw [Nat.mul_comm, Nat.mul_add_div (by omega), Nat.div_eq_of_lt hc2]; omega
      have hmod : (v * b + d) % b = d := by rw [Nat.mul_comm, Nat.mul_add_mod, Nat.mod_eq_of_lt hc2]
      have hv63 : v < b ^ 63 := by
        have h64 : b ^ 64 = b ^ 63 * b := Nat.pow_succ ..
        have h1 : v * b < b ^ 63 * b := by rw [← h64]; omega
        exact Nat.lt_of_mul_lt_mul_right h1
      have e1 : digL b (v * b + d) = ((low b 63 v).reverse).map chr ++ [chr d] := by
        unfold digL
        rw [if_neg hpos]
        show (List.map chr (low b (63 + 1) (v * b + d)).reverse) = _
        rw [low, if_neg hpos, hdiv, hmod]; simp
      have e2 : digL b v = ((low b 63 v).reverse).map chr := by
        unfold digL
        rw [if_neg (by omega)]
        show (List.map chr (low b (63 + 1) v).reverse) = _
        rw [low_more b 63 v hv63]
      rw [e1, ← e2, ih, ← hc1]
end Go.Proofs.YtmppjbimdonfmaaDoor
