/- Layer 1 (num): Parse of the program and of the reference: both find the number whose digits these are. -/
import Derived.Test.YtmppjbimdonfmaaDoorNumQ
namespace Go.Proofs.YtmppjbimdonfmaaDoor
open Go.ChangeShapes Go.WideShapes Go.ChangeAt Go.RowKit

theorem ten64 {n : Nat} (h : n ≤ 9223372036854775808) : n < 10 ^ 64 := by
  have : (10 : Nat) ^ 20 ≤ 10 ^ 64 := Nat.pow_le_pow_right (by decide) (by decide)
  have h2 : (9223372036854775808 : Nat) < 10 ^ 20 := by decide
  omega
theorem digL_head (b n : Nat) (hb : 1 < b) (hb' : b ≤ 10) : (digL b n).head? ≠ some 45 := by
  intro h
  have ha := digL_all b hb hb' n
  rw [List.all_eq_true] at ha
  have := ha 45 (List.mem_of_head? h)
  simp [digitB] at this
theorem form_neg {m : Int} {t : List UInt8} (h : decI m = 45 :: t) : m < 0 ∧ t = digL 10 (-m).toNat := by
  by_cases h0 : m < 0
  · rw [decI_neg h0] at h
    injection h with h1 h2
    exact ⟨h0, h2.symm⟩
  · rw [decI_pos h0] at h
    exact absurd (by rw [h]; rfl) (digL_head 10 m.toNat (by decide) (by decide))
theorem form_pos {m : Int} {l : List UInt8} (hl : l.head? ≠ some 45) (h : decI m = l) : 0 ≤ m ∧ l = digL 10 m.toNat := by
  by_cases h0 : m < 0
  · rw [decI_neg h0] at h
    subst h
    exact absurd rfl hl
  · rw [decI_pos h0] at h
    exact ⟨by omega, h.symm⟩
theorem digL_inj {a b : Nat} (ha : a ≤ 9223372036854775808) (hb : b ≤ 9223372036854775808) (h : digL 10 a = digL 10 b) : a = b := by
  rw [← valL_digL 10 (by decide) (by decide) a (ten64 ha), h, valL_digL 10 (by decide) (by decide) b (ten64 hb)]
theorem decI_inj {a b : Int} (ha : I64 a) (hb : I64 b) (h : decI a = decI b) : a = b := by
  have := ha.1; have := ha.2; have := hb.1; have := hb.2
  by_cases h0 : b < 0
  · rw [decI_neg h0] at h
    obtain ⟨h1, h2⟩ := form_neg h
    have := digL_inj (by omega) (by omega) h2
    omega
  · rw [decI_pos h0] at h
    obtain ⟨h1, h2⟩ := form_pos (digL_head 10 b.toNat (by decide) (by decide)) h
    have := digL_inj (by omega) (by omega) h2
    omega
theorem low_short (b : Nat) (hb : 0 < b) : ∀ f k n, n < b ^ k → (low b f n).length ≤ k
  | 0, k, n, _ => by simp [low]
  | f + 1, 0, n, h => by simp at h; subst h; rw [low_zero]; simp
  | f + 1, k + 1, n, h => by
    by_cases h0 : n = 0
    · subst h0; rw [low_zero]; simp
    · have h1 : n / b < b ^ k := by rw [Nat.div_lt_iff_lt_mul hb, ← Nat.pow_succ]; exact h
      have := low_short b hb f k (n / b) h1
      rw [low, if_neg h0]; simp; omega
theorem digL_short (n : Nat) (h : n ≤ 9223372036854775808) : (digL 10 n).length ≤ 19 := by
  unfold digL
  split
  · simp
  · rw [List.length_map, List.length_reverse]
    exact low_short 10 (by decide) 64 19 n (by have : (9223372036854775808 : Nat) < 10 ^ 19 := by decide
                                               omega)
theorem digL_pos (n : Nat) : 1 ≤ (digL 10 n).length := by
  have h := digL_ne 10 n
  cases hh : digL 10 n with
  | nil => exact absurd hh h
  | cons a l => simp
theorem decI_short {n : Int} (h : I64 n) : 1 ≤ (decI n).length ∧ (decI n).length ≤ 20 := by
  have := h.1; have := h.2
  by_cases h0 : n < 0
  · rw [decI_neg h0]
    have := digL_short (-n).toNat (by omega)
    simp; omega
  · rw [decI_pos h0]
    have := digL_short n.toNat (by omega)
    have := digL_pos n.toNat
    omega
open Classical in
/-- The value of a text that is the digits of a number, else (0, false). -/
noncomputable def parseV (l : List UInt8) : Value := if h : ∃ n, I64 n ∧ decI n = l then .tuple #[.int .i64 h.choose, .bool true] else .tuple #[.int .i64 0, .bool false]
theorem parseV_yes {l : List UInt8} {n : Int} (hn : I64 n) (h : decI n = l) : parseV l = .tuple #[.int .i64 n, .bool true] := by
  have he : ∃ n, I64 n ∧ decI n = l := ⟨n, hn, h⟩
  unfold parseV
  rw [dif_pos he]
  have := he.choose_spec
  rw [decI_inj this.1 hn (this.2.trans h.symm)]
theorem parseV_no {l : List UInt8} (h : ∀ n, I64 n → decI n ≠ l) : parseV l = .tuple #[.int .i64 0, .bool false] := by
  unfold parseV
  rw [dif_neg]
  rintro ⟨n, h1, h2⟩
  exact h n h1 h2
theorem read_dig {m n : Nat} (h1 : n ≤ m) (h2 : n ≤ 9223372036854775808) : readB 10 m (digL 10 n) = true :=
  readB_done (digL_ne 10 n) (digL_all 10 (by decide) (by decide) n) (by rw [valL_digL 10 (by decide) (by decide) n (ten64 h2)]; exact h1)
theorem neg_no {t : List UInt8} (h : readB 10 9223372036854775808 t = false ∨ ¬ NoLead t ∨ valL 10 t = 0) : ∀ n, I64 n → decI n ≠ 45 :: t := by
  intro n hn hd
  obtain ⟨h1, rfl⟩ := form_neg hd
  have := hn.1
  rcases h with h | h | h
  · rw [read_dig (by omega) (by omega)] at h; cases h
  · exact h (digL_lead 10 (by decide) (by decide) _ (ten64 (by omega)))
  · rw [valL_digL 10 (by decide) (by decide) _ (ten64 (by omega))] at h; omega
theorem pos_no {t : List UInt8} (hl : t.head? ≠ some 45) (h : readB 10 9223372036854775807 t = false ∨ ¬ NoLead t) : ∀ n, I64 n → decI n ≠ t := by
  intro n hn hd
  obtain ⟨h1, rfl⟩ := form_pos hl hd
  have := hn.2
  rcases h with h | h
  · rw [read_dig (by omega) (by omega)] at h; cases h
  · exact h (digL_lead 10 (by decide) (by decide) _ (ten64 (by omega)))
theorem readB_parts {m : Nat} {t : List UInt8} (h : readB 10 m t = true) : t ≠ [] ∧ t.all (digitB 10) = true ∧ valL 10 t ≤ m := by
  unfold readB at h
  rw [Bool.and_eq_true, Bool.and_eq_true, decide_eq_true_eq] at h
  refine ⟨?_, h.1.2, h.2⟩
  rintro rfl
  exact absurd h.1.1 (by decide)
theorem neg_yes {t : List UInt8} (h : readB 10 9223372036854775808 t = true) (h1 : NoLead t) (h2 : valL 10 t ≠ 0) : I64 (-(valL 10 t : Int)) ∧ decI (-(valL 10 t : Int)) = 45 :: t := by
  obtain ⟨a, b, c⟩ := readB_parts h
  refine ⟨⟨by omega, by omega⟩, ?_⟩
  rw [decI_neg (by omega)]
  congr 1
  have e : (- -(valL 10 t : Int)).toNat = valL 10 t := by omega
  rw [e]
  exact canon 10 (by decide) (by decide) _ t rfl a b h1 (ten64 c)
theorem pos_yes {t : List UInt8} (h : readB 10 9223372036854775807 t = true) (h1 : NoLead t) : I64 (valL 10 t : Int) ∧ decI (valL 10 t : Int) = t := by
  obtain ⟨a, b, c⟩ := readB_parts h
  refine ⟨⟨by omega, by omega⟩, ?_⟩
  rw [decI_pos (by omega)]
  have e : ((valL 10 t : Int)).toNat = valL 10 t := by omega
  rw [e]
  exact canon 10 (by decide) (by decide) _ t rfl a b h1 (ten64 (by omega))
theorem read_10i (s : ByteArray) (most : Nat) (m : Int) (hm2 : m = most) (w : World) (hm0 : 10 ≤ most) (hm : most ≤ 9223372036854775808) : Calls Tryd.prog 128 #[.string s, .int .u64 10, .int .u64 m] w (Ret w (readV 10 most s.data.toList)) := by
  subst hm2; exact read_10 s most w hm0 (Lib.hid hm)

/-! ### The program -/
theorem at_zero (t : ByteArray) (h : 0 < t.size) : t.data.toList.head? = some t[0] := by
  have h1 := take_split t 0 h
  rw [List.take_zero, List.nil_append] at h1
  rw [h1]; rfl
theorem lead_short {t : ByteArray} (h : ¬ (1 < t.size)) : NoLead t.data.toList := by
  intro h1; exact absurd h1 (by simpa using h)
theorem lead_not {t : ByteArray} (h : 1 < t.size) (h2 : t[0].toNat ≠ 48) : NoLead t.data.toList := by
  intro h1 h3
  rw [at_zero t (by omega)] at h3
  injection h3 with h3
  rw [h3] at h2; exact h2 rfl
theorem lead_bad {t : ByteArray} (h : 1 < t.size) (h2 : t[0].toNat = 48) : ¬ NoLead t.data.toList := by
  intro h1
  apply h1 (by simpa using h)
  rw [at_zero t (by omega)]
  congr 1
  exact UInt8.toNat_inj.1 h2
set_option maxRecDepth 100000 in
set_option maxHeartbeats 2000000 in
theorem pparse_neg (s t : ByteArray) (w : World) (HL : Hid (s.data.toList = 45 :: t.data.toList)) (HT : Hid ((⟨(Lib.trimPrefix s.data.toList (⟨#[45]⟩ : ByteArray).data.toList).toArray⟩ : ByteArray) = t)) (HP : Hid (Lib.hasPrefix s.data.toList (⟨#[45]⟩ : ByteArray).data.toList = true)) : Calls Tryd.prog 102 #[.string s] w (Ret w (parseV s.data.toList)) := by
  cases hb : readB 10 9223372036854775808 t.data.toList with
  | false =>
    have hv := Lib.hid (readV_no hb)
    have hf := Lib.hid (parseV_no (neg_no (.inl hb)))
    clear hb
    go_enter Tryd.func102, Tryd.ntmps102
    go_wp2_with fail
    refine (Tryd.strings_CutPrefix _ _ _).mono ?_
    rintro e w1 ⟨rfl, rfl⟩
    rw [HT.out, HP.out]
    go_wp2_with fail
    refine (read_10i t 9223372036854775808 _ (by rfl) _ (by decide) (by decide)).mono ?_
    rintro e w1 ⟨rfl, b1⟩
    rw [hv.out]
    go_wp2_with fail
    go_ret2
    exact Ret.mk (by rw [HL.out, hf.out]; rfl) b1
  | true =>
    have hv0 := readV_yes hb
    have hp := (readB_parts hb).2.2
    obtain ⟨V, hV⟩ : ∃ V : Nat, V = valL 10 t.data.toList := ⟨_, rfl⟩
    rw [← hV] at hv0 hp
    have hv := Lib.hid hv0
    clear hv0
    by_cases h1 : 1 < t.size
    · have hcb : (t[0].toNat : Int) < 256 := by have := t[0].toNat_lt; omega
      by_cases h48 : t[0].toNat = 48
      · have hf := Lib.hid (parseV_no (neg_no (.inr (.inl (lead_bad h1 h48)))))
        have h48' : ((t[0].toNat : Int) == 48) = true := beq_iff_eq.2 (by omega)
        clear hb hV h48
        go_enter Tryd.func102, Tryd.ntmps102
        go_wp2_with fail
        refine (Tryd.strings_CutPrefix _ _ _).mono ?_
        rintro e w1 ⟨rfl, rfl⟩
        rw [HT.out, HP.out]
        go_wp2_with fail
        refine (read_10i t 9223372036854775808 _ (by rfl) _ (by decide) (by decide)).mono ?_
        rintro e w1 ⟨rfl, b1⟩
        rw [hv.out]
        go_wp2_with fail
        go_ret2
        exact Ret.mk (by rw [HL.out, hf.out]; rfl) b1
      · have hlead := lead_not h1 h48
        have h48' : ((t[0].toNat : Int) == 48) = false := beq_eq_false_iff_ne.2 (by omega)
        clear h48
        by_cases hz : V = 0
        · have hf := Lib.hid (parseV_no (neg_no (t := t.data.toList) (.inr (.inr (by rw [← hV]; exact hz)))))
          have hz1 : ((V : Int) == 0) = true := beq_iff_eq.2 (by omega)
          clear hb hV hlead hz
          go_enter Tryd.func102, Tryd.ntmps102
          go_wp2_with fail
          refine (Tryd.strings_CutPrefix _ _ _).mono ?_
          rintro e w1 ⟨rfl, rfl⟩
          rw [HT.out, HP.out]
          go_wp2_with fail
          refine (read_10i t 9223372036854775808 _ (by rfl) _ (by decide) (by decide)).mono ?_
          rintro e w1 ⟨rfl, b1⟩
          rw [hv.out]
          go_wp2_with fail
          go_ret2
          exact Ret.mk (by rw [HL.out, hf.out]; rfl) b1
        · have hy := neg_yes hb hlead (by rw [← hV]; exact hz)
          rw [← hV] at hy
          have hf := Lib.hid (parseV_yes hy.1 hy.2)
          have hz1 : ((V : Int) == 0) = false := beq_eq_false_iff_ne.2 (by omega)
          have hw : IntKind.i64.wrap (IntKind.u64.wrap (-(V : Int))) = -(V : Int) := by rw [IntKind.wrap_u64, IntKind.wrap_i64]; omega
          clear hb hV hlead hz hy
          go_enter Tryd.func102, Tryd.ntmps102
          go_wp2_with fail
          refine (Tryd.strings_CutPrefix _ _ _).mono ?_
          rintro e w1 ⟨rfl, rfl⟩
          rw [HT.out, HP.out]
          go_wp2_with fail
          refine (read_10i t 9223372036854775808 _ (by rfl) _ (by decide) (by decide)).mono ?_
          rintro e w1 ⟨rfl, b1⟩
          rw [hv.out]
          go_wp2_with fail
          go_ret2
          exact Ret.mk (by rw [HL.out, hf.out]; rfl) b1
    · have hlead := lead_short h1
      by_cases hz : V = 0
      · have hf := Lib.hid (parseV_no (neg_no (t := t.data.toList) (.inr (.inr (by rw [← hV]; exact hz)))))
        have hz1 : ((V : Int) == 0) = true := beq_iff_eq.2 (by omega)
        clear hb hV hlead hz
        go_enter Tryd.func102, Tryd.ntmps102
        go_wp2_with fail
        refine (Tryd.strings_CutPrefix _ _ _).mono ?_
        rintro e w1 ⟨rfl, rfl⟩
        rw [HT.out, HP.out]
        go_wp2_with fail
        refine (read_10i t 9223372036854775808 _ (by rfl) _ (by decide) (by decide)).mono ?_
        rintro e w1 ⟨rfl, b1⟩
        rw [hv.out]
        go_wp2_with fail
        go_ret2
        exact Ret.mk (by rw [HL.out, hf.out]; rfl) b1
      · have hy := neg_yes hb hlead (by rw [← hV]; exact hz)
        rw [← hV] at hy
        have hf := Lib.hid (parseV_yes hy.1 hy.2)
        have hz1 : ((V : Int) == 0) = false := beq_eq_false_iff_ne.2 (by omega)
        have hw : IntKind.i64.wrap (IntKind.u64.wrap (-(V : Int))) = -(V : Int) := by rw [IntKind.wrap_u64, IntKind.wrap_i64]; omega
        clear hb hV hlead hz hy
        go_enter Tryd.func102, Tryd.ntmps102
        go_wp2_with fail
        refine (Tryd.strings_CutPrefix _ _ _).mono ?_
        rintro e w1 ⟨rfl, rfl⟩
        rw [HT.out, HP.out]
        go_wp2_with fail
        refine (read_10i t 9223372036854775808 _ (by rfl) _ (by decide) (by decide)).mono ?_
        rintro e w1 ⟨rfl, b1⟩
        rw [hv.out]
        go_wp2_with fail
        go_ret2
        exact Ret.mk (by rw [HL.out, hf.out]; rfl) b1
set_option maxRecDepth 100000 in
set_option maxHeartbeats 2000000 in
theorem pparse_pos (s t : ByteArray) (w : World) (HL : Hid (s.data.toList = t.data.toList)) (HT : Hid ((⟨(Lib.trimPrefix s.data.toList (⟨#[45]⟩ : ByteArray).data.toList).toArray⟩ : ByteArray) = t)) (HP : Hid (Lib.hasPrefix s.data.toList (⟨#[45]⟩ : ByteArray).data.toList = false)) (H45 : Hid (t.data.toList.head? ≠ some 45)) : Calls Tryd.prog 102 #[.string s] w (Ret w (parseV s.data.toList)) := by
  cases hb : readB 10 9223372036854775807 t.data.toList with
  | false =>
    have hv := Lib.hid (readV_no hb)
    have hf := Lib.hid (parseV_no (pos_no H45.out (.inl hb)))
    clear hb
    go_enter Tryd.func102, Tryd.ntmps102
    go_wp2_with fail
    refine (Tryd.strings_CutPrefix _ _ _).mono ?_
    rintro e w1 ⟨rfl, rfl⟩
    rw [HT.out, HP.out]
    go_wp2_with fail
    refine (read_10i t 9223372036854775807 _ (by rfl) _ (by decide) (by decide)).mono ?_
    rintro e w1 ⟨rfl, b1⟩
    rw [hv.out]
    go_wp2_with fail
    go_ret2
    exact Ret.mk (by rw [HL.out, hf.out]; rfl) b1
  | true =>
    have hv0 := readV_yes hb
    have hp := (readB_parts hb).2.2
    obtain ⟨V, hV⟩ : ∃ V : Nat, V = valL 10 t.data.toList := ⟨_, rfl⟩
    rw [← hV] at hv0 hp
    have hv := Lib.hid hv0
    clear hv0
    by_cases h1 : 1 < t.size
    · have hcb : (t[0].toNat : Int) < 256 := by have := t[0].toNat_lt; omega
      by_cases h48 : t[0].toNat = 48
      · have hf := Lib.hid (parseV_no (pos_no H45.out (.inr (lead_bad h1 h48))))
        have h48' : ((t[0].toNat : Int) == 48) = true := beq_iff_eq.2 (by omega)
        clear hb hV h48
        go_enter Tryd.func102, Tryd.ntmps102
        go_wp2_with fail
        refine (Tryd.strings_CutPrefix _ _ _).mono ?_
        rintro e w1 ⟨rfl, rfl⟩
        rw [HT.out, HP.out]
        go_wp2_with fail
        refine (read_10i t 9223372036854775807 _ (by rfl) _ (by decide) (by decide)).mono ?_
        rintro e w1 ⟨rfl, b1⟩
        rw [hv.out]
        go_wp2_with fail
        go_ret2
        exact Ret.mk (by rw [HL.out, hf.out]; rfl) b1
      · have hlead := lead_not h1 h48
        have h48' : ((t[0].toNat : Int) == 48) = false := beq_eq_false_iff_ne.2 (by omega)
        clear h48
        have hy := pos_yes hb hlead
        rw [← hV] at hy
        have hf := Lib.hid (parseV_yes hy.1 hy.2)
        clear hb hV hlead hy
        go_enter Tryd.func102, Tryd.ntmps102
        go_wp2_with fail
        refine (Tryd.strings_CutPrefix _ _ _).mono ?_
        rintro e w1 ⟨rfl, rfl⟩
        rw [HT.out, HP.out]
        go_wp2_with fail
        refine (read_10i t 9223372036854775807 _ (by rfl) _ (by decide) (by decide)).mono ?_
        rintro e w1 ⟨rfl, b1⟩
        rw [hv.out]
        go_wp2_with fail
        go_ret2
        exact Ret.mk (by rw [HL.out, hf.out]; rfl) b1
    · have hlead := lead_short h1
      have hy := pos_yes hb hlead
      rw [← hV] at hy
      have hf := Lib.hid (parseV_yes hy.1 hy.2)
      clear hb hV hlead hy
      go_enter Tryd.func102, Tryd.ntmps102
      go_wp2_with fail
      refine (Tryd.strings_CutPrefix _ _ _).mono ?_
      rintro e w1 ⟨rfl, rfl⟩
      rw [HT.out, HP.out]
      go_wp2_with fail
      refine (read_10i t 9223372036854775807 _ (by rfl) _ (by decide) (by decide)).mono ?_
      rintro e w1 ⟨rfl, b1⟩
      rw [hv.out]
      go_wp2_with fail
      go_ret2
      exact Ret.mk (by rw [HL.out, hf.out]; rfl) b1

theorem pparse_any (s : ByteArray) (w : World) : Calls Tryd.prog 102 #[.string s] w (Ret w (parseV s.data.toList)) := by
  have hm : (⟨#[45]⟩ : ByteArray).data.toList = [45] := rfl
  cases hp : Lib.hasPrefix s.data.toList [45] with
  | true =>
    obtain ⟨t, ht⟩ : ∃ t, s.data.toList = 45 :: t := by
      unfold Lib.hasPrefix at hp
      cases hs : s.data.toList with
      | nil => rw [hs] at hp; cases hp
      | cons c t =>
        rw [hs] at hp
        simp [List.isPrefixOf] at hp
        exact ⟨t, by rw [← hp]⟩
    have hl : (bs t).data.toList = t := bs_list t
    exact pparse_neg s (bs t) w (by show _ = _; rw [hl, ht]) (by show _ = _; rw [hm]; unfold Lib.trimPrefix; rw [hp, ht]; rfl) (by show _ = _; rw [hm, hp])
  | false =>
    refine pparse_pos s s w rfl (by show _ = _; rw [hm]; unfold Lib.trimPrefix; rw [hp]; rfl) (by show _ = _; rw [hm, hp]) ?_
    intro h
    unfold Lib.hasPrefix at hp
    cases hs : s.data.toList with
    | nil => rw [hs] at h; cases h
    | cons c t =>
      rw [hs] at hp h
      injection h with h
      subst h
      simp [List.isPrefixOf] at hp

/-! ### The reference -/
theorem all_drop {s : ByteArray} {a k : Nat} (h : k < s.size) (ha : a ≤ k) (hd : digitB 10 s[k] = false) : (s.data.toList.drop a).all (digitB 10) = false := by
  have h1 := congrArg (List.drop a) (take_split s k h)
  rw [List.append_assoc, List.drop_append_of_le_length (by rw [List.length_take]; simp; omega)] at h1
  rw [h1]
  rw [List.all_eq_false]; exact ⟨s[k], by simp, by simp [hd]⟩
theorem drop_snoc {s : ByteArray} {a k : Nat} (h : k < s.size) (ha : a ≤ k) : (s.data.toList.take (k + 1)).drop a = (s.data.toList.take k).drop a ++ [s[k]] := by
  rw [take_snoc s k h, List.drop_append_of_le_length (by rw [List.length_take]; simp; omega)]
/-- What the text must be if it is a number's. -/
theorem ref_form {l : List UInt8} {m : Int} {a : Nat} (hm : I64 m) (h : decI m = l) (ha : (a = 1 ∧ l.head? = some 45) ∨ (a = 0 ∧ l.head? ≠ some 45)) : (l.drop a).all (digitB 10) = true ∧ m = (if a = 1 then -(valL 10 (l.drop a) : Int) else (valL 10 (l.drop a) : Int)) := by
  have := hm.1; have := hm.2
  rcases ha with ⟨rfl, hh⟩ | ⟨rfl, hh⟩
  · cases l with
    | nil => cases hh
    | cons c t =>
      injection hh with hh
      subst hh
      obtain ⟨h1, rfl⟩ := form_neg h
      rw [List.drop_succ_cons, List.drop_zero]
      exact ⟨digL_all 10 (by decide) (by decide) _, by rw [valL_digL 10 (by decide) (by decide) _ (ten64 (by omega)), if_pos rfl]; omega⟩
  · obtain ⟨h1, rfl⟩ := form_pos hh h
    rw [List.drop_zero]
    exact ⟨digL_all 10 (by decide) (by decide) _, by rw [valL_digL 10 (by decide) (by decide) _ (ten64 (by omega)), if_neg (by decide)]; omega⟩
set_option maxRecDepth 100000 in
set_option maxHeartbeats 4000000 in
theorem rparse_neg (s : ByteArray) (w : World) (h1 : 0 < s.size) (h20 : s.size ≤ 20) (H45 : Hid (s.data.toList.head? = some 45)) (h45 : ((s[0].toNat : Int) == 45) = true) : Calls Tryd.prog 103 #[.string s] w (Ret w (parseV s.data.toList)) := by
  have hc0 : (s[0].toNat : Int) < 256 := by have := s[0].toNat_lt; omega
  go_enter Tryd.func103, Tryd.ntmps103
  go_wp2_with fail
  go_loop [5, 6] (fun n i => ∃ (k : Nat) (v : Int), 1 ≤ k ∧ k ≤ s.size ∧ i = .int .i64 k ∧ n = .int .i64 v ∧ -9223372036854775808 ≤ v ∧ v ≤ 9223372036854775807 ∧ Hid (v = IntKind.i64.wrap (-(valL 10 ((s.data.toList.take k).drop 1) : Int))) ∧ Hid (((s.data.toList.take k).drop 1).all (digitB 10) = true)) (fun _ i => s.size - (intOf i).toNat)
  case atStart => exact ⟨1, 0, by omega, by omega, rfl, rfl, by omega, by omega, by show _ = _; rw [List.drop_take_self]; rfl, by show _ = _; rw [List.drop_take_self]; rfl⟩
  case round =>
    obtain ⟨k, v, hak, hk, rfl, rfl, hv1, hv2, hv, had⟩ := hrel
    by_cases hlt : k < s.size
    · have hcb : (s[k].toNat : Int) < 256 := by have := s[k].toNat_lt; omega
      by_cases h48 : s[k].toNat < 48
      · have hf := Lib.hid (parseV_no (l := s.data.toList) (fun m hm hd => by have := (ref_form (a := 1) hm hd (.inl ⟨rfl, H45.out⟩)).1; rw [all_drop hlt hak (by unfold digitB; simp; omega)] at this; cases this))
        have h48' : (s[k].toNat : Int) < 48 := by omega
        go_wp2_with fail
        go_ret2
        exact Ret.mk (by rw [hf.out]; rfl) (Ext.refl _)
      · have h48' : ¬ ((s[k].toNat : Int) < 48) := by omega
        by_cases h57 : 57 < s[k].toNat
        · have hf := Lib.hid (parseV_no (l := s.data.toList) (fun m hm hd => by have := (ref_form (a := 1) hm hd (.inl ⟨rfl, H45.out⟩)).1; rw [all_drop hlt hak (by unfold digitB; simp; omega)] at this; cases this))
          have h57' : (57 : Int) < (s[k].toNat : Int) := by omega
          go_wp2_with fail
          go_ret2
          exact Ret.mk (by rw [hf.out]; rfl) (Ext.refl _)
        · have h57' : ¬ ((57 : Int) < (s[k].toNat : Int)) := by omega
          obtain ⟨p, hp⟩ : ∃ p, IntKind.i64.wrap (v * 10) = p := ⟨_, rfl⟩
          have hpr : -9223372036854775808 ≤ p ∧ p ≤ 9223372036854775807 := by rw [← hp, IntKind.wrap_i64]; omega
          obtain ⟨q, hq⟩ : ∃ q, IntKind.i64.wrap (p - ((s[k].toNat : Int) - 48)) = q := ⟨_, rfl⟩
          have hqr : -9223372036854775808 ≤ q ∧ q ≤ 9223372036854775807 := by rw [← hq, IntKind.wrap_i64]; omega
          have hval : Hid (q = IntKind.i64.wrap (-(valL 10 ((s.data.toList.take (k + 1)).drop 1) : Int))) := by
            show _ = _
            rw [drop_snoc hlt hak, valL_snoc]
            have e := hv.out
            generalize valL 10 ((s.data.toList.take k).drop 1) = X at e ⊢
            rw [← hq, ← hp, e]
            simp only [IntKind.wrap_i64]
            omega
          have hall : Hid (((s.data.toList.take (k + 1)).drop 1).all (digitB 10) = true) := by
            show _ = _
            rw [drop_snoc hlt hak, List.all_append, had.out]
            unfold digitB
            simp; omega
          go_wp2_with fail
          go_round
          case rel => exact ⟨k + 1, q, by omega, by omega, by go_num, by go_num, hqr.1, hqr.2, hval, hall⟩
          case measure => simp [intOf]; omega
    · obtain rfl : k = s.size := by omega
      have ht : s.data.toList.take s.size = s.data.toList := List.take_of_length_le (by simp)
      obtain ⟨n, hn⟩ : ∃ n : Int, v = n := ⟨_, rfl⟩
      have hn64 : I64 n := by rw [← hn]; exact ⟨hv1, hv2⟩
      have hunique : Hid (∀ m, I64 m → decI m = s.data.toList → m = n) := by
        intro m hm hd
        have hfm := (ref_form (a := 1) hm hd (.inl ⟨rfl, H45.out⟩)).2
        have e := hv.out
        rw [ht] at e
        rw [← hn]
        have := hm.1; have := hm.2
        generalize valL 10 (s.data.toList.drop 1) = X at e hfm
        rw [if_pos rfl] at hfm; rw [IntKind.wrap_i64] at e; omega
      by_cases hd : decI n = s.data.toList
      · have hf := Lib.hid (parseV_yes hn64 hd)
        have HD : Hid (bs (decI n) = s) := by show _ = _; rw [hd]; exact bs_self s
        have H64 := Lib.hid hn64
        subst hn; clear ht hd hn64
        go_wp2_with fail
        refine (rdec_any _ _ H64.out).mono ?_
        rintro e w1 ⟨rfl, b1⟩
        rw [HD.out]
        go_wp2_with fail
        go_ret2
        exact Ret.mk (by rw [hf.out]; rfl) b1
      · have hf := Lib.hid (parseV_no (l := s.data.toList) (fun m hm h => hd (by rw [← hunique.out m hm h]; exact h)))
        have HD : ((bs (decI n)).toList == s.toList) = false := by
          rw [ByteArray.toList_eq, ByteArray.toList_eq, bs_list]; exact beq_eq_false_iff_ne.2 hd
        have H64 := Lib.hid hn64
        subst hn; clear ht hd hn64
        go_wp2_with fail
        refine (rdec_any _ _ H64.out).mono ?_
        rintro e w1 ⟨rfl, b1⟩
        go_wp2_with fail
        go_ret2
        exact Ret.mk (by rw [hf.out]; rfl) b1
set_option maxRecDepth 100000 in
set_option maxHeartbeats 4000000 in
theorem rparse_pos (s : ByteArray) (w : World) (h1 : 0 < s.size) (h20 : s.size ≤ 20) (H45 : Hid (s.data.toList.head? ≠ some 45)) (h45 : ((s[0].toNat : Int) == 45) = false) : Calls Tryd.prog 103 #[.string s] w (Ret w (parseV s.data.toList)) := by
  have hc0 : (s[0].toNat : Int) < 256 := by have := s[0].toNat_lt; omega
  go_enter Tryd.func103, Tryd.ntmps103
  go_wp2_with fail
  go_loop [5, 6] (fun n i => ∃ (k : Nat) (v : Int), 0 ≤ k ∧ k ≤ s.size ∧ i = .int .i64 k ∧ n = .int .i64 v ∧ -9223372036854775808 ≤ v ∧ v ≤ 9223372036854775807 ∧ Hid (v = IntKind.i64.wrap (-(valL 10 ((s.data.toList.take k).drop 0) : Int))) ∧ Hid (((s.data.toList.take k).drop 0).all (digitB 10) = true)) (fun _ i => s.size - (intOf i).toNat)
  case atStart => exact ⟨0, 0, by omega, by omega, rfl, rfl, by omega, by omega, by show _ = _; rfl, by show _ = _; rfl⟩
  case round =>
    obtain ⟨k, v, hak, hk, rfl, rfl, hv1, hv2, hv, had⟩ := hrel
    by_cases hlt : k < s.size
    · have hcb : (s[k].toNat : Int) < 256 := by have := s[k].toNat_lt; omega
      by_cases h48 : s[k].toNat < 48
      · have hf := Lib.hid (parseV_no (l := s.data.toList) (fun m hm hd => by have := (ref_form (a := 0) hm hd (.inr ⟨rfl, H45.out⟩)).1; rw [all_drop hlt hak (by unfold digitB; simp; omega)] at this; cases this))
        have h48' : (s[k].toNat : Int) < 48 := by omega
        go_wp2_with fail
        go_ret2
        exact Ret.mk (by rw [hf.out]; rfl) (Ext.refl _)
      · have h48' : ¬ ((s[k].toNat : Int) < 48) := by omega
        by_cases h57 : 57 < s[k].toNat
        · have hf := Lib.hid (parseV_no (l := s.data.toList) (fun m hm hd => by have := (ref_form (a := 0) hm hd (.inr ⟨rfl, H45.out⟩)).1; rw [all_drop hlt hak (by unfold digitB; simp; omega)] at this; cases this))
          have h57' : (57 : Int) < (s[k].toNat : Int) := by omega
          go_wp2_with fail
          go_ret2
          exact Ret.mk (by rw [hf.out]; rfl) (Ext.refl _)
        · have h57' : ¬ ((57 : Int) < (s[k].toNat : Int)) := by omega
          obtain ⟨p, hp⟩ : ∃ p, IntKind.i64.wrap (v * 10) = p := ⟨_, rfl⟩
          have hpr : -9223372036854775808 ≤ p ∧ p ≤ 9223372036854775807 := by rw [← hp, IntKind.wrap_i64]; omega
          obtain ⟨q, hq⟩ : ∃ q, IntKind.i64.wrap (p - ((s[k].toNat : Int) - 48)) = q := ⟨_, rfl⟩
          have hqr : -9223372036854775808 ≤ q ∧ q ≤ 9223372036854775807 := by rw [← hq, IntKind.wrap_i64]; omega
          have hval : Hid (q = IntKind.i64.wrap (-(valL 10 ((s.data.toList.take (k + 1)).drop 0) : Int))) := by
            show _ = _
            rw [drop_snoc hlt hak, valL_snoc]
            have e := hv.out
            generalize valL 10 ((s.data.toList.take k).drop 0) = X at e ⊢
            rw [← hq, ← hp, e]
            simp only [IntKind.wrap_i64]
            omega
          have hall : Hid (((s.data.toList.take (k + 1)).drop 0).all (digitB 10) = true) := by
            show _ = _
            rw [drop_snoc hlt hak, List.all_append, had.out]
            unfold digitB
            simp; omega
          go_wp2_with fail
          go_round
          case rel => exact ⟨k + 1, q, by omega, by omega, by go_num, by go_num, hqr.1, hqr.2, hval, hall⟩
          case measure => simp [intOf]; omega
    · obtain rfl : k = s.size := by omega
      have ht : s.data.toList.take s.size = s.data.toList := List.take_of_length_le (by simp)
      obtain ⟨n, hn⟩ : ∃ n : Int, IntKind.i64.wrap (-v) = n := ⟨_, rfl⟩
      have hn64 : I64 n := by rw [← hn]; exact ⟨by rw [IntKind.wrap_i64]; omega, by rw [IntKind.wrap_i64]; omega⟩
      have hunique : Hid (∀ m, I64 m → decI m = s.data.toList → m = n) := by
        intro m hm hd
        have hfm := (ref_form (a := 0) hm hd (.inr ⟨rfl, H45.out⟩)).2
        have e := hv.out
        rw [ht] at e
        rw [← hn]
        have := hm.1; have := hm.2
        generalize valL 10 (s.data.toList.drop 0) = X at e hfm
        rw [if_neg (by decide)] at hfm; rw [IntKind.wrap_i64] at e ⊢; omega
      by_cases hd : decI n = s.data.toList
      · have hf := Lib.hid (parseV_yes hn64 hd)
        have HD : Hid (bs (decI n) = s) := by show _ = _; rw [hd]; exact bs_self s
        have H64 := Lib.hid hn64
        clear ht hd hn64
        go_wp2_with fail
        refine (rdec_any _ _ H64.out).mono ?_
        rintro e w1 ⟨rfl, b1⟩
        rw [HD.out]
        go_wp2_with fail
        go_ret2
        exact Ret.mk (by rw [hf.out]; rfl) b1
      · have hf := Lib.hid (parseV_no (l := s.data.toList) (fun m hm h => hd (by rw [← hunique.out m hm h]; exact h)))
        have HD : ((bs (decI n)).toList == s.toList) = false := by
          rw [ByteArray.toList_eq, ByteArray.toList_eq, bs_list]; exact beq_eq_false_iff_ne.2 hd
        have H64 := Lib.hid hn64
        clear ht hd hn64
        go_wp2_with fail
        refine (rdec_any _ _ H64.out).mono ?_
        rintro e w1 ⟨rfl, b1⟩
        go_wp2_with fail
        go_ret2
        exact Ret.mk (by rw [hf.out]; rfl) b1

theorem rparse_any (s : ByteArray) (w : World) : Calls Tryd.prog 103 #[.string s] w (Ret w (parseV s.data.toList)) := by
  have hsz : s.data.toList.length = s.size := by simp
  by_cases h1 : 0 < s.size
  · by_cases h20 : s.size ≤ 20
    · by_cases h45 : s[0].toNat = 45
      · exact rparse_neg s w h1 h20 (by show _ = _; rw [at_zero s h1]; congr 1; exact UInt8.toNat_inj.1 h45) (beq_iff_eq.2 (by omega))
      · exact rparse_pos s w h1 h20 (by rw [at_zero s h1]; intro h; injection h with h; rw [h] at h45; exact h45 rfl) (beq_eq_false_iff_ne.2 (by omega))
    · have hf := Lib.hid (parseV_no (l := s.data.toList) (fun m hm h => by have := (decI_short hm).2; rw [h] at this; omega))
      clear hsz
      go_enter Tryd.func103, Tryd.ntmps103
      go_wp2_with fail
      go_ret2
      exact Ret.mk (by rw [hf.out]; rfl) (Ext.refl _)
  · have hf := Lib.hid (parseV_no (l := s.data.toList) (fun m hm h => by have := (decI_short hm).1; rw [h] at this; omega))
    clear hsz
    go_enter Tryd.func103, Tryd.ntmps103
    go_wp2_with fail
    go_ret2
    exact Ret.mk (by rw [hf.out]; rfl) (Ext.refl _)
end Go.Proofs.YtmppjbimdonfmaaDoor
