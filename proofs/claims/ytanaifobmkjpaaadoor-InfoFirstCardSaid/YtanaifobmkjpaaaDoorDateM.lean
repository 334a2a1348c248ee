/- Layer 5 (date), plain: what the times, seconds and texts have to do with each other. -/
import Derived.Test.YtanaifobmkjpaaaDoorDateL
namespace Go.Proofs.YtanaifobmkjpaaaDoor
theorem OfZ.same {sec : Nat} {v v' : Value} (h : OfZ sec v) (h' : OfZ sec v') : v = v' := by
  obtain ⟨y, m, d, hv, _, _, hn, rfl⟩ := h
  obtain ⟨y', m', d', hv', _, _, hn', rfl⟩ := h'
  obtain ⟨rfl, rfl, rfl⟩ := dayN_inj hv hv' (by omega)
  rfl
theorem SecZ.same {y m d h mi s n e n' e' : Int} (z : SecZ y m d h mi s n e) (z' : SecZ y m d h mi s n' e') : n = n' ∧ e = e' := by
  rcases z with ⟨a, rfl, rfl⟩ | ⟨a, b, rfl, rfl⟩ | ⟨a, b, rfl, y1, m1, d1, rfl, rfl, rfl, hv, rfl⟩
  · rcases z' with ⟨a', rfl, rfl⟩ | ⟨a', b', rfl, rfl⟩ | ⟨a', b', rfl, y2, m2, d2, r1, r2, r3, hv', rfl⟩
    · exact ⟨rfl, rfl⟩
    · exact absurd a a'
    · exact absurd a a'
  · rcases z' with ⟨a', rfl, rfl⟩ | ⟨a', b', rfl, rfl⟩ | ⟨a', b', rfl, y2, m2, d2, r1, r2, r3, hv', rfl⟩
    · exact absurd a' a
    · exact ⟨rfl, rfl⟩
    · omega
  · rcases z' with ⟨a', rfl, rfl⟩ | ⟨a', b', rfl, rfl⟩ | ⟨a', b', rfl, y2, m2, d2, r1, r2, r3, hv', rfl⟩
    · exact absurd a' a
    · omega
    · obtain rfl : y1 = y2 := by omega
      obtain rfl : m1 = m2 := by omega
      obtain rfl : d1 = d2 := by omega
      exact ⟨rfl, rfl⟩
theorem PrsZ.same {l : List UInt8} {n e n' e' : Int} (z : PrsZ l n e) (z' : PrsZ l n' e') : n = n' ∧ e = e' := by
  rcases z with ⟨a, rfl, rfl⟩ | ⟨a, b, z⟩
  · rcases z' with ⟨a', rfl, rfl⟩ | ⟨a', b', z'⟩
    · exact ⟨rfl, rfl⟩
    · exact absurd ⟨a', b'⟩ a
  · rcases z' with ⟨a', rfl, rfl⟩ | ⟨a', b', z'⟩
    · exact absurd ⟨a, b⟩ a'
    · exact z.same z'
theorem TxtZ.same {sec : Nat} {t t' : ByteArray} (h : TxtZ sec t) (h' : TxtZ sec t') : t = t' := by
  obtain ⟨y, m, d, hv, _, _, hn, rfl⟩ := h
  obtain ⟨y', m', d', hv', _, _, hn', rfl⟩ := h'
  obtain ⟨rfl, rfl, rfl⟩ := dayN_inj hv hv' (by omega)
  rfl
theorem daysZ_valid {y m d : Nat} (h : Valid y m d) : (d : Int) ≤ daysZ y m := by
  rw [daysZ_nat]; have := h.2.2.2.2; omega
/-- Seconds of a time that Of gave. -/
theorem sec_of {sec y m d h mi s : Nat} {n e : Int} (hv : Valid y m d) (hy : 1970 ≤ y) (hy2 : y ≤ 9999) (hn : dayN y m d = 719468 + sec / 86400) (hh : h = sec % 86400 / 3600) (hmi : mi = sec % 86400 / 60 % 60) (hs : s = sec % 60)
    (z : SecZ y m d h mi s n e) : n = sec ∧ e = 0 := by
  have hd := daysZ_valid hv
  have hd1 := hv.2.2.2.1
  have hno : ¬ Off (y : Int) m d h mi s := by unfold Off; omega
  rcases z with ⟨a, _⟩ | ⟨_, b, _⟩ | ⟨_, _, rfl, y1, m1, d1, r1, r2, r3, _, rfl⟩
  · exact absurd a hno
  · omega
  · obtain rfl : y = y1 := by omega
    obtain rfl : m = m1 := by omega
    obtain rfl : d = d1 := by omega
    refine ⟨?_, rfl⟩
    unfold secN
    omega
/-- The time of seconds that Seconds gave. -/
theorem of_sec {y m d h mi s n : Int} (z : SecZ y m d h mi s n 0) : ∃ sec : Nat, n = sec ∧ sec ≤ 253402300799 ∧ ∀ v, OfZ sec v → v = six y m d h mi s := by
  rcases z with ⟨_, _, h0⟩ | ⟨_, _, _, h0⟩ | ⟨hno, hy, _, y1, m1, d1, rfl, rfl, rfl, hv, rfl⟩
  · omega
  · omega
  · unfold Off at hno
    have hdb := dayN_bounds hv
    have hj0 := jan_mono (a := 1970) (b := y1) (by omega) (by omega)
    have hj1 := jan_mono (a := y1 + 1) (b := 10000) (by omega) (by omega)
    rw [jan_1970] at hj0
    rw [jan_10000] at hj1
    obtain ⟨h', rfl⟩ := Int.eq_ofNat_of_zero_le (show 0 ≤ h by omega)
    obtain ⟨mi', rfl⟩ := Int.eq_ofNat_of_zero_le (show 0 ≤ mi by omega)
    obtain ⟨s', rfl⟩ := Int.eq_ofNat_of_zero_le (show 0 ≤ s by omega)
    refine ⟨(dayN y1 m1 d1 - 719468) * 86400 + h' * 3600 + mi' * 60 + s', ?_, by omega, ?_⟩
    · unfold secN; omega
    · intro v hz
      obtain ⟨y', m', d', hv', _, _, hn', rfl⟩ := hz
      generalize hN : dayN y1 m1 d1 = N at *
      have e1 : ((N - 719468) * 86400 + h' * 3600 + mi' * 60 + s') / 86400 = N - 719468 := by omega
      rw [e1] at hn'
      obtain ⟨rfl, rfl, rfl⟩ := dayN_inj hv' hv (by omega)
      have e2 : (((N - 719468) * 86400 + h' * 3600 + mi' * 60 + s' : Nat) : Int) % 86400 / 3600 = (h' : Int) := by omega
      have e3 : (((N - 719468) * 86400 + h' * 3600 + mi' * 60 + s' : Nat) : Int) % 86400 / 60 % 60 = (mi' : Int) := by omega
      have e4 : (((N - 719468) * 86400 + h' * 3600 + mi' * 60 + s' : Nat) : Int) % 60 = (s' : Int) := by omega
      rw [e2, e3, e4]
theorem chr_at (n : Nat) (h : n < 10) : ((chr n).toNat : Int) = 48 + n := chr_nat n h
theorem fpar_19 (s : Nat → Int) : fpar s 19 0 = 1000 * (s 0 - 48) + 100 * (s 1 - 48) + 10 * (s 2 - 48) + (s 3 - 48) ∧ fpar s 19 1 = 10 * (s 5 - 48) + (s 6 - 48) ∧ fpar s 19 2 = 10 * (s 8 - 48) + (s 9 - 48) ∧
    fpar s 19 3 = 10 * (s 11 - 48) + (s 12 - 48) ∧ fpar s 19 4 = 10 * (s 14 - 48) + (s 15 - 48) ∧ fpar s 19 5 = 10 * (s 17 - 48) + (s 18 - 48) := by
  simp [fpar, isMark, fldAt, upd]; omega
theorem txt_list (y m d h mi s : Nat) : txtL y m d h mi s = [chr (y / 1000), chr (y / 100 % 10), chr (y / 10 % 10), chr (y % 10), 45, chr (m / 10), chr (m % 10), 45, chr (d / 10), chr (d % 10), 84, chr (h / 10), chr (h % 10), 58, chr (mi / 10), chr (mi % 10), 58, chr (s / 10), chr (s % 10)] := rfl
theorem okTo19 {s : Nat → Int} (b0 : 48 ≤ s 0 ∧ s 0 ≤ 57) (b1 : 48 ≤ s 1 ∧ s 1 ≤ 57) (b2 : 48 ≤ s 2 ∧ s 2 ≤ 57) (b3 : 48 ≤ s 3 ∧ s 3 ≤ 57) (b4 : s 4 = 45) (b5 : 48 ≤ s 5 ∧ s 5 ≤ 57) (b6 : 48 ≤ s 6 ∧ s 6 ≤ 57) (b7 : s 7 = 45) (b8 : 48 ≤ s 8 ∧ s 8 ≤ 57) (b9 : 48 ≤ s 9 ∧ s 9 ≤ 57) (b10 : s 10 = 84)
    (b11 : 48 ≤ s 11 ∧ s 11 ≤ 57) (b12 : 48 ≤ s 12 ∧ s 12 ≤ 57) (b13 : s 13 = 58) (b14 : 48 ≤ s 14 ∧ s 14 ≤ 57) (b15 : 48 ≤ s 15 ∧ s 15 ≤ 57) (b16 : s 16 = 58) (b17 : 48 ≤ s 17 ∧ s 17 ≤ 57) (b18 : 48 ≤ s 18 ∧ s 18 ≤ 57) : okTo s 19 := fun i hi =>
  match i, hi with
  | 0, _ => b0 | 1, _ => b1 | 2, _ => b2 | 3, _ => b3 | 4, _ => b4 | 5, _ => b5 | 6, _ => b6 | 7, _ => b7 | 8, _ => b8 | 9, _ => b9 | 10, _ => b10 | 11, _ => b11 | 12, _ => b12 | 13, _ => b13 | 14, _ => b14 | 15, _ => b15 | 16, _ => b16 | 17, _ => b17 | 18, _ => b18
  | n + 19, h => absurd h (by omega)
theorem dig2 {x : Int} {n : Nat} (h : x = 48 + (n : Int)) (hn : n ≤ 9) : 48 ≤ x ∧ x ≤ 57 := by omega
theorem num4 {y : Nat} {a b c d : Int} (_h : y < 10000) (ha : a = 48 + (y / 1000 : Nat)) (hb : b = 48 + (y / 100 % 10 : Nat)) (hc : c = 48 + (y / 10 % 10 : Nat)) (hd : d = 48 + (y % 10 : Nat)) : 1000 * (a - 48) + 100 * (b - 48) + 10 * (c - 48) + (d - 48) = y := by omega
theorem num2 {y : Nat} {a b : Int} (_h : y < 100) (ha : a = 48 + (y / 10 : Nat)) (hb : b = 48 + (y % 10 : Nat)) : 10 * (a - 48) + (b - 48) = y := by omega
set_option maxHeartbeats 1000000 in
/-- A text of a time is read back. -/
theorem prs_txt {y m d h mi s : Nat} (hy : y < 10000) (hm : m < 100) (hd : d < 100) (hh : h < 100) (hmi : mi < 100) (hs : s < 100) {n e : Int} (z : PrsZ (txtL y m d h mi s) n e) : SecZ y m d h mi s n e := by
  have hlen : (txtL y m d h mi s).length = 19 := rfl
  have b0 : byteN (txtL y m d h mi s) 0 = 48 + (y / 1000 : Nat) := chr_at _ (by omega)
  have b1 : byteN (txtL y m d h mi s) 1 = 48 + (y / 100 % 10 : Nat) := chr_at _ (by omega)
  have b2 : byteN (txtL y m d h mi s) 2 = 48 + (y / 10 % 10 : Nat) := chr_at _ (by omega)
  have b3 : byteN (txtL y m d h mi s) 3 = 48 + (y % 10 : Nat) := chr_at _ (by omega)
  have b4 : byteN (txtL y m d h mi s) 4 = 45 := rfl
  have b5 : byteN (txtL y m d h mi s) 5 = 48 + (m / 10 : Nat) := chr_at _ (by omega)
  have b6 : byteN (txtL y m d h mi s) 6 = 48 + (m % 10 : Nat) := chr_at _ (by omega)
  have b7 : byteN (txtL y m d h mi s) 7 = 45 := rfl
  have b8 : byteN (txtL y m d h mi s) 8 = 48 + (d / 10 : Nat) := chr_at _ (by omega)
  have b9 : byteN (txtL y m d h mi s) 9 = 48 + (d % 10 : Nat) := chr_at _ (by omega)
  have b10 : byteN (txtL y m d h mi s) 10 = 84 := rfl
  have b11 : byteN (txtL y m d h mi s) 11 = 48 + (h / 10 : Nat) := chr_at _ (by omega)
  have b12 : byteN (txtL y m d h mi s) 12 = 48 + (h % 10 : Nat) := chr_at _ (by omega)
  have b13 : byteN (txtL y m d h mi s) 13 = 58 := rfl
  have b14 : byteN (txtL y m d h mi s) 14 = 48 + (mi / 10 : Nat) := chr_at _ (by omega)
  have b15 : byteN (txtL y m d h mi s) 15 = 48 + (mi % 10 : Nat) := chr_at _ (by omega)
  have b16 : byteN (txtL y m d h mi s) 16 = 58 := rfl
  have b17 : byteN (txtL y m d h mi s) 17 = 48 + (s / 10 : Nat) := chr_at _ (by omega)
  have b18 : byteN (txtL y m d h mi s) 18 = 48 + (s % 10 : Nat) := chr_at _ (by omega)
  unfold PrsZ at z
  generalize byteN (txtL y m d h mi s) = S at *
  have hok : okTo S 19 := okTo19 (dig2 b0 (by omega)) (dig2 b1 (by omega)) (dig2 b2 (by omega)) (dig2 b3 (by omega)) b4 (dig2 b5 (by omega)) (dig2 b6 (by omega)) b7 (dig2 b8 (by omega)) (dig2 b9 (by omega)) b10 (dig2 b11 (by omega)) (dig2 b12 (by omega)) b13 (dig2 b14 (by omega)) (dig2 b15 (by omega)) b16 (dig2 b17 (by omega)) (dig2 b18 (by omega))
  rcases z with ⟨a, _⟩ | ⟨_, _, z⟩
  · exact absurd ⟨hlen, hok⟩ a
  · obtain ⟨f0, f1, f2, f3, f4, f5⟩ := fpar_19 S
    have g0 : fpar S 19 0 = y := by rw [f0]; exact num4 hy b0 b1 b2 b3
    have g1 : fpar S 19 1 = m := by rw [f1]; exact num2 hm b5 b6
    have g2 : fpar S 19 2 = d := by rw [f2]; exact num2 hd b8 b9
    have g3 : fpar S 19 3 = h := by rw [f3]; exact num2 hh b11 b12
    have g4 : fpar S 19 4 = mi := by rw [f4]; exact num2 hmi b14 b15
    have g5 : fpar S 19 5 = s := by rw [f5]; exact num2 hs b17 b18
    rw [g0, g1, g2, g3, g4, g5] at z
    exact z
/-! ### The order. -/
theorem less_append {b b' : List UInt8} : ∀ (a a' : List UInt8), a.length = a'.length → Go.Op.bytesLess (a ++ b) (a' ++ b') = (Go.Op.bytesLess a a' || (a == a' && Go.Op.bytesLess b b'))
  | [], [], _ => by simp [Go.Op.bytesLess]
  | [], _ :: _, h => by cases h
  | _ :: _, [], h => by cases h
  | c :: l, d :: m, h => by
    have ih := less_append (b := b) (b' := b') l m (by simpa using h)
    simp only [List.cons_append, Go.Op.bytesLess, ih]
    by_cases h1 : c < d
    · simp [h1]
    · by_cases h2 : c = d
      · subst h2; simp [h1]
      · have h3 : (c == d) = false := by simp [h2]
        have : (c :: l == d :: m) = false := by simp [h2]
        simp [h1, h3, this]
theorem eq_append {b b' : List UInt8} (a a' : List UInt8) (h : a.length = a'.length) : (a ++ b == a' ++ b') = (a == a' && b == b') := by
  rw [Bool.eq_iff_iff, beq_iff_eq, Bool.and_eq_true, beq_iff_eq, beq_iff_eq]
  exact ⟨fun e => List.append_inj e h, fun ⟨e, f⟩ => by rw [e, f]⟩
theorem pad2_less : ∀ a : Nat, a < 100 → ∀ b : Nat, b < 100 → Go.Op.bytesLess (pad2 a) (pad2 b) = decide (a < b) := by decide +kernel
theorem pad2_eq : ∀ a : Nat, a < 100 → ∀ b : Nat, b < 100 → (pad2 a == pad2 b) = decide (a = b) := by decide +kernel
/-- Two texts are ordered as two numbers. -/
def Ord (a a' : List UInt8) (r r' : Nat) : Prop := a.length = a'.length ∧ Go.Op.bytesLess a a' = decide (r < r') ∧ (a == a') = decide (r = r')
theorem Ord.two {a a' : List UInt8} {r r' x x' : Nat} (h : Ord a a' r r') (hx : x < 100) (hx' : x' < 100) : Ord (a ++ pad2 x) (a' ++ pad2 x') (r * 100 + x) (r' * 100 + x') := by
  obtain ⟨h1, h2, h3⟩ := h
  refine ⟨by rw [List.length_append, List.length_append, h1]; rfl, ?_, ?_⟩
  · rw [less_append _ _ h1, h2, h3, pad2_less x hx x' hx', Bool.eq_iff_iff]; simp; omega
  · rw [eq_append _ _ h1, h3, pad2_eq x hx x' hx', Bool.eq_iff_iff]; simp; omega
theorem Ord.mark {a a' : List UInt8} {r r' : Nat} (h : Ord a a' r r') (c : UInt8) : Ord (a ++ [c]) (a' ++ [c]) r r' := by
  obtain ⟨h1, h2, h3⟩ := h
  refine ⟨by rw [List.length_append, List.length_append, h1], ?_, ?_⟩
  · rw [less_append _ _ h1, h2, h3]; simp [Go.Op.bytesLess]
  · rw [eq_append _ _ h1, h3]; simp
theorem pad4_two' (n : Nat) : pad4 n = pad2 (n / 100) ++ pad2 (n % 100) := by
  unfold pad4 pad2
  have e1 : n / 100 / 10 = n / 1000 := by omega
  have e2 : n % 100 / 10 = n / 10 % 10 := by omega
  have e3 : n % 100 % 10 = n % 10 := by omega
  rw [e1, e2, e3]; rfl
theorem Ord.four {x x' : Nat} (hx : x < 10000) (hx' : x' < 10000) : Ord (pad4 x) (pad4 x') x x' := by
  rw [pad4_two', pad4_two']
  have h : Ord (pad2 (x / 100)) (pad2 (x' / 100)) (x / 100) (x' / 100) := ⟨rfl, pad2_less _ (by omega) _ (by omega), pad2_eq _ (by omega) _ (by omega)⟩
  have := h.two (x := x % 100) (x' := x' % 100) (by omega) (by omega)
  have e1 : x / 100 * 100 + x % 100 = x := by omega
  have e2 : x' / 100 * 100 + x' % 100 = x' := by omega
  rwa [e1, e2] at this
theorem txt_ord {y m d h mi s y' m' d' h' mi' s' : Nat} (a1 : y < 10000) (a2 : m < 100) (a3 : d < 100) (a4 : h < 100) (a5 : mi < 100) (a6 : s < 100) (b1 : y' < 10000) (b2 : m' < 100) (b3 : d' < 100) (b4 : h' < 100) (b5 : mi' < 100) (b6 : s' < 100) :
    Ord (txtL y m d h mi s) (txtL y' m' d' h' mi' s') (((((y * 100 + m) * 100 + d) * 100 + h) * 100 + mi) * 100 + s) (((((y' * 100 + m') * 100 + d') * 100 + h') * 100 + mi') * 100 + s') :=
  (((((((((Ord.four a1 b1).mark 45).two a2 b2).mark 45).two a3 b3).mark 84).two a4 b4).mark 58).two a5 b5 |>.mark 58).two a6 b6
theorem day_lex {y m d y' m' d' : Nat} (hv : Valid y m d) (hv' : Valid y' m' d') (h : (y * 100 + m) * 100 + d < (y' * 100 + m') * 100 + d') : dayN y m d < dayN y' m' d' := by
  have b := dayN_bounds hv
  have b' := dayN_bounds hv'
  obtain ⟨p1, p2, p3, p4, p5⟩ := hv
  obtain ⟨q1, q2, q3, q4, q5⟩ := hv'
  have l1 := days_le y m
  have l2 := days_le y' m'
  rcases Nat.lt_trichotomy y y' with g | g | g
  · have := jan_mono (a := y + 1) (b := y') (by omega) g; omega
  · subst g
    rcases Nat.lt_trichotomy m m' with g | g | g
    · have s := mcum_step y m p2 p3
      have := mcum_mono y (a := m + 1) (b := m') (by omega) (by omega) g
      unfold dayN; omega
    · subst g; unfold dayN; omega
    · omega
  · omega
/-- Texts of two seconds are ordered as the seconds are. -/
theorem txt_order {a b : Nat} {s t : ByteArray} (hs : TxtZ a s) (ht : TxtZ b t) (_ha : a ≤ 253402300799) (_hb : b ≤ 253402300799) : s.size = 19 ∧ t.size = 19 ∧ Go.Op.bytesLess s.toList t.toList = decide (a < b) ∧ (s.toList == t.toList) = decide (a = b) := by
  obtain ⟨y, m, d, hv, _, hy, hn, rfl⟩ := hs
  obtain ⟨y', m', d', hv', _, hy', hn', rfl⟩ := ht
  have l1 := days_le y m
  have l2 := days_le y' m'
  have c1 := hv.2.2.1
  have c2 := hv'.2.2.1
  have c3 := hv.2.2.2.2
  have c4 := hv'.2.2.2.2
  have o := txt_ord (y := y) (m := m) (d := d) (h := a % 86400 / 3600) (mi := a % 86400 / 60 % 60) (s := a % 60) (y' := y') (m' := m') (d' := d') (h' := b % 86400 / 3600) (mi' := b % 86400 / 60 % 60) (s' := b % 60) (by omega) (by omega) (by omega) (by omega) (by omega) (by omega) (by omega) (by omega) (by omega) (by omega) (by omega) (by omega)
  obtain ⟨_, o2, o3⟩ := o
  rw [bs_toList, bs_toList]
  have key : ((((((y * 100 + m) * 100 + d) * 100 + a % 86400 / 3600) * 100 + a % 86400 / 60 % 60) * 100 + a % 60 < ((((y' * 100 + m') * 100 + d') * 100 + b % 86400 / 3600) * 100 + b % 86400 / 60 % 60) * 100 + b % 60) ↔ a < b) ∧ ((((((y * 100 + m) * 100 + d) * 100 + a % 86400 / 3600) * 100 + a % 86400 / 60 % 60) * 100 + a % 60 = ((((y' * 100 + m') * 100 + d') * 100 + b % 86400 / 3600) * 100 + b % 86400 / 60 % 60) * 100 + b % 60) ↔ a = b) := by
    rcases Nat.lt_trichotomy ((y * 100 + m) * 100 + d) ((y' * 100 + m') * 100 + d') with g | g | g
    · have := day_lex hv hv' g
      constructor <;> omega
    · have e : y = y' ∧ m = m' ∧ d = d' := by omega
      obtain ⟨rfl, rfl, rfl⟩ := e
      have e1 : a / 86400 = b / 86400 := by omega
      have ea : a = 86400 * (b / 86400) + 3600 * (a % 86400 / 3600) + 60 * (a % 86400 / 60 % 60) + a % 60 := by omega
      have eb : b = 86400 * (b / 86400) + 3600 * (b % 86400 / 3600) + 60 * (b % 86400 / 60 % 60) + b % 60 := by omega
      have a1 : a % 86400 / 60 % 60 < 60 := by omega
      have a2 : b % 86400 / 60 % 60 < 60 := by omega
      have a3 : a % 60 < 60 := by omega
      have a4 : b % 60 < 60 := by omega
      generalize a % 86400 / 3600 = p1 at *
      generalize b % 86400 / 3600 = p2 at *
      generalize a % 86400 / 60 % 60 = p3 at *
      generalize b % 86400 / 60 % 60 = p4 at *
      generalize a % 60 = p5 at *
      generalize b % 60 = p6 at *
      generalize b / 86400 = K at *
      clear hn hn' e1 _ha _hb hv hv' g l1 l2 c1 c2 c3 c4 o2 o3
      constructor <;> omega
    · have := day_lex hv' hv g
      constructor <;> omega
  refine ⟨by rw [bs_size]; rfl, by rw [bs_size]; rfl, ?_, ?_⟩
  · rw [o2, decide_eq_decide]; exact key.1
  · rw [o3, decide_eq_decide]; exact key.2
end Go.Proofs.YtanaifobmkjpaaaDoor
