/- Small words that all walks of this seat use: 'Ext' (a world that has only grown), 'Ret' (a call that returns a value and leaves what was there), and laws on them. -/
import Derived.Test.YtanaifobmkjpaaaDoorRows
import Derived.WalkKit
import Derived.ProofKit
import Derived.OpenShut
import Derived.Handy
import Derived.Lib.Hide
import Derived.BigQuiet
import Derived.Deep.QuietTactic
import Derived.Lib.SlBytesConst
namespace Go.Proofs.YtanaifobmkjpaaaDoor
open Go.ChangeShapes Go.WideShapes Go.ChangeAt Go.RowKit

/-- The world has only grown: what was there is as it was. -/
def Ext (w w' : World) : Prop := Below w.heap.size w w'
theorem Ext.refl (w : World) : Ext w w := Below.refl _ _
theorem Ext.trans {a b c : World} (h : Ext a b) (k : Ext b c) : Ext a c := Below.trans h (Below.mono k h.size)
theorem Ext.alloc {a w : World} (h : Ext a w) (o : Obj) : Ext a (w.alloc o) := Below.alloc h h.size o
theorem Ext.drew {a w : World} (h : Ext a w) : Ext a w.drew := Below.drew h
theorem Ext.drewN {a w : World} (h : Ext a w) (n : Nat) : Ext a (w.drewN n) := ⟨h.os, h.tape, h.output, h.size, h.block⟩
theorem Ext.setCell {a w : World} (h : Ext a w) {p : Addr} (hp : a.heap.size ≤ p.block) (u : Value) : Ext a (w.setCell p u) := Below.setCell h hp u
theorem Ext.size {a w : World} (h : Ext a w) : a.heap.size ≤ w.heap.size := Below.size h
theorem Ext.grown {a w w' : World} {row : Option Nat} (h : Ext a w) (hg : w.grownBy w' row) (hr : ∀ k, row = some k → a.heap.size ≤ k) : Ext a w' := Below.grown h hg h.size hr
theorem Ext.cell {w w' : World} (h : Ext w w') {b o : Nat} (hp : b < w.heap.size) : w'.cell? ⟨b, o, none⟩ = w.cell? ⟨b, o, none⟩ := Below.cell (p := ⟨b, o, none⟩) h hp
theorem Ext.frozen {w w' : World} (h : Ext w w') {b o : Nat} (hp : b < w.heap.size) : w'.frozen? ⟨b, o, none⟩ = w.frozen? ⟨b, o, none⟩ := Below.frozen (p := ⟨b, o, none⟩) h hp
theorem Ext.block {w w' : World} (h : Ext w w') {b : Nat} {o : Obj} (hp : w.heap[b]? = some o) : w'.heap[b]? = some o := by
  have hb : b < w.heap.size := by
    rcases Nat.lt_or_ge b w.heap.size with h' | h'
    · exact h'
    · simp [Array.getElem?_eq_none h'] at hp
  rw [Below.block h b hb]; exact hp

/-- The call returns v, and the world has only grown. -/
def Ret (w : World) (v : Value) (e : Ending) (w' : World) : Prop := e = .returned v ∧ Ext w w'
theorem Ret.mk {w : World} {v : Value} {e : Ending} {w' : World} (h : e = .returned v) (k : Ext w w') : Ret w v e w' := ⟨h, k⟩

/-! ### '&' with a mask, of any number. -/
theorem wrap_i64_in {n : Int} (h : -9223372036854775808 ≤ n) (h' : n < 9223372036854775808) : IntKind.i64.wrap n = n := by rw [IntKind.wrap_i64]; omega
theorem ofInt_toNat (x : Int) : (BitVec.ofInt 64 x).toNat = (x % 18446744073709551616).toNat := by
  rw [BitVec.toNat_ofInt]; rfl
theorem mod_two_pow (x : Int) (i : Nat) (hi : i < 63) : (x % 18446744073709551616).toNat % 2 ^ i = (x % 2 ^ i).toNat := by
  have h1 : (0 : Int) ≤ x % 18446744073709551616 := Int.emod_nonneg _ (by decide)
  have h2 : (0 : Int) < 2 ^ i := Int.pow_pos (by decide)
  have h3 : (0 : Int) ≤ x % 2 ^ i := Int.emod_nonneg _ (by omega)
  have hd : (2 : Int) ^ i ∣ 18446744073709551616 := by
    have : (18446744073709551616 : Int) = 2 ^ 64 := by decide
    rw [this]; exact ⟨2 ^ (64 - i), by rw [← Int.pow_add]; congr 1; omega⟩
  have h4 : x % 18446744073709551616 % 2 ^ i = x % 2 ^ i := Int.emod_emod_of_dvd x hd
  apply Int.ofNat.inj
  show ((((x % 18446744073709551616).toNat % 2 ^ i : Nat)) : Int) = (((x % 2 ^ i).toNat : Nat) : Int)
  rw [Int.natCast_emod, Int.toNat_of_nonneg h1, Int.toNat_of_nonneg h3, Int.natCast_pow, ← h4]; rfl
theorem and_mask (x : Int) (i : Nat) (hi : i < 63) : bits .and .i64 x (2 ^ i - 1) = x % 2 ^ i := by
  have h2 : (0 : Int) < 2 ^ i := Int.pow_pos (by decide)
  have h3 : (0 : Int) ≤ x % 2 ^ i := Int.emod_nonneg _ (by omega)
  have h4 : x % 2 ^ i < 2 ^ i := Int.emod_lt_of_pos _ h2
  have hp : (2 : Int) ^ i ≤ 2 ^ 62 := by
    have : (2 : Nat) ^ i ≤ 2 ^ 62 := Nat.pow_le_pow_right (by decide) (by omega)
    exact_mod_cast this
  have hc : ((2 : Int) ^ i - 1) = ((2 ^ i - 1 : Nat) : Int) := by
    rw [Int.natCast_sub (Nat.two_pow_pos i)]; simp
  show IntKind.i64.wrap ((BitVec.ofInt 64 x &&& BitVec.ofInt 64 ((2 : Int) ^ i - 1)).toNat : Int) = _
  have hb : (BitVec.ofInt 64 ((2 : Int) ^ i - 1)).toNat = 2 ^ i - 1 := by
    rw [hc, BitVec.ofInt_natCast, BitVec.toNat_ofNat]
    have : (2 : Nat) ^ i ≤ 2 ^ 62 := Nat.pow_le_pow_right (by decide) (by omega)
    exact Nat.mod_eq_of_lt (by omega)
  rw [BitVec.toNat_and, hb, ofInt_toNat, Nat.and_two_pow_sub_one_eq_mod, mod_two_pow x i hi, Int.toNat_of_nonneg h3]
  exact wrap_i64_in (by omega) (by omega)
theorem and_1 (x : Int) : bits .and .i64 x 1 = x % 2 := and_mask x 1 (by decide)
theorem and_7 (x : Int) : bits .and .i64 x 7 = x % 8 := and_mask x 3 (by decide)
theorem and_1023 (x : Int) : bits .and .i64 x 1023 = x % 1024 := and_mask x 10 (by decide)
/-- '&' with 512. -/
theorem nat_and_512 (n : Nat) : n &&& 512 = (n / 512 % 2) * 512 := by
  apply Nat.eq_of_testBit_eq
  intro j
  have h1 : n.testBit 9 = decide (n / 512 % 2 = 1) := by rw [Nat.testBit_eq_decide_div_mod_eq]
  have e : (512 : Nat) = 2 ^ 9 := rfl
  have h2 : n / 512 % 2 = 0 ∨ n / 512 % 2 = 1 := by omega
  by_cases hj : j = 9
  · subst hj
    rw [Nat.testBit_and, h1]
    rcases h2 with h | h <;> simp [h] <;> decide
  · have : (512 : Nat).testBit j = false := by rw [e, Nat.testBit_two_pow]; simp; omega
    rw [Nat.testBit_and, this, Bool.and_false]
    rcases h2 with h | h <;> simp [h, this]
theorem and_512 (x : Int) : bits .and .i64 x 512 = (x / 512 % 2) * 512 := by
  show IntKind.i64.wrap ((BitVec.ofInt 64 x &&& BitVec.ofInt 64 512).toNat : Int) = _
  have hb : (BitVec.ofInt 64 512).toNat = 512 := by decide
  rw [BitVec.toNat_and, hb, ofInt_toNat, nat_and_512, wrap_i64_in (by omega) (by omega)]
  omega
/-! ### A block of bytes that the call made. -/
def bytesArr (l : List Int) : Array Value := (l.map (Value.int .u8)).toArray
theorem bytesArr_size (l : List Int) : (bytesArr l).size = l.length := by simp [bytesArr]
theorem bytesArr_get (l : List Int) (i : Nat) (h : i < l.length) : (bytesArr l)[i]? = some (.int .u8 (l.getD i 0)) := by
  simp [bytesArr, List.getD, List.getElem?_eq_getElem h]
theorem bytesArr_set (l : List Int) (i : Nat) (x : Int) : (bytesArr l).setIfInBounds i (.int .u8 x) = bytesArr (l.set i x) := by
  simp [bytesArr, List.map_set]
theorem setCell_mark (w : World) (C : Array Value) (t : TypeId) (fr : Nat × Nat) (i : Nat) (v : Value) :
    (w.alloc (.cells C t fr)).setCell ⟨w.heap.size, i, none⟩ v = w.alloc (.cells (C.setIfInBounds i v) t fr) := by
  unfold World.setCell World.alloc
  congr 1
  apply Array.ext_getElem?
  intro k
  simp only [Array.getElem?_modify, Array.getElem?_push]
  by_cases hk : k = w.heap.size
  · subst hk; simp
  · have : ¬ w.heap.size = k := fun e => hk e.symm
    simp [hk, this]
/-- 'string(b)' of such a block. -/
theorem convert_block {P : Program} (w : World) (src dst e : TypeId) (hs : P.underlying src = some (.slice e)) (he : P.underlying e = some (.int .u8)) (hd : P.underlying dst = some .string)
    (l : List Int) (n c : Nat) (hn : l.length = n) (fr : Nat × Nat) :
    (convert src dst (.slice (some ⟨w.heap.size, 0, none⟩) n c)).run P (w.alloc (.cells (bytesArr l) e fr)) = .ok (.string (strOfNums l)) (w.alloc (.cells (bytesArr l) e fr)) :=
  run_convert_bytes_arg _ src e hs he w.heap.size 0 n c l hn (fun i hi => by rw [World.cell?_alloc_mark, Nat.zero_add, bytesArr_get l i (by omega)]) dst hd
/-! ### A block known whole, kept from the walk. -/
def Has (w : World) (b : Nat) (o : Obj) : Prop := w.heap[b]? = some o
theorem Has.ext {w w' : World} {b : Nat} {o : Obj} (h : Has w b o) (k : Ext w w') : Has w' b o := k.block h
theorem Has.lt {w : World} {b : Nat} {o : Obj} (h : Has w b o) : b < w.heap.size := by
  rcases Nat.lt_or_ge b w.heap.size with h' | h'
  · exact h'
  · unfold Has at h; simp [Array.getElem?_eq_none h'] at h
theorem Has.new (w : World) (o : Obj) : Has (w.alloc o) w.heap.size o := heap_alloc_new w o
theorem Has.alloc {w : World} {b : Nat} {o : Obj} (h : Has w b o) (x : Obj) : Has (w.alloc x) b o := h.ext ((Ext.refl _).alloc x)
theorem Has.cell {w : World} {b : Nat} {C : Array Value} {t : TypeId} {fr : Nat × Nat} (h : Has w b (.cells C t fr)) (i : Nat) : w.cell? ⟨b, i, none⟩ = C[i]? := by
  unfold Has at h; simp [World.cell?, h]
theorem Has.free {w : World} {b : Nat} {C : Array Value} {t : TypeId} {lo hi : Nat} (h : Has w b (.cells C t (lo, hi))) (i : Nat) : w.frozen? ⟨b, i, none⟩ = (decide (lo ≤ i) && decide (i < hi)) := by
  unfold Has at h; simp [World.frozen?, h]
/-! ### A cut of a string, as an equation for the walk. -/
theorem slice_str {P : Program} {t : TypeId} (ht : P.underlying t = some .string) (s : ByteArray) (i j : Int) (a b : Nat) (hi : i = a) (hj : j = b) (hab : a ≤ b) (hb : b ≤ s.size) (r : ByteArray) (hr : s.extract a b = r) (w : World) :
    (Instr.slice t (.string s) (some (.int .i64 i)) (some (.int .i64 j)) none).run P w = .ok (.string r) w := by
  subst hi; subst hj; subst hr
  have := run_slice_string (P := P) w t s .i64 .i64 (a : Int) (b : Int) ht (by omega) (by omega) (by omega)
  simpa using this
end Go.Proofs.YtanaifobmkjpaaaDoor
