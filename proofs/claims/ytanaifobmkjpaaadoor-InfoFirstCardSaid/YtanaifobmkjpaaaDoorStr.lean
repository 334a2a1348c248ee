/- Texts as lists of bytes; cuts of texts; results of calls. -/
import Derived.Test.YtanaifobmkjpaaaDoorBase
import Derived.Lib.UnsafeStr
namespace Go.Proofs.YtanaifobmkjpaaaDoor
open Go.RowKit

/-- A text of these bytes. -/
def bs (l : List UInt8) : ByteArray := ⟨l.toArray⟩
theorem bs_size (l : List UInt8) : (bs l).size = l.length := by simp [bs, ByteArray.size]
theorem bs_self (s : ByteArray) : bs s.data.toList = s := by cases s; simp [bs]
theorem bs_list (l : List UInt8) : (bs l).data.toList = l := by simp [bs]
theorem bs_toList (l : List UInt8) : (bs l).toList = l := by rw [ByteArray.toList_eq, bs_list]
theorem bs_append (a b : List UInt8) : bs a ++ bs b = bs (a ++ b) := ByteArray.mk_append_mk a b
theorem bs_inj {a b : List UInt8} (h : bs a = bs b) : a = b := by have := congrArg (fun s => s.data.toList) h; simpa [bs_list] using this
theorem take_snoc (s : ByteArray) (k : Nat) (h : k < s.size) : s.data.toList.take (k + 1) = s.data.toList.take k ++ [s[k]] := by
  rw [List.take_succ_eq_append_getElem (by simpa using h)]; rfl
theorem drop_at (s : ByteArray) (k : Nat) (h : k < s.size) : s.data.toList.drop k = s[k] :: s.data.toList.drop (k + 1) := by
  rw [List.drop_eq_getElem_cons (by simpa using h)]; rfl
theorem bs_get (l : List UInt8) (k : Nat) (h : k < (bs l).size) (h' : k < l.length) : (bs l)[k]'h = l[k]'h' := rfl
theorem ext_one (s : ByteArray) (k : Nat) (h : k < s.size) : s.extract k (k + 1) = bs [s[k]] := by
  apply ByteArray.ext
  have hd : k < s.data.size := h
  simp only [ByteArray.data_extract, bs]
  apply Array.ext
  · simp; omega
  · intro i h1 h2
    simp at h2
    subst h2
    simp; rfl
theorem bs_extract (l : List UInt8) (a b : Nat) : (bs l).extract a b = bs ((l.drop a).take (b - a)) := ByteArray.extract_mk l a b
theorem slice_strk {P : Program} {t : TypeId} (ht : P.underlying t = some .string) (s : ByteArray) (k k' : IntKind) (i j : Int) (a b : Nat) (hi : i = a) (hj : j = b) (hab : a ≤ b) (hb : b ≤ s.size) (r : ByteArray) (hr : s.extract a b = r) (w : World) :
    (Instr.slice t (.string s) (some (.int k i)) (some (.int k' j)) none).run P w = .ok (.string r) w := by
  subst hi; subst hj; subst hr
  have := run_slice_string (P := P) w t s k k' (a : Int) (b : Int) ht (by omega) (by omega) (by omega)
  simpa using this
theorem ret_bool {a b : Bool} (h : a = b) : Ending.returned (.bool a) = .returned (.bool b) := by rw [h]
theorem ret_int {k : IntKind} {a b : Int} (h : a = b) : Ending.returned (.int k a) = .returned (.int k b) := by rw [h]
theorem ret_str {a b : ByteArray} (h : a = b) : Ending.returned (.string a) = .returned (.string b) := by rw [h]
theorem str_eq (a b : List UInt8) : ((bs a).toList == (bs b).toList) = (a == b) := by rw [bs_toList, bs_toList]
end Go.Proofs.YtanaifobmkjpaaaDoor
