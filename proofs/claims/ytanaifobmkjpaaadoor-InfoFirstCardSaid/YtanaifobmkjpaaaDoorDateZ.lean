/- Layer 5 (date): both Seconds, any time. -/
import Derived.Test.YtanaifobmkjpaaaDoorDateV
import Derived.Test.YtanaifobmkjpaaaDoorDateX
namespace Go.Proofs.YtanaifobmkjpaaaDoor
open Go.ChangeShapes Go.WideShapes Go.ChangeAt Go.RowKit

theorem daysZ_in {y m d : Int} (h1 : 1 ≤ d) (h2 : d ≤ daysZ y m) : 1 ≤ m ∧ m ≤ 12 ∧ d ≤ 31 := by
  by_cases hm : 1 ≤ m ∧ m ≤ 12
  · refine ⟨hm.1, hm.2, ?_⟩
    unfold daysZ at h2
    rw [if_pos hm] at h2
    split at h2
    · split at h2 <;> omega
    · split at h2 <;> omega
  · rw [daysZ_out hm] at h2; omega
theorem psec_any (y m d h mi s : Int) (w : World) : Calls Tryd.prog 82 #[six y m d h mi s] w (SecRet w y m d h mi s) := by
  by_cases b : y < 0
  · exact psec_bad1 y m d h mi s w b
  have b0 : 0 ≤ y := by omega
  clear b; by_cases b : 9999 < y
  · exact psec_bad2 y m d h mi s w b0 b
  have b1 : y ≤ 9999 := by omega
  clear b; by_cases b : d < 1
  · exact psec_bad3 y m d h mi s w b0 b1 b
  have b2 : 1 ≤ d := by omega
  clear b; by_cases b : daysZ y m < d
  · exact psec_bad4 y m d h mi s w b0 b1 b2 b
  have b3 : d ≤ daysZ y m := by omega
  clear b; by_cases b : h < 0
  · exact psec_bad5 y m d h mi s w b0 b1 b2 b3 b
  have b4 : 0 ≤ h := by omega
  clear b; by_cases b : 23 < h
  · exact psec_bad6 y m d h mi s w b0 b1 b2 b3 b4 b
  have b5 : h ≤ 23 := by omega
  clear b; by_cases b : mi < 0
  · exact psec_bad7 y m d h mi s w b0 b1 b2 b3 b4 b5 b
  have b6 : 0 ≤ mi := by omega
  clear b; by_cases b : 59 < mi
  · exact psec_bad8 y m d h mi s w b0 b1 b2 b3 b4 b5 b6 b
  have b7 : mi ≤ 59 := by omega
  clear b; by_cases b : s < 0
  · exact psec_bad9 y m d h mi s w b0 b1 b2 b3 b4 b5 b6 b7 b
  have b8 : 0 ≤ s := by omega
  clear b; by_cases b : 59 < s
  · exact psec_bad10 y m d h mi s w b0 b1 b2 b3 b4 b5 b6 b7 b8 b
  have b9 : s ≤ 59 := by omega
  clear b; by_cases b : y < 1970
  · exact psec_early y m d h mi s w b0 b1 b2 b3 b4 b5 b6 b7 b8 b9 b
  have b10 : 1970 ≤ y := by omega
  obtain ⟨hm1, hm2, hd⟩ := daysZ_in b2 b3
  obtain ⟨y', rfl⟩ := Int.eq_ofNat_of_zero_le b0
  obtain ⟨m', rfl⟩ := Int.eq_ofNat_of_zero_le (show 0 ≤ m by omega)
  obtain ⟨d', rfl⟩ := Int.eq_ofNat_of_zero_le (show 0 ≤ d by omega)
  by_cases hm : (m' : Int) < 3
  · exact psec_low y' m' d' h mi s w b0 b1 b2 b3 b4 b5 b6 b7 b8 b9 hd b10 hm1 hm
  · exact psec_high y' m' d' h mi s w b0 b1 b2 b3 b4 b5 b6 b7 b8 b9 hd b10 (by omega) hm2
theorem rsec_any (y m d h mi s : Int) (w : World) : Calls Tryd.prog 86 #[six y m d h mi s] w (SecRet w y m d h mi s) := by
  by_cases b : y < 0
  · exact rsec_bad1 y m d h mi s w b
  have b0 : 0 ≤ y := by omega
  clear b; by_cases b : 9999 < y
  · exact rsec_bad2 y m d h mi s w b0 b
  have b1 : y ≤ 9999 := by omega
  clear b; by_cases b : d < 1
  · exact rsec_bad3 y m d h mi s w b0 b1 b
  have b2 : 1 ≤ d := by omega
  clear b; by_cases b : daysZ y m < d
  · exact rsec_bad4 y m d h mi s w b0 b1 b2 b
  have b3 : d ≤ daysZ y m := by omega
  clear b; by_cases b : h < 0
  · exact rsec_bad5 y m d h mi s w b0 b1 b2 b3 b
  have b4 : 0 ≤ h := by omega
  clear b; by_cases b : 23 < h
  · exact rsec_bad6 y m d h mi s w b0 b1 b2 b3 b4 b
  have b5 : h ≤ 23 := by omega
  clear b; by_cases b : mi < 0
  · exact rsec_bad7 y m d h mi s w b0 b1 b2 b3 b4 b5 b
  have b6 : 0 ≤ mi := by omega
  clear b; by_cases b : 59 < mi
  · exact rsec_bad8 y m d h mi s w b0 b1 b2 b3 b4 b5 b6 b
  have b7 : mi ≤ 59 := by omega
  clear b; by_cases b : s < 0
  · exact rsec_bad9 y m d h mi s w b0 b1 b2 b3 b4 b5 b6 b7 b
  have b8 : 0 ≤ s := by omega
  clear b; by_cases b : 59 < s
  · exact rsec_bad10 y m d h mi s w b0 b1 b2 b3 b4 b5 b6 b7 b8 b
  have b9 : s ≤ 59 := by omega
  clear b; by_cases b : y < 1970
  · exact rsec_early y m d h mi s w b0 b1 b2 b3 b4 b5 b6 b7 b8 b9 b
  have b10 : 1970 ≤ y := by omega
  obtain ⟨hm1, hm2, hd⟩ := daysZ_in b2 b3
  obtain ⟨y', rfl⟩ := Int.eq_ofNat_of_zero_le b0
  obtain ⟨m', rfl⟩ := Int.eq_ofNat_of_zero_le (show 0 ≤ m by omega)
  obtain ⟨d', rfl⟩ := Int.eq_ofNat_of_zero_le (show 0 ≤ d by omega)
  exact rsec_ok y' m' d' h mi s w b0 b1 b2 b3 b4 b5 b6 b7 b8 b9 hd b10 hm1 hm2
end Go.Proofs.YtanaifobmkjpaaaDoor
