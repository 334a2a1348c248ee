/- Layer 3 (track), plain: Join, Inside, Rel, Split, Below on clean paths. -/
import Derived.Test.YtmppjbimdonfmaaDoorTrkP
namespace Go.Proofs.YtmppjbimdonfmaaDoor

def insideN (base s : List UInt8) : Bool := base == s || (cutN base ++ [47]).isPrefixOf s
def joinN (a b : List UInt8) : List UInt8 := if wholeB b = true ∨ a = [] then cleanN b else cleanN (a ++ 47 :: b)
def relB (a b : List UInt8) : Bool := wholeB (cleanN a) && wholeB (cleanN b) && insideN (cleanN a) (cleanN b)
def relT (a b : List UInt8) : List UInt8 := if relB a b = true then (if cleanN a = cleanN b then [46] else (cleanN b).drop ((cutN (cleanN a)).length + 1)) else []
def trimP (l : List UInt8) : List UInt8 := if ([47] : List UInt8).isPrefixOf l = true then l.drop 1 else l
def belowN (s n : List UInt8) : List UInt8 := cutN s ++ 47 :: n
theorem wholeB_iff {l : List UInt8} : wholeB l = true ↔ ∃ t, l = 47 :: t := by
  unfold wholeB
  cases l with
  | nil => simp
  | cons c t => simp
theorem wholeB_clean (l : List UInt8) : wholeB (cleanN l) = wholeB l := whole_render (norm_nf l).1
theorem whole_parts {L : List (List UInt8)} : render true L = 47 :: joinS L := by unfold render; rw [if_pos rfl]
theorem cut_render {L : List (List UInt8)} (h : okL L) : cutN (render true L) = if L = [] then [] else render true L := by
  rw [whole_parts]
  split
  · rename_i hn; subst hn; exact cutN_slash
  · rename_i hn
    refine cutN_id ?_
    obtain ⟨c, t, hc⟩ := List.exists_cons_of_ne_nil (joinS_ne L h hn)
    have h2 := joinS_last L h
    rw [hc] at h2 ⊢
    rw [List.getLast?_cons_cons]
    exact h2
theorem prefix_iff {a l : List UInt8} : a.isPrefixOf l = true ↔ ∃ t, l = a ++ t := by
  rw [List.isPrefixOf_iff_prefix]
  exact ⟨fun ⟨t, h⟩ => ⟨t, h.symm⟩, fun ⟨t, h⟩ => ⟨t, h.symm⟩⟩
/-- What stands below a path: its parts are that path's, and more. -/
theorem inside_render {LA LB : List (List UInt8)} (hA : okL LA) (hB : okL LB) (hi : insideN (render true LA) (render true LB) = true) (hne : render true LA ≠ render true LB) :
    ∃ R, R ≠ [] ∧ LB = LA ++ R ∧ render true LB = cutN (render true LA) ++ 47 :: joinS R := by
  unfold insideN at hi
  rw [Bool.or_eq_true, beq_iff_eq] at hi
  obtain ⟨t, ht⟩ := prefix_iff.1 (hi.resolve_left hne)
  rw [List.append_assoc] at ht
  have ht' : render true LB = cutN (render true LA) ++ 47 :: t := ht
  have h1 := congrArg partsN ht'
  rw [parts_render hB, parts_append] at h1
  have h2 : partsN (cutN (render true LA)) = LA := by
    rw [cut_render hA]
    split
    · rename_i h; rw [h]; exact parts_nil
    · exact parts_render hA
  rw [h2] at h1
  have hR : partsN t ≠ [] := by
    intro hr
    rw [hr, List.append_nil] at h1
    exact hne (by rw [h1])
  refine ⟨partsN t, hR, h1, ?_⟩
  rw [cut_render hA]
  split
  · rename_i h
    rw [h] at h1
    rw [whole_parts]
    rw [List.nil_append] at h1 ⊢
    rw [← h1]
  · rename_i h
    rw [whole_parts, whole_parts, h1, joinS_append LA _ h hR]
    simp
theorem whole_eq {l : List UInt8} (h : wholeB l = true) : cleanN l = render true (normL l) := by unfold cleanN; rw [h]
theorem norm_nf1 {l : List UInt8} (h : wholeB l = true) : NF true (normL l) := by have := norm_nf l; rwa [h] at this
theorem rel_split {a b : List UInt8} (h : relB a b = true) : wholeB a = true ∧ wholeB b = true ∧ insideN (cleanN a) (cleanN b) = true := by
  unfold relB at h
  rw [Bool.and_eq_true, Bool.and_eq_true, wholeB_clean, wholeB_clean] at h
  exact ⟨h.1.1, h.1.2, h.2⟩
/-- What the program's Rel returns is what the reference's does. -/
theorem rel_trim {a b : List UInt8} (h : relB a b = true) : (if trimP ((cleanN b).drop (cutN (cleanN a)).length) = [] then [46] else trimP ((cleanN b).drop (cutN (cleanN a)).length)) = relT a b := by
  obtain ⟨ha, hb, hi⟩ := rel_split h
  unfold relT
  rw [if_pos h]
  have hA := (norm_nf1 ha).1
  have hB := (norm_nf1 hb).1
  by_cases he : cleanN a = cleanN b
  · rw [if_pos he, ← he, whole_eq ha, cut_render hA]
    by_cases hn : normL a = []
    · rw [if_pos hn, hn]; rfl
    · rw [if_neg hn, List.drop_length]; rfl
  · rw [if_neg he]
    rw [whole_eq ha, whole_eq hb] at hi he ⊢
    obtain ⟨R, hR, hL, hr⟩ := inside_render hA hB hi he
    have hok : okL R := (okL_append.1 (hL ▸ hB)).2
    have hj := joinS_ne R hok hR
    have h1 : (render true (normL b)).drop (cutN (render true (normL a))).length = 47 :: joinS R := by rw [hr, List.drop_left]
    have h2 : (render true (normL b)).drop ((cutN (render true (normL a))).length + 1) = joinS R := by
      rw [← List.drop_drop, h1]; rfl
    have h3 : trimP (47 :: joinS R) = joinS R := by unfold trimP; rw [if_pos (show ([47] : List UInt8).isPrefixOf (47 :: joinS R) = true from prefix_iff.2 ⟨joinS R, rfl⟩)]; rfl
    rw [h1, h2, h3, if_neg hj]
/-- What is told from a path on, joined to it, is what it was. -/
theorem join_rel {a b : List UInt8} (h : relB a b = true) : joinN a (relT a b) = cleanN b := by
  obtain ⟨ha, hb, hi⟩ := rel_split h
  unfold relT
  rw [if_pos h]
  obtain ⟨a', ha'⟩ := wholeB_iff.1 ha
  have hne : a ≠ [] := by rw [ha']; simp
  have hA := norm_nf1 ha
  have hB := norm_nf1 hb
  have key : ∀ r : List UInt8, wholeB r = false → normL b = normL a ++ partsN r → joinN a r = cleanN b := by
    intro r hr hL
    unfold joinN
    rw [if_neg (by rw [hr]; simp [hne])]
    have hw : wholeB (a ++ 47 :: r) = true := by rw [ha']; rfl
    rw [whole_eq hw, whole_eq hb]
    congr 1
    have h1 : normL a = (partsN a).foldl (cstep true) [] := by unfold normL; rw [ha]
    have h2 : dd ∉ partsN r := by
      obtain ⟨_, k, M, hk, hM, hw'⟩ := hB
      obtain rfl := hw' rfl
      intro hx
      rw [hL] at hk
      simp at hk
      apply hM
      rw [← hk]
      exact List.mem_append_right _ hx
    unfold normL at hL ⊢
    rw [hw, parts_append, List.foldl_append, ← h1, foldl_plain _ _ h2]
    rw [hb] at hL ⊢
    rw [hL]
    congr 1
  by_cases he : cleanN a = cleanN b
  · rw [if_pos he]
    refine key [46] (by decide) ?_
    rw [parts_dot, List.append_nil]
    have := congrArg partsN he
    rw [whole_eq ha, whole_eq hb, parts_render hA.1, parts_render hB.1] at this
    exact this.symm
  · rw [if_neg he]
    rw [whole_eq ha, whole_eq hb] at hi he
    obtain ⟨R, hR, hL, hr⟩ := inside_render hA.1 hB.1 hi he
    have hok : okL R := (okL_append.1 (hL ▸ hB.1)).2
    have h1 : (cleanN b).drop ((cutN (cleanN a)).length + 1) = joinS R := by
      rw [whole_eq ha, whole_eq hb, hr, ← List.drop_drop, List.drop_left]; rfl
    rw [h1]
    refine key _ ?_ ?_
    · unfold wholeB; rw [beq_eq_false_iff_ne]; exact joinS_head R hok
    · rw [parts_join R hok, hL]
/-! ### Split. -/
/-- The place of the last slash: at: what stands ahead and behind. -/
theorem split_at {l : List UInt8} {k : Nat} (hk : l[k]? = some 47) : l = l.take k ++ 47 :: l.drop (k + 1) := by
  have h : k < l.length := by
    rcases Nat.lt_or_ge k l.length with h | h
    · exact h
    · rw [List.getElem?_eq_none h] at hk; cases hk
  have h2 : l[k] = 47 := by rw [List.getElem?_eq_getElem h] at hk; exact Option.some.inj hk
  have h3 := List.drop_eq_getElem_cons h
  rw [h2] at h3
  rw [← h3, List.take_append_drop]
/-- In a clean whole path no slash stands behind another one, and none at the end. -/
theorem split_clean {b : List UInt8} {k : Nat} (hb : wholeB b = true) (hk : (cleanN b)[k]? = some 47) : cutN ((cleanN b).take k) = (cleanN b).take k := by
  refine cutN_id ?_
  intro hl
  have h1 := split_at hk
  obtain ⟨t, ht⟩ : ∃ t, (cleanN b).take k = t ++ [47] := by
    rcases List.eq_nil_or_concat ((cleanN b).take k) with h | ⟨t, c, h⟩
    · rw [h] at hl; cases hl
    · rw [List.concat_eq_append] at h
      rw [h, List.getLast?_concat] at hl
      exact ⟨t, by rw [h, Option.some.inj hl]⟩
  rw [ht] at h1
  -- cleanN b = t ++ 47 :: 47 :: rest, while its parts joined give it back
  have hB := norm_nf1 hb
  have h2 := parts_render (whole := true) hB.1
  rw [← whole_eq hb] at h2
  have h3 : cleanN b = t ++ 47 :: (47 :: (cleanN b).drop (k + 1)) := by rw [List.append_assoc] at h1; exact h1
  generalize (cleanN b).drop (k + 1) = r at *
  have h4 : weight (normL b) ≤ t.length + 1 + (r.length + 1) := by
    rw [← h2, h3, parts_append, parts_slash, weight_append]
    have := parts_weight t
    have := parts_weight r
    omega
  have h5 : (cleanN b).length = t.length + (r.length + 2) := by rw [h3]; simp
  have h6 : normL b ≠ [] := by
    intro e
    rw [whole_eq hb, e, whole_parts] at h5
    simp [joinS] at h5
    omega
  have h7 := join_weight _ h6
  rw [whole_eq hb, whole_parts] at h5
  simp at h5
  -- both sides reach the same size only if t has no part more than it has slashes: t ends the first slash's piece
  have h8 : weight (partsN t) ≤ t.length := by
    obtain ⟨b', hb'⟩ := wholeB_iff.1 hb
    have h9 : t = [] ∨ ∃ t', t = 47 :: t' := by
      cases t with
      | nil => exact .inl rfl
      | cons c t' =>
        right
        rw [whole_eq hb, whole_parts] at h3
        injection h3 with e1 e2
        exact ⟨t', by rw [e1]⟩
    rcases h9 with rfl | ⟨t', rfl⟩
    · rw [parts_nil]; simp [weight]
    · rw [parts_slash]
      have := parts_weight t'
      simp; omega
  have h10 : weight (normL b) ≤ t.length + (r.length + 1) := by
    rw [← h2, h3, parts_append, parts_slash, weight_append]
    have := parts_weight r
    omega
  omega
theorem below_split {b : List UInt8} {k : Nat} (hb : wholeB b = true) (hk : (cleanN b)[k]? = some 47) : belowN ((cleanN b).take k) ((cleanN b).drop (k + 1)) = cleanN b := by
  unfold belowN
  rw [split_clean hb hk]
  exact (split_at hk).symm
theorem below_top {b : List UInt8} (hb : wholeB (cleanN b) = true) : belowN [47] ((cleanN b).drop 1) = cleanN b := by
  obtain ⟨t, ht⟩ := wholeB_iff.1 hb
  rw [ht]
  unfold belowN
  rw [cutN_slash]; rfl
end Go.Proofs.YtmppjbimdonfmaaDoor
