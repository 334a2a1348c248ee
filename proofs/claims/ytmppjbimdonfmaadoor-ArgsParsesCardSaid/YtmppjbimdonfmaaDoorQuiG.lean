/- A region that draws its order, in the class of the worlds that have grown from one: one walk of the text's order, calls that make memory among the operations; then, if so, a tail. -/
import Derived.Test.YtmppjbimdonfmaaDoorBase
import Derived.Test.YtmppjbimdonfmaaDoorQuiT
import Derived.Deep.QuietTactic
namespace Go.Proofs.YtmppjbimdonfmaaDoor
open Go

/-- The worlds that have grown from V. -/
structure Gr (V : World) where
  w : World
  h : Ext V w
instance grNonempty (V : World) : Nonempty (Gr V) := ⟨⟨V, Ext.refl V⟩⟩
theorem Gr.cell {V : World} {b o : Nat} {v : Value} (hb : b < V.heap.size) (h : V.cell? ⟨b, o, none⟩ = some v) : ∀ u : Gr V, u.w.cell? ⟨b, o, none⟩ = some v := fun u => (u.h.cell hb).trans h
section
variable {P : Program} {id : Nat} {Q : Exit → Act → World → Prop} {a : Act} {w : World} {l : List Oper}
theorem wp_region_grow (V : World) (hm : P.follows .mixedOrders = true) (hB : Region.lexB .any l.toArray = true) (hV : Ext V w.drew)
    (h : wpQuiet P l.toArray (fun w' => ∃ u : Gr V, w' = u.w) (fun a' => ∀ w', (∃ u : Gr V, w' = u.w) → Q .normal a' w') l a) : (Code.region id l.toArray true).wp P Q a w :=
  wp_region_quiet (C := fun w' => ∃ u : Gr V, w' = u.w) hm hB ⟨⟨w.drew, hV⟩, rfl⟩ (by simpa using h)
theorem wp_region_grow_tail (V : World) (n : Nat) (hm : P.follows .mixedOrders = true) (hB : lexTailQ .any l.toArray n = true) (hV : Ext V w.drew)
    (h : wpQuiet P l.toArray (fun w' => ∃ u : Gr V, w' = u.w) (fun a' => ∀ w', (∃ u : Gr V, w' = u.w) → wpAny P .any l.toArray Q (l.length - n) (setAll 0 n (Array.replicate l.toArray.size false)) a' w') (l.take n) a) : (Code.region id l.toArray true).wp P Q a w :=
  wp_region_quiet_tail (C := fun w' => ∃ u : Gr V, w' = u.w) n hm hB ⟨⟨w.drew, hV⟩, rfl⟩ h
/-- The tail a chain: it goes in the text's order. -/
theorem wp_region_grow_seq (V : World) (n : Nat) (hm : P.follows .mixedOrders = true) (hB : lexTailQ .any l.toArray n = true) (hs : Region.seqB .any l.toArray (l.length - n) n (setAll 0 n (Array.replicate l.toArray.size false)) = true) (hV : Ext V w.drew)
    (h : wpQuiet P l.toArray (fun w' => ∃ u : Gr V, w' = u.w) (fun a' => ∀ w', (∃ u : Gr V, w' = u.w) → wpList P l.toArray Q (l.drop n) a' w') (l.take n) a) : (Code.region id l.toArray true).wp P Q a w := by
  refine wp_region_grow_tail V n hm hB hV (wpQuiet_mono' (fun a' h' w' hw' => ?_) _ _ h)
  have hdl : (l.drop n).length = l.length - n := by simp
  have := wpAny_of_seq (md := .any) (Q' := Q) (l.drop n) n (setAll 0 n (Array.replicate l.toArray.size false)) a' w' (fun j => by simp [List.getElem?_drop]) (by rw [hdl]; exact hs) (h' w' hw')
  rwa [hdl] at this
end
end Go.Proofs.YtmppjbimdonfmaaDoor
