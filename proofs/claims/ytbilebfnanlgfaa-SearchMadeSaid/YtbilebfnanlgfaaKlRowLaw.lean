/- What the law RowSays wants beside: cycles as the document finds them, text by signs. -/
import Derived.Test.YtbilebfnanlgfaaKlRead
namespace Go.KL
theorem lists_ext {a b : List (List Int)} (hl : a.length = b.length) (h : ∀ j, j < a.length → a.getD j [] = b.getD j []) : a = b := by
  refine List.ext_getElem hl fun j h1 h2 => ?_
  have := h j h1
  simpa [h1, h2] using this
theorem all_snocs {xs ys : List (List Int)} {k : Nat} (h : ∀ j, j < k → xs.getD j [] = ys.getD j []) (e : xs.getD k [] = ys.getD k []) : ∀ j, j < k + 1 → xs.getD j [] = ys.getD j [] := by
  intro j hj
  by_cases hjk : j = k
  · subst hjk; exact e
  · exact h j (by omega)
end Go.KL
