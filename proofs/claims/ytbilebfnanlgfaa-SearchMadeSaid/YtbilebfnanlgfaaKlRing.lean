/- All rows, each once: what is found rings, and nothing ahead of it does. -/
import Derived.Test.YtbilebfnanlgfaaKlTour
namespace Go.KL
def SeenB (n : Nat) (vis : List (List Int)) (f : Int → Option Bool) : Prop := ∀ x, IsRow x → x.length = n → (f ((rankL x : Nat) : Int)).getD false = decide (x ∈ vis)
theorem SeenB.put {n : Nat} {vis : List (List Int)} {f : Int → Option Bool} (h : SeenB n vis f) {x : List Int} (hx : IsRow x) (hl : x.length = n) : SeenB n (vis ++ [x]) (fun p => if p = ((rankL x : Nat) : Int) then some true else f p) := by
  intro y hy hly
  by_cases e : y = x
  · subst e; simp
  · have hne : rankL y ≠ rankL x := fun hh => e (rank_row_inj hy hx (by omega) hh)
    simp only [Int.natCast_inj, if_neg hne]
    rw [h y hy hly]
    simp [e]
end Go.KL
