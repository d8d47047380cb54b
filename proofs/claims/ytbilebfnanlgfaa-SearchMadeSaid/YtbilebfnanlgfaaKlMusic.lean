/- Patterns of bells: the maths. -/
import Derived.Test.YtbilebfnanlgfaaKlRunes
import Derived.Test.YtbilebfnanlgfaaKlRowLaw
namespace Go.KL
theorem runsF_cons {s : ByteArray} {f p : Nat} (hp : p < s.size) (hf : s.size ≤ f + p) : runsF s f p = runM s p :: runsF s (f - 1) (p + wid s p) := by
  obtain ⟨f, rfl⟩ : ∃ g, f = g + 1 := ⟨f - 1, by omega⟩
  rw [runsF, if_pos hp]; rfl
/-! ### Signs -/
theorem run_m (s : ByteArray) (p : Nat) : runM s p = ((run1 s p : Nat) : Int) ∨ (runM s p = -1 ∧ run1 s p = 65533) := by
  unfold runM
  split
  · rename_i h; exact .inr ⟨rfl, h.1⟩
  · exact .inl rfl
/-! ### Ahead of the star and behind it -/
/-! ### What was seen -/
/-! ### Like a pattern -/
/-! ### Steps -/
/-! ### A pattern that may be -/
/-! ### The walks of Like and fits -/
end Go.KL
