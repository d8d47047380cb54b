/- Short words for walks. -/
import Derived.Test.YtbilebfnanlgfaaKlCore
namespace Go.KL
theorem ed {ops : Array Oper} {Φ : Nat → Pr} {j d : Nat} {a : Act} {σ : GW} {T : Ty} {b : Bool} (h : b = true → rd ops Φ j a σ) (hb : b = true) (hd : dstOf ops j = some d) (hT : Φ j = Ty.pr T) : At T σ a (.tmp d) := by
  have h1 := h hb
  unfold rd at h1
  rw [hd, hT] at h1
  exact h1
end Go.KL
