/- Strings: cut, joined, compared, made of runes; numbers converted; joins of branches; scopes; functions without a body. -/
import Derived.Test.YtbilebfnanlgfaaKlWalk
import Derived.Lib.Bytealg
import Derived.Scope
namespace Go.KL
open Go.RowKit
variable {P : Program} {d : Option Tmp} {ty : TypeId} {pos : String} {af : Array Edge} {g : Option (Nat × Bool)} {a : Act} {σ : GW}

/-! ### Ways on -/
theorem join_then {c : Code} {N Q' : Act → World → Prop} {Q : Exit → Act → World → Prop} {a : Act} {w : World} (h1 : c.wp P (Exit.then Q' Q) a w) (h2 : ∀ a w, Q' a w → N a w) : c.wp P (Exit.then N Q) a w :=
  Code.wp_mono (fun e a' w' hq => by cases e <;> first | exact h2 _ _ hq | exact hq) h1
section
variable {Q : Exit → Act → World → Prop} {w : World}
end

/-! ### Numbers -/
theorem y_conv {x : Operand} {t u : TypeId} {k j : IntKind} {n m : Int} (hu : P.underlying u = some (.int j)) (hx : a.eval x = .int k n) (hm : j.wrap n = m) (ht : (P.underlying t).isSome = true) :
    Yld P ⟨d, .convert t u x, ty, pos, af, g⟩ a σ (Ty.val (.int j m)).pr := by
  obtain ⟨td, htd⟩ := Option.isSome_iff_exists.1 ht
  refine Yld.of_run (v := .int j m) ?_ rfl
  simp only [execOp, hx]
  subst hm
  simp [convert, Sem.run_bind, run_underlying hu, run_underlying htd, Conv.intToInt]
/-! ### Strings -/
theorem y_sfrom {x y : Operand} {t : TypeId} {s : ByteArray} {k : IntKind} {l : Nat} (ht : P.underlying t = some .string) (hx : a.eval x = .string s) (hy : a.eval y = .int k l) (hl : l ≤ s.size) :
    Yld P ⟨d, .slice t x (some y) none none, ty, pos, af, g⟩ a σ (Ty.val (.string (s.extract l s.size))).pr := by
  refine Yld.of_run (v := .string (s.extract l s.size)) ?_ rfl
  simp only [execOp, hx, hy, Option.map_some, Option.map_none]
  have hl' : (0 : Int) ≤ (l : Int) ∧ (l : Int) ≤ ((s.size : Nat) : Int) := by omega
  simp [Instr.sliceAt, Instr.slice, Sem.run_bind, run_underlying ht, Instr.sliceBounds, Instr.sliceBound, asIntOf, hl]
/-! ### A function without a body -/
end Go.KL
