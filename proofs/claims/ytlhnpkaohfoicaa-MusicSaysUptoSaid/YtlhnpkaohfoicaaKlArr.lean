/- Arrays as values: built of two parts, and what stands at a place. -/
import Derived.Test.YtlhnpkaohfoicaaKlCount
namespace Go.KL
open Go.RowKit
variable {P : Program} {d : Option Tmp} {ty : TypeId} {pos : String} {af : Array Edge} {g : Option (Nat × Bool)} {a : Act} {σ : GW}
/-- '[2]T{x, y}'. -/
theorem y_arr2 {t e : TypeId} {z ze : Value} {c by_ be : Nat} {x y : Operand} {T U : Ty} (ht : P.underlying t = some (.array 2 e)) (he : Info P e ze 1 be) (hi : Info P t z c by_) (hz : z.cells.size = 2) (oT : One T) (oU : One U) (hx : At T σ a x) (hy : At U σ a y) :
    Yld P ⟨d, .build t #[(0, x), (1, y)], ty, pos, af, g⟩ a σ (Ty.agg [T, U]).pr := by
  have h1 := cells_of_one (oT _ _ hx)
  have h2 := cells_of_one (oU _ _ hy)
  obtain ⟨cs, hcs⟩ : ∃ cs, z.cells = cs := ⟨_, rfl⟩
  rw [hcs] at hz
  refine Yld.of_run (v := .agg ((cs.setIfInBounds 0 (a.eval x)).setIfInBounds 1 (a.eval y))) ?_ ⟨_, rfl, by simp [hz], fun j V u hV hu => ?_⟩
  · simp only [execOp, List.map_toArray, List.map_cons, List.map_nil]
    generalize a.eval x = v at h1 ⊢
    generalize a.eval y = v' at h2 ⊢
    have hne : cs ≠ #[] := by intro e'; subst e'; simp at hz
    simp [Instr.build, run_underlying ht, he.size, hi.zero, Instr.fill, h1, h2, hcs, hz, Sem.run_bind, hne]
  · match j, hV with
    | 0, hV =>
      simp at hV; subst hV
      have : u = a.eval x := by
        rw [Array.getElem?_setIfInBounds_ne (by decide), Array.getElem?_setIfInBounds_self_of_lt (by omega)] at hu
        exact (Option.some.inj hu).symm
      rw [this]; exact hx
    | 1, hV =>
      simp at hV; subst hV
      have : u = a.eval y := by
        rw [Array.getElem?_setIfInBounds_self_of_lt (by simp [hz])] at hu
        exact (Option.some.inj hu).symm
      rw [this]; exact hy
    | j + 2, hV => simp at hV
/-- 'x[i]' of an array that is a value. -/
theorem y_arri {α : Type} {f : α → Ty} {xs : List α} (dd : α) {t e : TypeId} {td : TypeDesc} {n : Nat} {ze : Value} {be i : Nat} {k : IntKind} {x y : Operand} (ht : P.underlying t = some (.array n e)) (hte : P.underlying e = some td) (hd : td.isRow = false) (he : Info P e ze 1 be)
    (hx : At (Ty.agg (xs.map f)) σ a x) (hy : a.eval y = .int k i) (hi : i < xs.length) (hn : xs.length = n) :
    Yld P ⟨d, .index t x y, ty, pos, af, g⟩ a σ (f (xs.getD i dd)).pr := by
  obtain ⟨cs, e1, hl, hc⟩ := hx
  rw [List.length_map] at hl
  have hlt : i < cs.size := by omega
  refine Yld.of_run (v := cs[i]) ?_ (hc i _ _ (by simp [hi]) (by simp [hlt]))
  have hagg : (isAgg e).run P σ.w = .ok false σ.w := by
    unfold isAgg
    rw [Sem.run_bind, run_underlying hte σ.w]
    cases td <;> simp_all
  simp only [execOp, e1, hy]
  have h0 : (0 : Int) ≤ (i : Int) ∧ (i : Int) < (n : Int) := by omega
  simp [Instr.index, Sem.run_bind, asIntOf, run_underlying ht, h0, he.size, part, hagg, hlt, show i < n by omega]
/-! ### Bells that are told -/
def fixL (l : List Int) : Nat := l.countP fun b => decide (0 ≤ b)
theorem fixL_le (l : List Int) : fixL l ≤ l.length := List.countP_le_length
theorem fix_yes {l : List Int} {i : Nat} (hi : i < l.length) (h : 0 ≤ l.getD i 0) : fixL (l.take (i + 1)) = fixL (l.take i) + 1 := by
  rw [take_snoc l 0 i hi]; simp only [fixL, List.countP_append, List.countP_singleton, decide_eq_true h, if_true]
theorem fix_no {l : List Int} {i : Nat} (hi : i < l.length) (h : ¬ 0 ≤ l.getD i 0) : fixL (l.take (i + 1)) = fixL (l.take i) := by
  rw [take_snoc l 0 i hi]; simp only [fixL, List.countP_append, List.countP_singleton, decide_eq_false h]; rfl
def fix2 (f b : List Int) : Nat → Nat
  | 0 => 0
  | 1 => fixL f
  | _ => fixL f + fixL b
theorem fix2_succ {f b : List Int} {k : Nat} (hk : k < 2) : fix2 f b (k + 1) = fix2 f b k + fixL ([f, b].getD k []) := by
  match k, hk with
  | 0, _ => simp [fix2]
  | 1, _ => simp [fix2]
theorem fix2_le {f b : List Int} {k : Nat} : fix2 f b k ≤ fixL f + fixL b := by
  match k with
  | 0 => simp [fix2]
  | 1 => simp [fix2]
  | k + 2 => simp [fix2]
end Go.KL
