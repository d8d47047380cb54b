/- Plain maths: is a touch true? -/
import Derived.Test.YtbilebfnanlgfaaKlClo
import Derived.Test.YtbilebfnanlgfaaKlRank
namespace Go.KL
def mapOf (rows : List (List Int)) : Nat → Int → Option Int
  | 0 => fun _ => none
  | i + 1 => fun x_ => if x_ = ((rankL (rows.getD i []) : Nat) : Int) then some ((i : Nat) : Int) else mapOf rows i x_
def prF (rows : List (List Int)) : Nat → Nat → Option (Nat × Int)
  | 0, _ => none
  | f + 1, i => match mapOf rows i ((rankL (rows.getD i []) : Nat) : Int) with | some j => some (i, j) | none => prF rows f (i + 1)
def prO (rows : List (List Int)) : Option (Nat × Int) := prF rows (rows.length - 1) 0
def rndB (rows : List (List Int)) : Bool := decide (((rankL (rows.getD (rows.length - 1) []) : Nat) : Int) = (0 : Int))
def agnL (rows : List (List Int)) : Nat := ((prO rows).map (·.1)).getD 0
def befL (rows : List (List Int)) : Int := ((prO rows).map (·.2)).getD 0
theorem pr_end {rows : List (List Int)} {f i : Nat} (h : prF rows f i = prO rows) (hf : f = 0) : prO rows = none := by subst hf; exact h.symm
theorem pr_hit {rows : List (List Int)} {f i : Nat} {j : Int} (h : prF rows f i = prO rows) (hf : 0 < f) (hm : mapOf rows i ((rankL (rows.getD i []) : Nat) : Int) = some j) : prO rows = some (i, j) := by
  obtain ⟨f, rfl⟩ : ∃ g, f = g + 1 := ⟨f - 1, by omega⟩
  rw [← h, prF, hm]
theorem pr_next {rows : List (List Int)} {f i : Nat} (h : prF rows f i = prO rows) (hf : 0 < f) (hm : mapOf rows i ((rankL (rows.getD i []) : Nat) : Int) = none) : prF rows (f - 1) (i + 1) = prO rows := by
  obtain ⟨f, rfl⟩ : ∃ g, f = g + 1 := ⟨f - 1, by omega⟩
  rw [← h, prF, hm]; rfl
theorem mapOf_some {rows : List (List Int)} {x : Int} {j : Int} : ∀ {i : Nat}, mapOf rows i x = some j → ∃ k : Nat, k < i ∧ j = k ∧ ((rankL (rows.getD k []) : Nat) : Int) = x
  | 0, h => by simp [mapOf] at h
  | i + 1, h => by
    replace h : (if x = ((rankL (rows.getD i []) : Nat) : Int) then some ((i : Nat) : Int) else mapOf rows i x) = some j := h
    by_cases e : x = ((rankL (rows.getD i []) : Nat) : Int)
    · rw [if_pos e] at h; cases h; exact ⟨i, by omega, rfl, e.symm⟩
    · rw [if_neg e] at h
      obtain ⟨k, h1, h2, h3⟩ := mapOf_some h
      exact ⟨k, by omega, h2, h3⟩
theorem mapOf_none {rows : List (List Int)} {x : Int} : ∀ {i : Nat}, mapOf rows i x = none ↔ ∀ k, k < i → ((rankL (rows.getD k []) : Nat) : Int) ≠ x
  | 0 => by simp [mapOf]
  | i + 1 => by
    show (if x = ((rankL (rows.getD i []) : Nat) : Int) then some ((i : Nat) : Int) else mapOf rows i x) = none ↔ _
    by_cases e : x = ((rankL (rows.getD i []) : Nat) : Int)
    · rw [if_pos e]
      constructor
      · intro h; cases h
      · intro h; exact absurd e.symm (h i (by omega))
    · rw [if_neg e, mapOf_none]
      constructor
      · intro h k hk
        by_cases e2 : k = i
        · subst e2; exact fun h => e h.symm
        · exact h k (by omega)
      · intro h k hk; exact h k (by omega)
def Sep (rows : List (List Int)) (n : Nat) : Prop := ∀ i j, i < j → j < n → rankL (rows.getD i []) ≠ rankL (rows.getD j [])
theorem prF_none {rows : List (List Int)} : ∀ {f i : Nat}, prF rows f i = none ↔ ∀ j, i ≤ j → j < i + f → ∀ k, k < j → rankL (rows.getD k []) ≠ rankL (rows.getD j [])
  | 0, i => by
    constructor
    · intro _ j h1 h2; omega
    · intro _; rfl
  | f + 1, i => by
    rw [prF]
    cases hm : mapOf rows i ((rankL (rows.getD i []) : Nat) : Int) with
    | some j =>
      simp only
      obtain ⟨k, h1, h2, h3⟩ := mapOf_some hm
      constructor
      · intro h; cases h
      · intro h; exact absurd (by omega) (h i (Nat.le_refl _) (by omega) k h1)
    | none =>
      simp only
      have h0 := mapOf_none.1 hm
      rw [prF_none]
      constructor
      · intro h j h1 h2 k hk
        by_cases e : j = i
        · subst e; have := h0 k hk; omega
        · exact h j (by omega) (by omega) k hk
      · intro h j h1 h2 k hk; exact h j (by omega) (by omega) k hk
theorem prO_none {rows : List (List Int)} : prO rows = none ↔ Sep rows (rows.length - 1) := by
  unfold prO
  rw [prF_none]
  constructor
  · intro h i j hij hj; exact h j (Nat.zero_le _) (by omega) i hij
  · intro h j _ hj k hk; exact h k j hk (by omega)
end Go.KL
namespace Go.KL
theorem getD_takeD {α : Type} (d : α) {l : List α} {m k : Nat} (h : k < m) : (l.take m).getD k d = l.getD k d := by
  rw [List.getD_eq_getElem?_getD, List.getD_eq_getElem?_getD, List.getElem?_take_of_lt h]
end Go.KL
