/- Order of a row; changes. Plain mathematics. -/
import Derived.Test.YtbilebfnanlgfaaKlCyc
namespace Go.KL

/-! ### The order, as the program reckons it -/
def ordTo (l : List (List Int)) (k : Nat) : Nat := (l.take k).foldl (fun o c => o * (c.length / Nat.gcd o c.length)) 1
def oddTo (l : List (List Int)) (k : Nat) : Bool := (l.take k).foldl (fun b c => b != decide (((c.length % 2 : Nat) : Int) = (0 : Int))) false
def ordL (r : List Int) : Nat := ordTo (cyclesL r) (cyclesL r).length
def oddL (r : List Int) : Bool := oddTo (cyclesL r) (cyclesL r).length
theorem cyc_mem {r : List Int} {c : List Int} (h : c ∈ cyclesL r) : ∃ b, b < r.length ∧ least r b = true ∧ c = orb r b := by
  unfold cyclesL cyclesTo at h
  obtain ⟨b, hb, rfl⟩ := List.mem_map.1 h
  rw [List.mem_filter, List.mem_range] at hb
  exact ⟨b, hb.1, hb.2, rfl⟩
/-! ### Pick, ChangeOf -/
def pick (c : Int) (n : Nat) : Nat := if c < 0 then (-(c + 1)).toNat % n else c.toNat % n
theorem pick_lt (c : Int) {n : Nat} (hn : 0 < n) : pick c n < n := by
  unfold pick; split <;> exact Nat.mod_lt _ hn
def chgF : Nat → Nat → Nat → Nat → List Int
  | 0, _, _, _ => []
  | f + 1, c, t, n => if n < t then [] else if c % 3 = 0 ∨ t = n then (t : Int) :: chgF f (c / 3) (t + 1) n else chgF f (c / 3) (t + 2) n
def changeOf (c : Int) (n : Nat) : List Int := chgF (n + 1) (pick c 1099511627776) 1 n
theorem chgF_end {f c t n : Nat} (h : n < t) : chgF f c t n = [] := by
  cases f with
  | zero => rfl
  | succ f => simp [chgF, h]
theorem chgF_yes {xs zs : List Int} {f c t n : Nat} (h : xs ++ chgF f c t n = zs) (ht : t ≤ n) (hf : n + 1 ≤ f + t) (hc : c % 3 = 0 ∨ t = n) : (xs ++ [((t : Nat) : Int)]) ++ chgF (f - 1) (c / 3) (t + 1) n = zs := by
  cases f with
  | zero => omega
  | succ f =>
    rw [← h]
    simp only [chgF, Nat.add_sub_cancel]
    rw [if_neg (by omega), if_pos hc]; simp
theorem chgF_no {xs zs : List Int} {f c t n : Nat} (h : xs ++ chgF f c t n = zs) (ht : t ≤ n) (hf : n + 1 ≤ f + t) (hc : ¬ (c % 3 = 0 ∨ t = n)) : xs ++ chgF (f - 1) (c / 3) (t + 2) n = zs := by
  cases f with
  | zero => omega
  | succ f =>
    rw [← h]
    simp only [chgF, Nat.add_sub_cancel]
    rw [if_neg (by omega), if_neg hc]

/-! ### Index -/
def indexL (xs : List Int) (x : Int) : Int := if x ∈ xs then ((xs.idxOf x : Nat) : Int) else -1
theorem indexL_yes {xs : List Int} {x : Int} {k : Nat} (hk : k < xs.length) (h : x = xs.getD k 0) (hno : ∀ j, j < k → xs.getD j 0 ≠ x) : indexL xs x = k := by
  have hm : x ∈ xs := by rw [h, ← gd xs k hk]; exact List.getElem_mem hk
  unfold indexL
  rw [if_pos hm]
  have hl := List.idxOf_lt_length_of_mem hm
  have h1 := List.getElem_idxOf hl
  rw [gd xs _ hl] at h1
  have h2 : ¬ xs.idxOf x < k := fun hlt => hno _ hlt h1
  have h3 : ¬ k < xs.idxOf x := fun hlt => by
    have := List.not_of_lt_findIdx (p := (· == x)) (xs := xs) (i := k) hlt
    simp only [beq_eq_false_iff_ne, ne_eq] at this
    rw [gd xs k hk] at this
    exact this h.symm
  omega
theorem indexL_no {xs : List Int} {x : Int} (hno : ∀ j, j < xs.length → xs.getD j 0 ≠ x) : indexL xs x = -1 := by
  unfold indexL
  rw [if_neg]
  intro hm
  have hl := List.idxOf_lt_length_of_mem hm
  have h1 := List.getElem_idxOf hl
  rw [gd xs _ hl] at h1
  exact hno _ hl h1
theorem indexL_iff {xs : List Int} {x : Int} : (0 : Int) ≤ indexL xs x ↔ x ∈ xs := by
  unfold indexL
  split
  · rename_i h; exact ⟨fun _ => h, fun _ => by omega⟩
  · rename_i h; exact ⟨fun e => absurd e (by omega), fun e => absurd e h⟩

/-! ### Changes that may be -/
theorem mem_at {xs : List Int} {x : Int} {k : Nat} (hk : k < xs.length) (h : xs.getD k 0 = x) : x ∈ xs := by
  rw [← h, ← gd xs k hk]; exact List.getElem_mem hk
theorem not_mem_all {xs : List Int} {x : Int} (hno : ∀ j, j < xs.length → xs.getD j 0 ≠ x) : x ∉ xs := fun hm => by
  have hl := List.idxOf_lt_length_of_mem hm
  have h1 := List.getElem_idxOf hl
  rw [gd xs _ hl] at h1
  exact hno _ hl h1
def scanTo (n : Int) (l : List Int) : Nat → Option Int
  | 0 => some 0
  | k + 1 => (scanTo n l k).bind fun z => if l.getD k 0 ≤ z ∨ n < l.getD k 0 ∨ (l.getD k 0 - z).toNat % 2 = 0 then none else some (l.getD k 0)
def chgMay (n : Int) (l : List Int) : Int := if n < 1 ∨ 12 < n then 1 else match scanTo n l l.length with | none => 6 | some z => if (n - z).toNat % 2 = 1 then 6 else 0
theorem scan_none {n : Int} {l : List Int} {k : Nat} (h : scanTo n l k = none) : ∀ m, k ≤ m → scanTo n l m = none
  | 0, hm => by obtain rfl : k = 0 := by omega
                exact h
  | m + 1, hm => by
    by_cases e : k = m + 1
    · subst e; exact h
    · simp only [scanTo]; rw [scan_none h m (by omega)]; rfl
theorem scan_step {n z : Int} {l : List Int} {k : Nat} (h : scanTo n l k = some z) (h1 : ¬ l.getD k 0 ≤ z) (h2 : ¬ n < l.getD k 0) (_h : 0 ≤ z) (h3 : ¬ (((l.getD k 0 - z).toNat % 2 : Nat) : Int) = (0 : Int)) : scanTo n l (k + 1) = some (l.getD k 0) := by
  simp only [scanTo, h, Option.bind_some]
  rw [if_neg (by omega)]
theorem chgMay_cnt {n : Int} {l : List Int} (h : n < 1 ∨ 12 < n) : chgMay n l = 1 := by unfold chgMay; rw [if_pos h]
theorem chgMay_scan {n z : Int} {l : List Int} {k : Nat} (hn : ¬ (n < 1 ∨ 12 < n)) (h : scanTo n l k = some z) (hk : k < l.length) (hc : l.getD k 0 ≤ z ∨ n < l.getD k 0 ∨ (((l.getD k 0 - z).toNat % 2 : Nat) : Int) = (0 : Int)) : chgMay n l = 6 := by
  unfold chgMay
  rw [if_neg hn]
  have h1 : scanTo n l (k + 1) = none := by
    simp only [scanTo, h, Option.bind_some]
    rw [if_pos (by omega)]
  rw [scan_none h1 l.length (by omega)]
theorem chgMay_odd {n z : Int} {l : List Int} (hn : ¬ (n < 1 ∨ 12 < n)) (h : scanTo n l l.length = some z) (hc : (((n - z).toNat % 2 : Nat) : Int) = (1 : Int)) : chgMay n l = 6 := by
  unfold chgMay
  rw [if_neg hn, h]
  simp only
  rw [if_pos (by omega)]
theorem chgMay_ok {n z : Int} {l : List Int} (hn : ¬ (n < 1 ∨ 12 < n)) (h : scanTo n l l.length = some z) (hc : ¬ (((n - z).toNat % 2 : Nat) : Int) = (1 : Int)) : chgMay n l = 0 := by
  unfold chgMay
  rw [if_neg hn, h]
  simp only
  rw [if_neg (by omega)]
end Go.KL
