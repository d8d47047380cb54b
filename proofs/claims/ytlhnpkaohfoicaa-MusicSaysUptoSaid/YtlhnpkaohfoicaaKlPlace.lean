/- Order of a row; changes. Plain mathematics. -/
import Derived.Test.YtlhnpkaohfoicaaKlCyc
namespace Go.KL

/-! ### The order, as the program reckons it -/
def ordTo (l : List (List Int)) (k : Nat) : Nat := (l.take k).foldl (fun o c => o * (c.length / Nat.gcd o c.length)) 1
def oddTo (l : List (List Int)) (k : Nat) : Bool := (l.take k).foldl (fun b c => b != decide (((c.length % 2 : Nat) : Int) = (0 : Int))) false
def ordL (r : List Int) : Nat := ordTo (cyclesL r) (cyclesL r).length
def oddL (r : List Int) : Bool := oddTo (cyclesL r) (cyclesL r).length
theorem ordTo_succ (l : List (List Int)) (k : Nat) (h : k < l.length) : ordTo l (k + 1) = ordTo l k * ((l.getD k []).length / Nat.gcd (ordTo l k) (l.getD k []).length) := by
  unfold ordTo; rw [take_snoc l [] k h, List.foldl_append]; rfl
theorem oddTo_succ (l : List (List Int)) (k : Nat) (h : k < l.length) : oddTo l (k + 1) = (oddTo l k != decide ((((l.getD k []).length % 2 : Nat) : Int) = (0 : Int))) := by
  unfold oddTo; rw [take_snoc l [] k h, List.foldl_append]; rfl
theorem cyc_mem {r : List Int} {c : List Int} (h : c ∈ cyclesL r) : ∃ b, b < r.length ∧ least r b = true ∧ c = orb r b := by
  unfold cyclesL cyclesTo at h
  obtain ⟨b, hb, rfl⟩ := List.mem_map.1 h
  rw [List.mem_filter, List.mem_range] at hb
  exact ⟨b, hb.1, hb.2, rfl⟩
theorem dvd_27720 {n : Nat} (h1 : 1 ≤ n) (h2 : n ≤ 12) : n ∣ 27720 := by
  match n, h1, h2 with
  | 1, _, _ | 2, _, _ | 3, _, _ | 4, _, _ | 5, _, _ | 6, _, _ | 7, _, _ | 8, _, _ | 9, _, _ | 10, _, _ | 11, _, _ | 12, _, _ => decide
theorem cyc_len {r : List Int} (hr : IsRow r) {k : Nat} (hk : k < (cyclesL r).length) : 1 ≤ ((cyclesL r).getD k []).length ∧ ((cyclesL r).getD k []).length ≤ 12 ∧ ((cyclesL r).getD k []).length ∣ 27720 := by
  have hm : (cyclesL r).getD k [] ∈ cyclesL r := by
    rw [List.getD_eq_getElem?_getD, List.getElem?_eq_getElem hk]; exact List.getElem_mem hk
  obtain ⟨b, hb, _, e⟩ := cyc_mem hm
  rw [e, orb_len]
  have := per_spec hr hb
  have := hr.le
  exact ⟨by omega, by omega, dvd_27720 (by omega) (by omega)⟩
theorem lcm_form (o n : Nat) (_hn : 0 < n) : o * (n / Nat.gcd o n) = Nat.lcm o n := by
  unfold Nat.lcm
  rw [Nat.mul_div_assoc _ (Nat.gcd_dvd_right o n)]
theorem ordTo_dvd {r : List Int} (hr : IsRow r) : ∀ k, k ≤ (cyclesL r).length → ordTo (cyclesL r) k ∣ 27720
  | 0, _ => by simp [ordTo]
  | k + 1, hk => by
    have hc := cyc_len hr (show k < (cyclesL r).length by omega)
    rw [ordTo_succ _ k (by omega), lcm_form _ _ (by omega)]
    exact Nat.lcm_dvd (ordTo_dvd hr k (by omega)) hc.2.2
theorem ordTo_le {r : List Int} (hr : IsRow r) (k : Nat) (hk : k ≤ (cyclesL r).length) : 1 ≤ ordTo (cyclesL r) k ∧ ordTo (cyclesL r) k ≤ 27720 := by
  have h := ordTo_dvd hr k hk
  exact ⟨Nat.pos_of_dvd_of_pos h (by decide), Nat.le_of_dvd (by decide) h⟩

/-- What the walk of Order wants of a cycle, in its own words. -/
theorem ord_facts {r : List Int} (h0 : rowMay r = 0) {k : Nat} (hk : k < (if rowMay r = 0 then cyclesL r else []).length) :
    1 ≤ ((if rowMay r = 0 then cyclesL r else []).getD k []).length ∧ ((if rowMay r = 0 then cyclesL r else []).getD k []).length ≤ 12 ∧ k < (cyclesL r).length ∧
    1 ≤ ordTo (cyclesL r) k ∧ ordTo (cyclesL r) k ≤ 27720 ∧ 1 ≤ Nat.gcd (ordTo (cyclesL r) k) ((if rowMay r = 0 then cyclesL r else []).getD k []).length ∧
    ordTo (cyclesL r) (k + 1) = ordTo (cyclesL r) k * (((if rowMay r = 0 then cyclesL r else []).getD k []).length / Nat.gcd (ordTo (cyclesL r) k) ((if rowMay r = 0 then cyclesL r else []).getD k []).length) ∧
    0 ≤ (ordTo (cyclesL r) k : Int) * ((((if rowMay r = 0 then cyclesL r else []).getD k []).length / Nat.gcd (ordTo (cyclesL r) k) ((if rowMay r = 0 then cyclesL r else []).getD k []).length : Nat) : Int) ∧
    (ordTo (cyclesL r) k : Int) * ((((if rowMay r = 0 then cyclesL r else []).getD k []).length / Nat.gcd (ordTo (cyclesL r) k) ((if rowMay r = 0 then cyclesL r else []).getD k []).length : Nat) : Int) ≤ 27720 := by
  rw [if_pos h0] at hk ⊢
  have hr := rowMay_ok.1 h0
  have hc := cyc_len hr hk
  have ho := ordTo_le hr k (by omega)
  have hn := ordTo_le hr (k + 1) (by omega)
  have es := ordTo_succ (cyclesL r) k hk
  have hg : 1 ≤ Nat.gcd (ordTo (cyclesL r) k) ((cyclesL r).getD k []).length := Nat.gcd_pos_of_pos_left _ (by omega)
  refine ⟨hc.1, hc.2.1, hk, ho.1, ho.2, hg, es, ?_⟩
  rw [← Int.natCast_mul, ← es]; omega

/-! ### Pick, ChangeOf -/
def pick (c : Int) (n : Nat) : Nat := if c < 0 then (-(c + 1)).toNat % n else c.toNat % n
theorem pick_lt (c : Int) {n : Nat} (hn : 0 < n) : pick c n < n := by
  unfold pick; split <;> exact Nat.mod_lt _ hn
def chgF : Nat → Nat → Nat → Nat → List Int
  | 0, _, _, _ => []
  | f + 1, c, t, n => if n < t then [] else if c % 3 = 0 ∨ t = n then (t : Int) :: chgF f (c / 3) (t + 1) n else chgF f (c / 3) (t + 2) n
def changeOf (c : Int) (n : Nat) : List Int := chgF (n + 1) (pick c 1099511627776) 1 n
theorem chgF_end {f c t n : Nat} (h : n < t) : chgF f c t n = [] := by
  cases f with
  | zero => rfl
  | succ f => simp [chgF, h]
theorem chgF_yes {xs zs : List Int} {f c t n : Nat} (h : xs ++ chgF f c t n = zs) (ht : t ≤ n) (hf : n + 1 ≤ f + t) (hc : c % 3 = 0 ∨ t = n) : (xs ++ [((t : Nat) : Int)]) ++ chgF (f - 1) (c / 3) (t + 1) n = zs := by
  cases f with
  | zero => omega
  | succ f =>
    rw [← h]
    simp only [chgF, Nat.add_sub_cancel]
    rw [if_neg (by omega), if_pos hc]; simp
theorem chgF_no {xs zs : List Int} {f c t n : Nat} (h : xs ++ chgF f c t n = zs) (ht : t ≤ n) (hf : n + 1 ≤ f + t) (hc : ¬ (c % 3 = 0 ∨ t = n)) : xs ++ chgF (f - 1) (c / 3) (t + 2) n = zs := by
  cases f with
  | zero => omega
  | succ f =>
    rw [← h]
    simp only [chgF, Nat.add_sub_cancel]
    rw [if_neg (by omega), if_neg hc]

/-! ### Index -/
def indexL (xs : List Int) (x : Int) : Int := if x ∈ xs then ((xs.idxOf x : Nat) : Int) else -1
theorem indexL_yes {xs : List Int} {x : Int} {k : Nat} (hk : k < xs.length) (h : x = xs.getD k 0) (hno : ∀ j, j < k → xs.getD j 0 ≠ x) : indexL xs x = k := by
  have hm : x ∈ xs := by rw [h, ← gd xs k hk]; exact List.getElem_mem hk
  unfold indexL
  rw [if_pos hm]
  have hl := List.idxOf_lt_length_of_mem hm
  have h1 := List.getElem_idxOf hl
  rw [gd xs _ hl] at h1
  have h2 : ¬ xs.idxOf x < k := fun hlt => hno _ hlt h1
  have h3 : ¬ k < xs.idxOf x := fun hlt => by
    have := List.not_of_lt_findIdx (p := (· == x)) (xs := xs) (i := k) hlt
    simp only [beq_eq_false_iff_ne, ne_eq] at this
    rw [gd xs k hk] at this
    exact this h.symm
  omega
theorem indexL_no {xs : List Int} {x : Int} (hno : ∀ j, j < xs.length → xs.getD j 0 ≠ x) : indexL xs x = -1 := by
  unfold indexL
  rw [if_neg]
  intro hm
  have hl := List.idxOf_lt_length_of_mem hm
  have h1 := List.getElem_idxOf hl
  rw [gd xs _ hl] at h1
  exact hno _ hl h1
theorem indexL_iff {xs : List Int} {x : Int} : (0 : Int) ≤ indexL xs x ↔ x ∈ xs := by
  unfold indexL
  split
  · rename_i h; exact ⟨fun _ => h, fun _ => by omega⟩
  · rename_i h; exact ⟨fun e => absurd e (by omega), fun e => absurd e h⟩

/-! ### Changes that may be -/
theorem mem_at {xs : List Int} {x : Int} {k : Nat} (hk : k < xs.length) (h : xs.getD k 0 = x) : x ∈ xs := by
  rw [← h, ← gd xs k hk]; exact List.getElem_mem hk
theorem not_mem_all {xs : List Int} {x : Int} (hno : ∀ j, j < xs.length → xs.getD j 0 ≠ x) : x ∉ xs := fun hm => by
  have hl := List.idxOf_lt_length_of_mem hm
  have h1 := List.getElem_idxOf hl
  rw [gd xs _ hl] at h1
  exact hno _ hl h1
def scanTo (n : Int) (l : List Int) : Nat → Option Int
  | 0 => some 0
  | k + 1 => (scanTo n l k).bind fun z => if l.getD k 0 ≤ z ∨ n < l.getD k 0 ∨ (l.getD k 0 - z).toNat % 2 = 0 then none else some (l.getD k 0)
def chgMay (n : Int) (l : List Int) : Int := if n < 1 ∨ 12 < n then 1 else match scanTo n l l.length with | none => 6 | some z => if (n - z).toNat % 2 = 1 then 6 else 0
theorem scan_none {n : Int} {l : List Int} {k : Nat} (h : scanTo n l k = none) : ∀ m, k ≤ m → scanTo n l m = none
  | 0, hm => by obtain rfl : k = 0 := by omega
                exact h
  | m + 1, hm => by
    by_cases e : k = m + 1
    · subst e; exact h
    · simp only [scanTo]; rw [scan_none h m (by omega)]; rfl
theorem scan_step {n z : Int} {l : List Int} {k : Nat} (h : scanTo n l k = some z) (h1 : ¬ l.getD k 0 ≤ z) (h2 : ¬ n < l.getD k 0) (_h : 0 ≤ z) (h3 : ¬ (((l.getD k 0 - z).toNat % 2 : Nat) : Int) = (0 : Int)) : scanTo n l (k + 1) = some (l.getD k 0) := by
  simp only [scanTo, h, Option.bind_some]
  rw [if_neg (by omega)]
theorem chgMay_cnt {n : Int} {l : List Int} (h : n < 1 ∨ 12 < n) : chgMay n l = 1 := by unfold chgMay; rw [if_pos h]
theorem chgMay_scan {n z : Int} {l : List Int} {k : Nat} (hn : ¬ (n < 1 ∨ 12 < n)) (h : scanTo n l k = some z) (hk : k < l.length) (hc : l.getD k 0 ≤ z ∨ n < l.getD k 0 ∨ (((l.getD k 0 - z).toNat % 2 : Nat) : Int) = (0 : Int)) : chgMay n l = 6 := by
  unfold chgMay
  rw [if_neg hn]
  have h1 : scanTo n l (k + 1) = none := by
    simp only [scanTo, h, Option.bind_some]
    rw [if_pos (by omega)]
  rw [scan_none h1 l.length (by omega)]
theorem chgMay_odd {n z : Int} {l : List Int} (hn : ¬ (n < 1 ∨ 12 < n)) (h : scanTo n l l.length = some z) (hc : (((n - z).toNat % 2 : Nat) : Int) = (1 : Int)) : chgMay n l = 6 := by
  unfold chgMay
  rw [if_neg hn, h]
  simp only
  rw [if_pos (by omega)]
theorem chgMay_ok {n z : Int} {l : List Int} (hn : ¬ (n < 1 ∨ 12 < n)) (h : scanTo n l l.length = some z) (hc : ¬ (((n - z).toNat % 2 : Nat) : Int) = (1 : Int)) : chgMay n l = 0 := by
  unfold chgMay
  rw [if_neg hn, h]
  simp only
  rw [if_neg (by omega)]
end Go.KL
