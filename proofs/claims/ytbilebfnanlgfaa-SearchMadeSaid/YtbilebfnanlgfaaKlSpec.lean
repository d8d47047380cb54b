/- Plain mathematics of rows. No program in sight. -/
namespace Go.KL

/-! ### Rows -/
def isRowB (r : List Int) : Bool := decide (∀ b, b < r.length → r.count (b : Int) = 1)
def rowMay (r : List Int) : Int := if r.length < 1 ∨ 12 < r.length then 1 else if isRowB r then 0 else 2
structure IsRow (r : List Int) : Prop where
  pos : 1 ≤ r.length
  le : r.length ≤ 12
  one : ∀ b, b < r.length → r.count (b : Int) = 1

theorem nodup_len : ∀ (n : Nat) (l : List Int), l.Nodup → (∀ x ∈ l, 0 ≤ x ∧ x < n) → l.length ≤ n
  | 0, l, _, h => by
    cases l with
    | nil => simp
    | cons x l => have := h x (by simp); omega
  | n + 1, l, hn, h => by
    have h1 := nodup_len n (l.erase (n : Int)) (hn.erase _) (fun x hx => by
      have hx' := List.mem_of_mem_erase hx
      have := h x hx'
      have hne : x ≠ (n : Int) := fun e => by
        subst e
        exact (List.Nodup.mem_erase_iff hn).1 hx |>.1 rfl
      omega)
    have h2 : l.length ≤ (l.erase (n : Int)).length + 1 := by
      by_cases hm : (n : Int) ∈ l
      · rw [List.length_erase_of_mem hm]; omega
      · rw [List.erase_of_not_mem hm]; omega
    omega

theorem row_all {r : List Int} (hn : r.Nodup) (hb : ∀ x ∈ r, 0 ≤ x ∧ x < r.length) : ∀ b, b < r.length → r.count (b : Int) = 1 := by
  intro b hlt
  have hmem : (b : Int) ∈ r := by
    refine Classical.byContradiction fun hm => ?_
    have := nodup_len r.length (r ++ [(b : Int)]) (by
      rw [List.nodup_append]
      refine ⟨hn, by simp, fun x hx y hy => ?_⟩
      simp at hy; subst hy
      intro e; subst e; exact hm hx) (fun x hx => by
      rcases List.mem_append.1 hx with h | h
      · exact hb x h
      · simp at h; omega)
    simp only [List.length_append, List.length_cons, List.length_nil] at this; omega
  have h1 := List.count_pos_iff.2 hmem
  have h2 := List.nodup_iff_count.1 hn (b : Int)
  omega

theorem countP_lt : ∀ (n : Nat) (r : List Int), (∀ b, b < n → r.count (b : Int) = 1) → r.countP (fun x => decide (0 ≤ x ∧ x < (n : Int))) = n
  | 0, r, _ => by
    rw [List.countP_eq_zero]
    intro x _; simp only [decide_eq_true_eq]; omega
  | n + 1, r, h => by
    have ih := countP_lt n r (fun b hb => h b (by omega))
    have h1 := h n (by omega)
    have : r.countP (fun x => decide (0 ≤ x ∧ x < ((n + 1 : Nat) : Int))) = r.countP (fun x => decide (0 ≤ x ∧ x < (n : Int))) + r.count (n : Int) := by
      clear ih h1 h
      induction r with
      | nil => simp
      | cons x r ih =>
        rw [List.countP_cons, List.count_cons, List.countP_cons, ih]
        by_cases h1 : x = (n : Int)
        · have h2 : decide (0 ≤ x ∧ x < (n : Int)) = false := decide_eq_false (by omega)
          have h3 : decide (0 ≤ x ∧ x < ((n + 1 : Nat) : Int)) = true := decide_eq_true (by omega)
          have h4 : (x == (n : Int)) = true := by rw [h1]; exact beq_self_eq_true _
          rw [h2, h3, h4]; simp only [if_true, Bool.false_eq_true, if_false]; omega
        · have h4 : (x == (n : Int)) = false := beq_eq_false_iff_ne.2 h1
          have h5 : decide (0 ≤ x ∧ x < ((n + 1 : Nat) : Int)) = decide (0 ≤ x ∧ x < (n : Int)) := by
            rw [decide_eq_decide]; omega
          rw [h4, h5]; simp only [Bool.false_eq_true, if_false]; omega
    omega

theorem IsRow.bound {r : List Int} (h : IsRow r) : ∀ x ∈ r, 0 ≤ x ∧ x < r.length := by
  have h1 := countP_lt r.length r h.one
  have h2 := List.countP_eq_length.1 h1
  intro x hx
  simpa using h2 x hx
theorem IsRow.nodup {r : List Int} (h : IsRow r) : r.Nodup := by
  rw [List.nodup_iff_count]
  intro x
  by_cases hx : x ∈ r
  · have hb := h.bound x hx
    have := h.one x.toNat (by omega)
    rw [show ((x.toNat : Nat) : Int) = x by omega] at this
    omega
  · rw [List.count_eq_zero_of_not_mem hx]; omega
theorem IsRow.at {r : List Int} (h : IsRow r) {i : Nat} (hi : i < r.length) : 0 ≤ r.getD i 0 ∧ r.getD i 0 < r.length := by
  have : r.getD i 0 = r[i] := by simp [hi]
  rw [this]; exact h.bound _ (List.getElem_mem hi)
theorem rowMay_ok {r : List Int} : rowMay r = 0 ↔ IsRow r := by
  unfold rowMay isRowB
  constructor
  · intro h
    split at h
    · cases h
    · split at h
      · rename_i h1 h2
        exact ⟨by omega, by omega, of_decide_eq_true h2⟩
      · cases h
  · intro h
    rw [if_neg (by have := h.pos; have := h.le; omega), if_pos (decide_eq_true h.one)]
theorem rowMay_of {r : List Int} (h1 : 1 ≤ r.length) (h2 : r.length ≤ 12) (hn : r.Nodup) (hb : ∀ x ∈ r, 0 ≤ x ∧ x < r.length) : rowMay r = 0 := rowMay_ok.2 ⟨h1, h2, row_all hn hb⟩
/-! ### Check's array -/
def seenL (r : List Int) (k : Nat) : List Int := (List.range 12).map fun (b : Nat) => (((r.take k).count (b : Int) : Nat) : Int)
theorem seenL_get (r : List Int) (k b : Nat) (hb : b < 12) : (seenL r k).getD b 0 = (((r.take k).count (b : Int) : Nat) : Int) := by simp [seenL, hb]
theorem take_snoc {α : Type} (r : List α) (d : α) (k : Nat) (h : k < r.length) : r.take (k + 1) = r.take k ++ [r.getD k d] := by
  rw [List.take_succ_eq_append_getElem h]; simp [h]
theorem gd (l : List Int) (j : Nat) (h : j < l.length) : l[j] = l.getD j 0 := by simp [h]
structure Upto (r : List Int) (k : Nat) : Prop where
  bd : ∀ x ∈ r.take k, 0 ≤ x ∧ x < r.length
  nd : (r.take k).Nodup
theorem Upto.zero (r : List Int) : Upto r 0 := ⟨by simp, by simp⟩
theorem Upto.step {r : List Int} {k : Nat} (h : Upto r k) (hk : k < r.length) (h0 : 0 ≤ r.getD k 0) (h1 : r.getD k 0 < r.length) (h2 : r.length ≤ 12) (h3 : (seenL r k).getD (r.getD k 0).toNat 0 ≤ 0) : Upto r (k + 1) := by
  have hc : (r.take k).count (r.getD k 0) = 0 := by
    rw [seenL_get r k _ (by omega)] at h3
    rw [show (((r.getD k 0).toNat : Nat) : Int) = r.getD k 0 by omega] at h3
    omega
  have hm : r.getD k 0 ∉ r.take k := List.count_eq_zero.1 hc
  refine ⟨fun x hx => ?_, ?_⟩
  · rw [take_snoc r 0 k hk] at hx
    rcases List.mem_append.1 hx with h' | h'
    · exact h.bd x h'
    · simp only [List.mem_singleton] at h'; subst h'; exact ⟨h0, h1⟩
  · rw [take_snoc r 0 k hk, List.nodup_append]
    refine ⟨h.nd, by simp, fun x hx y hy => ?_⟩
    simp only [List.mem_singleton] at hy; subst hy
    intro e; subst e; exact hm hx
theorem Upto.row {r : List Int} (h : Upto r r.length) (h1 : 1 ≤ r.length) (h2 : r.length ≤ 12) : rowMay r = 0 := by
  have hb := h.bd; have hn := h.nd
  rw [List.take_length] at hb hn
  exact rowMay_of h1 h2 hn hb
/-! ### a, changed by b -/
def byL (a b : List Int) : List Int := b.map fun k => a.getD k.toNat 0
def byTo (a b : List Int) (k : Nat) : List Int := (List.range a.length).map fun (i : Nat) => if i < k then a.getD (b.getD i 0).toNat 0 else 0
theorem byTo_len (a b : List Int) (k : Nat) : (byTo a b k).length = a.length := by simp [byTo]
theorem byTo_zero (a b : List Int) : byTo a b 0 = List.replicate a.length 0 := by
  refine List.ext_getElem (by simp [byTo]) fun j h1 h2 => by simp [byTo]
theorem byTo_step (a b : List Int) (k : Nat) : (byTo a b k).set k (a.getD (b.getD k 0).toNat 0) = byTo a b (k + 1) := by
  refine List.ext_getElem (by simp [byTo]) fun j h1 h2 => ?_
  rw [List.getElem_set]
  have hj : j < a.length := by simpa [byTo] using h2
  by_cases h : k = j
  · subst h
    rw [if_pos rfl]; simp only [byTo, List.getElem_map, List.getElem_range]; rw [if_pos (by omega)]
  · rw [if_neg h]; simp only [byTo, List.getElem_map, List.getElem_range]
    by_cases h' : j < k
    · rw [if_pos h', if_pos (by omega)]
    · rw [if_neg h', if_neg (by omega)]
theorem byTo_all (a b : List Int) (hl : a.length = b.length) : byTo a b b.length = byL a b := by
  refine List.ext_getElem (by simp [byTo, byL, hl]) fun j h1 h2 => ?_
  have hj : j < b.length := by simpa [byL] using h2
  simp only [byTo, byL, List.getElem_map, List.getElem_range]
  rw [if_pos hj, gd b j hj]
theorem byL_len (a b : List Int) : (byL a b).length = b.length := by simp [byL]
theorem byL_take_len (a b : List Int) (k : Nat) : (byL a (b.take k)).length ≤ k := by rw [byL_len]; exact List.length_take_le _ _
theorem byL_snoc (a b : List Int) (k : Nat) (hk : k < b.length) : byL a (b.take (k + 1)) = byL a (b.take k) ++ [a.getD (b.getD k 0).toNat 0] := by
  rw [take_snoc b 0 k hk]; simp [byL]
/-! ### What undoes a row -/
theorem idxOf_at {r : List Int} (hn : r.Nodup) {k : Nat} (hk : k < r.length) : r.idxOf (r.getD k 0) = k := by
  rw [← gd r k hk]; exact hn.idxOf_getElem k hk
theorem IsRow.mem {r : List Int} (h : IsRow r) {b : Nat} (hb : b < r.length) : (b : Int) ∈ r := List.count_pos_iff.1 (by rw [h.one b hb]; omega)
/-! ### Rounds -/
def roundsL (n : Nat) : List Int := (List.range n).map fun (i : Nat) => (i : Int)
theorem roundsL_len (n : Nat) : (roundsL n).length = n := by simp [roundsL]
theorem roundsL_succ (n : Nat) : roundsL (n + 1) = roundsL n ++ [(n : Int)] := by simp [roundsL, List.range_succ]
def firstTo (n k : Nat) : List Int := (List.range n).map fun (i : Nat) => if i < k then (i : Int) else 0
theorem firstTo_len (n k : Nat) : (firstTo n k).length = n := by simp [firstTo]
theorem firstTo_zero (n : Nat) : firstTo n 0 = List.replicate n 0 := by
  refine List.ext_getElem (by simp [firstTo]) fun j h1 h2 => by simp [firstTo]
theorem firstTo_step (n k : Nat) : (firstTo n k).set k (k : Int) = firstTo n (k + 1) := by
  refine List.ext_getElem (by simp [firstTo]) fun j h1 h2 => ?_
  rw [List.getElem_set]
  simp only [firstTo, List.getElem_map, List.getElem_range]
  by_cases h : k = j
  · subst h; rw [if_pos rfl, if_pos (by omega)]
  · rw [if_neg h]
    by_cases h' : j < k
    · rw [if_pos h', if_pos (by omega)]
    · rw [if_neg h', if_neg (by omega)]
theorem firstTo_all (n : Nat) : firstTo n n = roundsL n := List.map_congr_left fun b hb => by rw [if_pos (List.mem_range.1 hb)]
theorem roundsL_row {n : Nat} (h1 : 1 ≤ n) (h2 : n ≤ 12) : IsRow (roundsL n) := by
  refine ⟨by rw [roundsL_len]; exact h1, by rw [roundsL_len]; exact h2, row_all ?_ fun x hx => ?_⟩
  · refine List.Pairwise.map _ (R := fun a b => a ≠ b) (fun a b h e => h (by omega)) List.nodup_range
  · rw [roundsL_len]
    simp only [roundsL, List.mem_map, List.mem_range] at hx
    obtain ⟨i, hi, rfl⟩ := hx; omega

/-! ### Two rows -/
/-! ### Lists that are the same; where lists differ -/
theorem all_snoc {xs ys : List Int} {k : Nat} (h : ∀ j, j < k → xs.getD j 0 = ys.getD j 0) (e : ¬ (xs.getD k 0 ≠ ys.getD k 0)) : ∀ j, j < k + 1 → xs.getD j 0 = ys.getD j 0 := by
  intro j hj
  by_cases hjk : j = k
  · subst hjk; exact Classical.not_not.1 e
  · exact h j (by omega)
theorem list_ext {xs ys : List Int} (hl : xs.length = ys.length) (h : ∀ j, j < xs.length → xs.getD j 0 = ys.getD j 0) : xs = ys := by
  refine List.ext_getElem hl fun j h1 h2 => ?_
  have := h j h1
  simpa [h1, h2] using this
end Go.KL
