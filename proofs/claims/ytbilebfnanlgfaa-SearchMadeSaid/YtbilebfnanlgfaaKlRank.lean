/- The place of a row among all of its bells, counted in two ways; the row at a place. -/
import Derived.Test.YtbilebfnanlgfaaKlSign3
namespace Go.KL
def fct : Nat → Nat
  | 0 => 1
  | n + 1 => (n + 1) * fct n
theorem fct_pos : ∀ n, 1 ≤ fct n
  | 0 => by decide
  | n + 1 => Nat.mul_pos (by omega) (fct_pos n)
theorem fct_le_succ (n : Nat) : fct n ≤ fct (n + 1) := by
  have := fct_pos n
  rw [fct, Nat.succ_mul]; omega
theorem fct_mono {m n : Nat} (h : m ≤ n) : fct m ≤ fct n := by
  induction h with
  | refl => exact Nat.le_refl _
  | step _ ih => exact Nat.le_trans ih (fct_le_succ _)
theorem fct_12 : fct 12 = 479001600 := by decide
theorem fct_le12 {n : Nat} (h : n ≤ 12) : fct n ≤ 479001600 := by rw [← fct_12]; exact fct_mono h
def lessN (b : Int) (r : List Int) : Nat := r.countP fun c => decide (c < b)
theorem lessN_le (b : Int) (r : List Int) : lessN b r ≤ r.length := List.countP_le_length
def rankL : List Int → Nat
  | [] => 0
  | b :: r => lessN b r * fct r.length + rankL r
theorem rankL_lt : ∀ r : List Int, rankL r < fct r.length
  | [] => by decide
  | b :: r => by
    have h1 := rankL_lt r
    have h2 : lessN b r * fct r.length ≤ r.length * fct r.length := Nat.mul_le_mul_right _ (lessN_le b r)
    rw [rankL, List.length_cons, fct, Nat.succ_mul]; omega
theorem rank_step {r : List Int} {i : Nat} (h : i < r.length) : rankL (r.drop i) = lessN (r.getD i 0) (r.drop (i + 1)) * fct (r.length - i - 1) + rankL (r.drop (i + 1)) := by
  rw [List.drop_eq_getElem_cons h, rankL]
  have e : r[i] = r.getD i 0 := by simp [h]
  rw [e, List.length_drop, Nat.sub_add_eq]
theorem place_step {r : List Int} {i k : Nat} (h : i < r.length) (hk : k * fct (r.length - i) + rankL (r.drop i) = rankL r) :
    (k * (r.length - i) + lessN (r.getD i 0) (r.drop (i + 1))) * fct (r.length - (i + 1)) + rankL (r.drop (i + 1)) = rankL r := by
  rw [rank_step h] at hk
  obtain ⟨m, hm⟩ : ∃ m, r.length - i = m + 1 := ⟨r.length - i - 1, by omega⟩
  rw [show r.length - (i + 1) = m by omega]
  rw [show r.length - i - 1 = m by omega, hm, fct] at hk
  rw [hm, Nat.add_mul, Nat.mul_assoc]; omega
theorem place_le {r : List Int} {i k : Nat} (hk : k * fct (r.length - i) + rankL (r.drop i) = rankL r) : k ≤ rankL r := by
  have h1 := fct_pos (r.length - i)
  have : k * 1 ≤ k * fct (r.length - i) := Nat.mul_le_mul_left _ h1
  omega
theorem place_end {r : List Int} {k : Nat} (hk : k * fct (r.length - r.length) + rankL (r.drop r.length) = rankL r) : k = rankL r := by
  rw [Nat.sub_self, List.drop_length, fct, Nat.mul_one] at hk
  exact hk
theorem lessN_snoc (b : Int) (r : List Int) (j : Nat) (h : j < r.length) : lessN b (r.take (j + 1)) = lessN b (r.take j) + (if r.getD j 0 < b then 1 else 0) := by
  unfold lessN
  rw [take_snoc r 0 j h, List.countP_append]
  simp
theorem lessN_rounds {n : Nat} (b : Nat) (hb : b ≤ n) : lessN b (roundsL n) = b := by
  unfold lessN roundsL
  rw [List.countP_map]
  have : (List.range n).countP ((fun c : Int => decide (c < (b : Int))) ∘ fun (i : Nat) => (i : Int)) = (List.range n).countP (fun i => decide (i < b)) := List.countP_congr fun i _ => by simp
  rw [this]
  clear this
  induction n with
  | zero => simp; omega
  | succ n ih =>
    rw [List.range_succ, List.countP_append]
    by_cases h : b ≤ n
    · rw [ih h]; simp; omega
    · have : b = n + 1 := by omega
      subst this
      have e : (List.range n).countP (fun i => decide (i < n + 1)) = n := by
        rw [List.countP_eq_length.2 (fun x hx => by have := List.mem_range.1 hx; simp; omega)]; simp
      rw [e]; simp
theorem lessN_perm {b : Int} {r s : List Int} (h : r.Perm s) : lessN b r = lessN b s := h.countP_eq _
theorem lessN_row {r : List Int} (hr : IsRow r) {i : Nat} (hi : i < r.length) : ((lessN (r.getD i 0) r : Nat) : Int) = r.getD i 0 := by
  have hb := hr.at hi
  obtain ⟨b, hb'⟩ : ∃ b : Nat, r.getD i 0 = (b : Int) := ⟨(r.getD i 0).toNat, by omega⟩
  rw [hb', lessN_perm (row_perm hr), lessN_rounds b (by omega)]
theorem lessN_split (b : Int) (r : List Int) (i : Nat) : lessN b r = lessN b (r.take i) + lessN b (r.drop i) := by
  unfold lessN; rw [← List.countP_append, List.take_append_drop]
theorem less_after {r : List Int} (hr : IsRow r) {i : Nat} (hi : i < r.length) : r.getD i 0 - ((lessN (r.getD i 0) (r.take i) : Nat) : Int) = ((lessN (r.getD i 0) (r.drop (i + 1)) : Nat) : Int) := by
  have h1 := lessN_row hr hi
  have h2 := lessN_split (r.getD i 0) r i
  have h3 : lessN (r.getD i 0) (r.drop i) = lessN (r.getD i 0) (r.drop (i + 1)) := by
    rw [List.drop_eq_getElem_cons hi]
    unfold lessN
    rw [List.countP_cons]
    have e : r[i] = r.getD i 0 := by simp [hi]
    rw [e]; simp
  omega
theorem rank_step' {r : List Int} {i k : Nat} (h : i < r.length) (hk : k + rankL (r.drop i) = rankL r) : (k + lessN (r.getD i 0) (r.drop (i + 1)) * fct (r.length - 1 - i)) + rankL (r.drop (i + 1)) = rankL r := by
  rw [rank_step h] at hk
  rw [show r.length - 1 - i = r.length - i - 1 by omega]; omega
theorem rankL_inj : ∀ (r s : List Int), r.Perm s → rankL r = rankL s → r = s
  | [], s, h, _ => by
    have := h.length_eq
    exact (List.eq_nil_of_length_eq_zero (by simpa using this.symm)).symm
  | b :: r, [], h, _ => by have := h.length_eq; simp at this
  | b :: r, c :: s, h, e => by
    have hl : r.length = s.length := by have := h.length_eq; simpa using this
    rw [rankL, rankL, hl] at e
    have h1 := rankL_lt r
    have h2 := rankL_lt s
    rw [hl] at h1
    have hp := fct_pos s.length
    have e1 : lessN b r = lessN c s := by
      have ha : (lessN b r * fct s.length + rankL r) / fct s.length = lessN b r := by rw [Nat.add_comm, Nat.add_mul_div_right _ _ hp, Nat.div_eq_of_lt h1, Nat.zero_add]
      have hb : (lessN c s * fct s.length + rankL s) / fct s.length = lessN c s := by rw [Nat.add_comm, Nat.add_mul_div_right _ _ hp, Nat.div_eq_of_lt h2, Nat.zero_add]
      rw [← ha, e, hb]
    have e2 : rankL r = rankL s := by rw [e1] at e; omega
    have hb : lessN b r = lessN b (b :: r) := by simp [lessN]
    have hc : lessN c s = lessN c (c :: s) := by simp [lessN]
    have e3 : lessN b (b :: r) = lessN c (b :: r) := by rw [← hb, e1, hc]; exact (lessN_perm h).symm
    have lt : ∀ (x y : Int) (l : List Int), x ∈ l → x < y → lessN x l < lessN y l := by
      intro x y l hx hxy
      unfold lessN
      induction l with
      | nil => cases hx
      | cons z l ih =>
        have mono : l.countP (fun c => decide (c < x)) ≤ l.countP (fun c => decide (c < y)) := List.countP_mono_left fun w _ hw => by simp at hw ⊢; omega
        rw [List.countP_cons, List.countP_cons]
        by_cases hz : z = x
        · subst hz
          simp [hxy]; omega
        · have := ih (by simpa [Ne.symm hz] using hx)
          by_cases h1 : z < x
          · have h2 : z < y := by omega
            simp [h1, h2]; omega
          · simp [h1]; split <;> omega
    have hbc : b = c := by
      rcases Int.lt_trichotomy b c with h3 | h3 | h3
      · have := lt b c (b :: r) (by simp) h3; omega
      · exact h3
      · have := lt c b (b :: r) (h.mem_iff.2 (by simp)) h3; omega
    subst hbc
    rw [rankL_inj r s (List.perm_cons b |>.1 h) e2]
theorem rank_row_inj {r s : List Int} (hr : IsRow r) (hs : IsRow s) (hl : r.length = s.length) (e : rankL r = rankL s) : r = s :=
  rankL_inj r s ((row_perm hr).trans (by rw [hl]; exact (row_perm hs).symm)) e
/-! ### The row at a place -/
end Go.KL
