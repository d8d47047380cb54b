/- Plain maths: rows that are even, or odd and even by turns. -/
import Derived.Test.YtmdaialaphkhfagKlSign3
namespace Go.KL
def fillC (odd : Bool) (m : Nat) : List Int := ((List.range m).map fun (j : Nat) => (j : Int) + 1).filter fun x => !odd || decide (2 < x)
theorem fillC_zero (odd : Bool) : fillC odd 0 = [] := rfl
theorem fillC_yes {odd : Bool} {m : Nat} (h : (!odd || decide ((2 : Int) < ((m + 1 : Nat) : Int))) = true) : fillC odd (m + 1) = fillC odd m ++ [((m + 1 : Nat) : Int)] := by
  have h' : (!odd || decide ((2 : Int) < (m : Int) + 1)) = true := by rw [← h]; rfl
  unfold fillC
  rw [List.range_succ, List.map_append, List.filter_append]
  simp only [List.map_cons, List.map_nil, List.filter_cons, h', if_true, List.filter_nil]; rfl
theorem fillC_no {odd : Bool} {m : Nat} (h : (!odd || decide ((2 : Int) < ((m + 1 : Nat) : Int))) = false) : fillC odd (m + 1) = fillC odd m := by
  have h' : (!odd || decide ((2 : Int) < (m : Int) + 1)) = false := by rw [← h]; rfl
  unfold fillC
  rw [List.range_succ, List.map_append, List.filter_append]
  simp only [List.map_cons, List.map_nil, List.filter_cons, h', List.filter_nil]; simp
theorem fillC_len (odd : Bool) (m : Nat) : (fillC odd m).length ≤ m := by
  unfold fillC; exact Nat.le_trans (List.length_filter_le _ _) (by simp)
/-- Is a change of these places on n bells odd? -/
def oddC (n : Nat) (c : List Int) : Bool := decide (((((((n : Nat) : Int) - ((c.length : Nat) : Int)).toNat / 2) % 2 : Nat) : Int) = 1)
def halfC (n : Nat) (odd : Bool) (c : List Int) : List Int := if (oddC n c != odd) = true then fillC odd n else c
theorem okL_range : ∀ (m z : Nat), okL z ((List.range' z m).map fun (j : Nat) => (j : Int) + 1) ((z + m : Nat) : Int)
  | 0, z => ⟨by omega, by omega⟩
  | m + 1, z => by
    rw [List.range'_succ, List.map_cons]
    refine ⟨by omega, by omega, by omega, ?_⟩
    have := okL_range m (z + 1)
    rw [show z + 1 + m = z + (m + 1) by omega] at this
    exact_mod_cast this
theorem fillC_ok (odd : Bool) {n : Nat} (h3 : 3 ≤ n) : okL 0 (fillC odd n) n ∧ oddC n (fillC odd n) = odd := by
  cases odd with
  | false =>
    have e : fillC false n = (List.range n).map fun (j : Nat) => (j : Int) + 1 := by
      unfold fillC; rw [List.filter_eq_self]; intro x _; rfl
    rw [e]
    refine ⟨?_, ?_⟩
    · have := okL_range n 0
      rw [Nat.zero_add] at this
      rw [List.range_eq_range']; exact this
    · unfold oddC; simp
  | true =>
    have e : fillC true n = (List.range' 2 (n - 2)).map fun (j : Nat) => (j : Int) + 1 := by
      unfold fillC
      rw [List.range_eq_range', show n = 2 + (n - 2) by omega, ← List.range'_append_1, List.map_append, List.filter_append]
      have h1 : List.filter (fun x => !true || decide (2 < x)) (List.map (fun (j : Nat) => (j : Int) + 1) (List.range' 0 2)) = [] := by decide
      rw [h1, List.nil_append, List.filter_eq_self.2]
      · rw [show 2 + (n - 2) - 2 = n - 2 by omega]
      · intro x hx
        obtain ⟨k, hk, rfl⟩ := List.mem_map.1 hx
        have := (List.mem_range'_1.1 hk).1
        simp; omega
    rw [e]
    refine ⟨?_, ?_⟩
    · have := okL_range (n - 2) 2
      rw [show 2 + (n - 2) = n by omega] at this
      obtain ⟨m, hm⟩ : ∃ m, n - 2 = m + 1 := ⟨n - 3, by omega⟩
      rw [hm, List.range'_succ, List.map_cons] at this ⊢
      obtain ⟨_, h2, h3, h4⟩ := this
      exact ⟨by omega, h2, by omega, h4⟩
    · unfold oddC; simp; omega
theorem halfC_ok {n : Nat} (odd : Bool) (h3 : 3 ≤ n) {c : List Int} (hc : okL 0 c n) : okL 0 (halfC n odd c) n ∧ oddC n (halfC n odd c) = odd := by
  unfold halfC
  split
  · exact fillC_ok odd h3
  · rename_i h
    refine ⟨hc, ?_⟩
    revert h
    generalize oddC n c = a
    revert a odd; decide
def halfL (raw : List Int) (n : Nat) (odd : Bool) (many : Nat) : List (List Int) := (List.range many).map fun i => halfC n odd (changeOf (rawAt raw i) n)
theorem halfL_len (raw : List Int) (n : Nat) (odd : Bool) (many : Nat) : (halfL raw n odd many).length = many := by simp [halfL]
theorem halfL_succ (raw : List Int) (n : Nat) (odd : Bool) (k : Nat) : halfL raw n odd (k + 1) = halfL raw n odd k ++ [halfC n odd (changeOf (rawAt raw k) n)] := by simp [halfL, List.range_succ]
theorem halfL_get {raw : List Int} {n : Nat} {odd : Bool} {many k : Nat} (h : k < many) : (halfL raw n odd many).getD k [] = halfC n odd (changeOf (rawAt raw k) n) := by simp [halfL, h]
theorem half_meth {s : ByteArray} {raw : List Int} {n many : Nat} {odd : Bool} (hs : nameL s = true) (h1 : 3 ≤ n) (h2 : n ≤ 12) (h3 : 1 ≤ many) (h4 : many ≤ 200) : MethOk s n (halfL raw n odd many) :=
  ⟨hs, by omega, h2, by rw [halfL_len]; exact h3, by rw [halfL_len]; exact h4, fun k hk => by rw [halfL_len] at hk; rw [halfL_get hk]; exact (halfC_ok odd h1 (changeOf_ok _ _)).1⟩
theorem half_sign {raw : List Int} {n many : Nat} {odd : Bool} (h1 : 3 ≤ n) (h2 : n ≤ 12) : ∀ k, k ≤ many → IsRow (curL (roundsL n) (halfL raw n odd many) k) ∧ oddL (curL (roundsL n) (halfL raw n odd many) k) = (odd && decide (((k % 2 : Nat) : Int) = 1)) := by
  have hok : ∀ k, k < (halfL raw n odd many).length → okL 0 ((halfL raw n odd many).getD k []) n := fun k hk => by
    rw [halfL_len] at hk; rw [halfL_get hk]; exact (halfC_ok odd h1 (changeOf_ok _ _)).1
  intro k
  induction k with
  | zero =>
    intro _
    have hr := roundsL_row (n := n) (by omega) h2
    refine ⟨hr, ?_⟩
    show oddL (roundsL n) = _
    rw [oddL_inv hr, invB_rounds]; simp
  | succ k ih =>
    intro hk
    obtain ⟨hr, hs⟩ := ih (by omega)
    have hl := (curL_row (by omega) h2 hok k (by rw [halfL_len]; omega)).2
    have hkl : k < (halfL raw n odd many).length := by rw [halfL_len]; omega
    have ho := hok k hkl
    have hc := ord_inv ho (by omega) h2
    have hod : oddL (chgRow n ((halfL raw n odd many).getD k [])) = odd := by
      have := (halfC_ok odd h1 (changeOf_ok (rawAt raw k) n)).2
      rw [hc.2.2.1]
      rw [← halfL_get (raw := raw) (many := many) (by omega)] at this
      have hle := hc.2.2.2
      refine Eq.trans ?_ this
      unfold oddC
      rw [decide_eq_decide]; omega
    have hcl := chgRow_len ho
    rw [curL_succ _ _ k hkl, hl]
    refine ⟨byL_row hr hc.1 (by omega), ?_⟩
    rw [oddL_by hr hc.1 (by omega), hs, hod]
    have e : decide ((((k + 1) % 2 : Nat) : Int) = 1) = !decide (((k % 2 : Nat) : Int) = 1) := by
      by_cases q : ((k % 2 : Nat) : Int) = 1
      · rw [decide_eq_true q, decide_eq_false (by omega)]; rfl
      · rw [decide_eq_false q, decide_eq_true (by omega)]; rfl
    rw [e]
    have fin : ∀ q odd : Bool, ((odd && q) != odd) = (odd && !q) := by decide
    exact fin _ _
end Go.KL
