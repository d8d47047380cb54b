/- Plain maths: the rows of changes. -/
import Derived.Test.YtbilebfnanlgfaaKlPlace
namespace Go.KL

def okL : Int → List Int → Int → Prop
  | z, [], n => z ≤ n ∧ (n - z) % 2 = 0
  | z, p :: l, n => z < p ∧ p ≤ n ∧ (p - z) % 2 = 1 ∧ okL p l n
theorem okL_lt : ∀ {l : List Int} {z n : Int}, okL z l n → ∀ x ∈ l, z < x ∧ x ≤ n
  | [], _, _, _, x, hx => by simp at hx
  | p :: l, z, n, h, x, hx => by
    obtain ⟨h1, h2, _, h4⟩ := h
    rcases List.mem_cons.1 hx with e | hx
    · rw [e]; exact ⟨h1, h2⟩
    · have := okL_lt h4 x hx; omega
theorem okL_scan {n : Int} {l : List Int} (h : okL 0 l n) : ∀ k, k ≤ l.length → ∃ z, scanTo n l k = some z ∧ 0 ≤ z ∧ okL z (l.drop k) n
  | 0, _ => ⟨0, rfl, by omega, by simpa using h⟩
  | k + 1, hk => by
    obtain ⟨z, hs, hz, ho⟩ := okL_scan h k (by omega)
    have e : l.drop k = l.getD k 0 :: l.drop (k + 1) := by rw [List.drop_eq_getElem_cons (show k < l.length by omega), gd]
    rw [e] at ho
    obtain ⟨h1, h2, h3, h4⟩ := ho
    exact ⟨l.getD k 0, scan_step hs (by omega) (by omega) hz (by omega), by omega, h4⟩
theorem chgMay_of_okL {n : Int} {l : List Int} (hn : ¬ (n < 1 ∨ 12 < n)) (h : okL 0 l n) : chgMay n l = 0 := by
  obtain ⟨z, hs, hz, ho⟩ := okL_scan h l.length (Nat.le_refl _)
  rw [List.drop_length] at ho
  obtain ⟨h1, h2⟩ := ho
  exact chgMay_ok hn hs (by omega)
theorem chgMay_n {n : Int} {l : List Int} (h : chgMay n l = 0) : ¬ (n < 1 ∨ 12 < n) := fun hc => by rw [chgMay_cnt hc] at h; omega
theorem okL_of_chgMay {n : Int} {l : List Int} (h : chgMay n l = 0) : okL 0 l n := by
  have hn := chgMay_n h
  have key : ∀ d k, k + d = l.length → ∀ z, 0 ≤ z → z ≤ n → scanTo n l k = some z → okL z (l.drop k) n := by
    intro d
    induction d with
    | zero =>
      intro k hk z hz hzn hs
      have ek : k = l.length := by omega
      subst ek
      rw [List.drop_length]
      refine ⟨hzn, ?_⟩
      apply Classical.byContradiction; intro hc
      have := chgMay_odd hn hs (by omega)
      omega
    | succ d ih =>
      intro k hk z hz hzn hs
      have e : l.drop k = l.getD k 0 :: l.drop (k + 1) := by rw [List.drop_eq_getElem_cons (show k < l.length by omega), gd]
      have hb : ¬ (l.getD k 0 ≤ z ∨ n < l.getD k 0 ∨ (((l.getD k 0 - z).toNat % 2 : Nat) : Int) = 0) := fun hc => by
        have := chgMay_scan hn hs (show k < l.length by omega) hc
        omega
      rw [e]
      exact ⟨by omega, by omega, by omega, ih (k + 1) (by omega) _ (by omega) (by omega) (scan_step hs (by omega) (by omega) hz (by omega))⟩
  have := key l.length 0 (by omega) 0 (by omega) (by omega) rfl
  simpa using this
def rowF (l : List Int) (n : Nat) : Nat → Nat → List Int
  | 0, _ => []
  | f + 1, i => if n ≤ i then [] else if ((i : Int) + 1) ∈ l then (i : Int) :: rowF l n f (i + 1) else ((i : Int) + 1) :: (i : Int) :: rowF l n f (i + 2)
def chgRow (n : Nat) (l : List Int) : List Int := rowF l n n 0
theorem rowF_end {l : List Int} {n f i : Nat} (h : n ≤ i) : rowF l n f i = [] := by cases f <;> simp [rowF, h]
theorem rowF_yes {l xs zs : List Int} {n f i : Nat} (h : xs ++ rowF l n f i = zs) (hi : i < n) (hf : n ≤ f + i) (hc : ((i : Int) + 1) ∈ l) : (xs ++ [(i : Int)]) ++ rowF l n (f - 1) (i + 1) = zs := by
  obtain ⟨f, rfl⟩ : ∃ g, f = g + 1 := ⟨f - 1, by omega⟩
  rw [rowF, if_neg (by omega), if_pos hc] at h
  rw [← h]; simp
theorem rowF_no {l xs zs : List Int} {n f i : Nat} (h : xs ++ rowF l n f i = zs) (hi : i < n) (hf : n ≤ f + i) (hc : ((i : Int) + 1) ∉ l) : (xs ++ [(i : Int) + 1, (i : Int)]) ++ rowF l n (f - 1) (i + 2) = zs := by
  obtain ⟨f, rfl⟩ : ∃ g, f = g + 1 := ⟨f - 1, by omega⟩
  rw [rowF, if_neg (by omega), if_neg hc] at h
  rw [← h]; simp

structure AtC (n : Nat) (l : List Int) (i : Nat) where
  ex : ∃ L, okL i L n ∧ ∀ x, (i : Int) < x → (x ∈ l ↔ x ∈ L)
theorem AtC.zero {n : Nat} {l : List Int} (h : okL 0 l n) : AtC n l 0 := ⟨l, h, fun _ _ => Iff.rfl⟩
theorem AtC.le {n : Nat} {l : List Int} {i : Nat} (h : AtC n l i) : i ≤ n := by
  obtain ⟨L, ho, _⟩ := h.ex
  cases L with
  | nil => exact Int.ofNat_le.1 ho.1
  | cons p L => have := ho.1; have := ho.2.1; omega
theorem AtC.yes {n : Nat} {l : List Int} {i : Nat} (h : AtC n l i) (hc : ((i : Int) + 1) ∈ l) : AtC n l (i + 1) := by
  obtain ⟨L, ho, hm⟩ := h.ex
  have hL := (hm _ (by omega)).1 hc
  cases L with
  | nil => simp at hL
  | cons p L =>
    obtain ⟨h1, h2, h3, h4⟩ := ho
    have e : p = (i : Int) + 1 := by
      rcases List.mem_cons.1 hL with e | hm2
      · exact e.symm
      · have := (okL_lt h4 _ hm2).1; omega
    subst e
    refine ⟨L, by simpa using h4, fun x hx => ?_⟩
    rw [hm x (by omega), List.mem_cons]
    exact ⟨fun h => h.resolve_left (by omega), .inr⟩
theorem AtC.no {n : Nat} {l : List Int} {i : Nat} (h : AtC n l i) (hi : i < n) (hc : ((i : Int) + 1) ∉ l) : i + 2 ≤ n ∧ AtC n l (i + 2) := by
  obtain ⟨L, ho, hm⟩ := h.ex
  cases L with
  | nil =>
    obtain ⟨h1, h2⟩ := ho
    exact ⟨by omega, [], ⟨by omega, by omega⟩, fun x hx => hm x (by omega)⟩
  | cons p L =>
    obtain ⟨h1, h2, h3, h4⟩ := ho
    have hp : p ≠ (i : Int) + 1 := fun e => hc ((hm _ (by omega)).2 (by rw [← e]; simp))
    exact ⟨by omega, p :: L, ⟨by omega, h2, by omega, h4⟩, fun x hx => hm x (by omega)⟩
theorem rowF_len {n : Nat} {l : List Int} : ∀ (f i : Nat), AtC n l i → n ≤ f + i → (rowF l n f i).length = n - i
  | 0, i, _, hf => by simp [rowF]; omega
  | f + 1, i, h, hf => by
    by_cases hi : n ≤ i
    · rw [rowF_end hi]; simp; omega
    · by_cases hc : ((i : Int) + 1) ∈ l
      · rw [rowF, if_neg hi, if_pos hc, List.length_cons, rowF_len f _ (h.yes hc) (by omega)]; omega
      · have h2 := h.no (by omega) hc
        rw [rowF, if_neg hi, if_neg hc, List.length_cons, List.length_cons, rowF_len f _ h2.2 (by omega)]; omega
theorem chgRow_len {n : Nat} {l : List Int} (h : okL 0 l n) : (chgRow n l).length = n := by
  unfold chgRow; have := rowF_len n 0 (AtC.zero h) (by omega); simpa using this

def padTo (n : Nat) (xs : List Int) : List Int := xs ++ List.replicate (n - xs.length) 0
theorem padTo_len {n : Nat} {xs : List Int} (h : xs.length ≤ n) : (padTo n xs).length = n := by simp [padTo]; omega
theorem padTo_nil (n : Nat) : padTo n [] = List.replicate n 0 := by simp [padTo]
theorem padTo_set {n : Nat} {xs : List Int} (h : xs.length < n) (v : Int) {i : Nat} (hi : i = xs.length) : (padTo n xs).set i v = padTo n (xs ++ [v]) := by
  subst hi
  unfold padTo
  obtain ⟨m, hm⟩ : ∃ m, n - xs.length = m + 1 := ⟨n - xs.length - 1, by omega⟩
  rw [hm, List.replicate_succ, List.set_append_right _ _ (Nat.le_refl _)]
  simp [show n - (xs.length + 1) = m by omega]
theorem padTo_full {n : Nat} {xs : List Int} (h : xs.length = n) : padTo n xs = xs := by simp [padTo, h]
end Go.KL
