/- What is mirrored comes back: the maths. -/
import Derived.Test.YtlhnpkaohfoicaaKlCourse
import Derived.Test.YtlhnpkaohfoicaaKlTour
namespace Go.KL

/-- The changes, and j of those ahead of the last one, from the back. -/
def mirTo (l : List (List Int)) (j : Nat) : List (List Int) := l ++ (List.range j).map fun i => l.getD (l.length - 2 - i) []
theorem mirTo_zero (l : List (List Int)) : mirTo l 0 = l := by simp [mirTo]
theorem mirTo_len (l : List (List Int)) (j : Nat) : (mirTo l j).length = l.length + j := by simp [mirTo]
theorem mirTo_succ (l : List (List Int)) (j : Nat) : mirTo l (j + 1) = mirTo l j ++ [l.getD (l.length - 2 - j) []] := by
  unfold mirTo; rw [List.range_succ, List.map_append, List.append_assoc]; rfl
theorem mirTo_lo {l : List (List Int)} {j i : Nat} (h : i < l.length) : (mirTo l j).getD i [] = l.getD i [] := by
  unfold mirTo; simp only [List.getD_eq_getElem?_getD, List.getElem?_append_left h]
theorem mirTo_hi {l : List (List Int)} {j i : Nat} (h : l.length ≤ i) (h2 : i < l.length + j) : (mirTo l j).getD i [] = l.getD (l.length - 2 - (i - l.length)) [] := by
  unfold mirTo
  simp only [List.getD_eq_getElem?_getD, List.getElem?_append_right h]
  simp [show i - l.length < j by omega]
/-- It is the same from the back. -/
theorem mirTo_pal {l : List (List Int)} {i : Nat} (hi : i + 1 < 2 * l.length) : (mirTo l (l.length - 1)).getD i [] = (mirTo l (l.length - 1)).getD (2 * l.length - 2 - i) [] := by
  by_cases h : i < l.length
  · rw [mirTo_lo h]
    by_cases h2 : 2 * l.length - 2 - i < l.length
    · rw [mirTo_lo h2]; congr 1; omega
    · rw [mirTo_hi (by omega) (by omega)]; congr 1; omega
  · rw [mirTo_hi (by omega) (by omega), mirTo_lo (by omega)]; congr 1; omega
/-- Whether all changes but the last are the same backward. -/
def mirB (l : List (List Int)) : Bool := decide (∀ i, i < l.length - 1 → l.getD i [] = l.getD (l.length - 2 - i) [])
theorem cut_len (l : List (List Int)) : (l.take (l.length - 1)).length = l.length - 1 := by rw [List.length_take]; omega
theorem cut_get {l X : List (List Int)} (hX : X = l.take (l.length - 1)) {k : Nat} (hk : k < X.length) : X.getD k [] = l.getD k [] := by
  subst hX
  rw [cut_len] at hk
  rw [List.getD_eq_getElem?_getD, List.getD_eq_getElem?_getD, List.getElem?_take, if_pos hk]
theorem cut_eq {l X : List (List Int)} (hX : X = l.take (l.length - 1)) {k : Nat} (hk : k < X.length) : (X.getD k [] = X.getD (((((X.length : Nat) : Int) - (1 : Int)) - ((k : Nat) : Int))).toNat []) ↔ l.getD k [] = l.getD (l.length - 2 - k) [] := by
  have hl : X.length = l.length - 1 := by rw [hX, cut_len]
  rw [cut_get hX hk, cut_get hX (by omega), show (((((X.length : Nat) : Int) - (1 : Int)) - ((k : Nat) : Int))).toNat = l.length - 2 - k by omega]
theorem mirB_no {l X : List (List Int)} (hX : X = l.take (l.length - 1)) {k : Nat} (hk : k < X.length) (h : (!decide (X.getD k [] = X.getD (((((X.length : Nat) : Int) - (1 : Int)) - ((k : Nat) : Int))).toNat [])) = true) : mirB l = false := by
  have hl : X.length = l.length - 1 := by rw [hX, cut_len]
  simp only [Bool.not_eq_true', decide_eq_false_iff_not, cut_eq hX hk] at h
  exact decide_eq_false fun e => h (e k (by omega))
theorem mir_snoc {l X : List (List Int)} (hX : X = l.take (l.length - 1)) {k : Nat} (hk : k < X.length) (h : (!decide (X.getD k [] = X.getD (((((X.length : Nat) : Int) - (1 : Int)) - ((k : Nat) : Int))).toNat [])) = false) (hq : ∀ j, j < k → l.getD j [] = l.getD (l.length - 2 - j) []) : ∀ j, j < k + 1 → l.getD j [] = l.getD (l.length - 2 - j) [] := by
  have h : l.getD k [] = l.getD (l.length - 2 - k) [] := (cut_eq hX hk).1 (by simpa using h)
  intro j hj
  by_cases e : j = k
  · subst e; exact h
  · exact hq j (by omega)
def mirT (l : List (List Int)) (c : List Int) : List (List Int) := mirTo l (l.length - 1) ++ [c]
theorem mirT_len {l : List (List Int)} {c : List Int} (h : 1 ≤ l.length) : (mirT l c).length = 2 * l.length := by
  unfold mirT; rw [List.length_append, mirTo_len, List.length_singleton]; omega
theorem mirT_lo {l : List (List Int)} {c : List Int} {i : Nat} (hi : i + 1 < 2 * l.length) : (mirT l c).getD i [] = (mirTo l (l.length - 1)).getD i [] := by
  unfold mirT; simp only [List.getD_eq_getElem?_getD]; rw [List.getElem?_append_left (by rw [mirTo_len]; omega)]
theorem mirT_hi {l : List (List Int)} {c : List Int} (h : 1 ≤ l.length) : (mirT l c).getD (2 * l.length - 1) [] = c := by
  unfold mirT; simp only [List.getD_eq_getElem?_getD]; rw [List.getElem?_append_right (by rw [mirTo_len]; omega), mirTo_len]
  simp [show 2 * l.length - 1 - (l.length + (l.length - 1)) = 0 by omega]
theorem mirT_pal {l : List (List Int)} {c : List Int} {i : Nat} (hi : i + 1 < 2 * l.length) : (mirT l c).getD i [] = (mirT l c).getD (2 * l.length - 2 - i) [] := by
  rw [mirT_lo hi, mirT_lo (by omega), mirTo_pal hi]
theorem mirT_mir {l : List (List Int)} {c : List Int} (h : 1 ≤ l.length) : mirB (mirT l c) = true := by
  refine decide_eq_true fun i hi => ?_
  rw [mirT_len h] at hi ⊢
  exact mirT_pal (by omega)
theorem mirT_ok {raw : List Int} {n many : Nat} {x : Int} {i : Nat} (h : 1 ≤ many) (hi : i < 2 * many) : okL 0 ((mirT (changesOf raw 0 n many) (changeOf x n)).getD i []) n := by
  have hl := changesOf_len raw 0 n many
  have hg : ∀ j, j < many → okL 0 ((changesOf raw 0 n many).getD j []) n := fun j hj => by rw [changesOf_get hj]; exact changeOf_ok _ _
  by_cases e : i = 2 * many - 1
  · subst e
    have := mirT_hi (l := changesOf raw 0 n many) (c := changeOf x n) (by omega)
    rw [hl] at this; rw [this]; exact changeOf_ok _ _
  · rw [mirT_lo (by omega)]
    by_cases h2 : i < many
    · rw [mirTo_lo (by omega)]; exact hg i h2
    · rw [mirTo_hi (by omega) (by omega)]; exact hg _ (by omega)
theorem mir_meth {s : ByteArray} {raw : List Int} {n many : Nat} {x : Int} (hs : nameL s = true) (h1 : 2 ≤ n) (h2 : n ≤ 12) (h3 : 1 ≤ many) (h4 : many ≤ 100) : MethOk s n (mirT (changesOf raw 0 n many) (changeOf x n)) := by
  have hl := mirT_len (l := changesOf raw 0 n many) (c := changeOf x n) (by rw [changesOf_len]; exact h3)
  rw [changesOf_len] at hl
  exact ⟨hs, h1, h2, by omega, by omega, fun k hk => mirT_ok h3 (by omega)⟩

/-- A product of changes that is the same from the back is none twice. -/
theorem pal_twice {n m : Nat} {l : List (List Int)} (h1 : 1 ≤ n) (h2 : n ≤ 12) (hm : m ≤ l.length) (hok : ∀ k, k < l.length → okL 0 (l.getD k []) n) (hp : ∀ i, i < m → l.getD i [] = l.getD (m - 1 - i) []) :
    byL (curL (roundsL n) l m) (curL (roundsL n) l m) = roundsL n := by
  have hrow := curL_row h1 h2 hok
  have key : ∀ j, j ≤ m → byL (curL (roundsL n) l m) (curL (roundsL n) l j) = curL (roundsL n) l (m - j) := by
    intro j
    induction j with
    | zero => intro _; show byL _ (curL (roundsL n) l 0) = _; rw [show curL (roundsL n) l 0 = roundsL n by simp [curL], byL_rounds_right (hrow m hm).2, Nat.sub_zero]
    | succ j ih =>
      intro hj
      have hlj := (hrow j (by omega)).2
      have hli := (hrow (m - j - 1) (by omega)).2
      have ho := hok j (by omega)
      have hpj : l.getD j [] = l.getD (m - j - 1) [] := by rw [hp j (by omega)]; congr 1; omega
      have hin : In n (chgRow n (l.getD j [])) := fun i hi => chgRow_bd ho hi
      have e1 : curL (roundsL n) l (m - j) = byL (curL (roundsL n) l (m - j - 1)) (chgRow n (l.getD (m - j - 1) [])) := by
        have := curL_succ (roundsL n) l (m - j - 1) (by omega)
        rw [show m - j - 1 + 1 = m - j by omega, hli] at this; exact this
      rw [curL_succ (roundsL n) l j (by omega), hlj, byL_assoc _ _ _ (by rw [hlj]; exact hin), ih (by omega), e1, ← hpj, ← byL_assoc _ _ _ (by rw [chgRow_len ho]; exact hin), piece_twice (chgRow_piece ho).1, byL_rounds_right hli]
      rfl
  have := key m (Nat.le_refl _)
  rw [this, Nat.sub_self]; simp [curL]
theorem ord_twice {r : List Int} (hr : IsRow r) (h : byL r r = roundsL r.length) : ordL r ≤ 2 := by
  refine Nat.le_of_dvd (by decide) (ordL_least hr (m := 2) fun b hb => ?_)
  have : (byL r r).getD b 0 = (roundsL r.length).getD b 0 := by rw [h]
  rw [byL_get _ _ b hb, roundsL_get hb] at this
  show nxt r (nxt r b) = b
  unfold nxt
  omega
end Go.KL
