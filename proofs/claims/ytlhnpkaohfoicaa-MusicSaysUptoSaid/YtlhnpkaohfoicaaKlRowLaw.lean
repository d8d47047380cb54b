/- What the law RowSays wants beside: cycles as the document finds them, text by signs. -/
import Derived.Test.YtlhnpkaohfoicaaKlRead
namespace Go.KL
theorem lists_ext {a b : List (List Int)} (hl : a.length = b.length) (h : ∀ j, j < a.length → a.getD j [] = b.getD j []) : a = b := by
  refine List.ext_getElem hl fun j h1 h2 => ?_
  have := h j h1
  simpa [h1, h2] using this
theorem all_snocs {xs ys : List (List Int)} {k : Nat} (h : ∀ j, j < k → xs.getD j [] = ys.getD j []) (e : xs.getD k [] = ys.getD k []) : ∀ j, j < k + 1 → xs.getD j [] = ys.getD j [] := by
  intro j hj
  by_cases hjk : j = k
  · subst hjk; exact e
  · exact h j (by omega)
theorem at_in {n k : Int} (h : atMay n k = 0) : ¬ (n < 1 ∨ 12 < n) ∧ 0 ≤ k ∧ k < ((fct n.toNat : Nat) : Int) := by
  unfold atMay at h
  by_cases h1 : n < 1 ∨ 12 < n
  · rw [if_pos h1] at h; omega
  · rw [if_neg h1] at h
    by_cases h2 : k < 0 ∨ ((fct n.toNat : Nat) : Int) ≤ k
    · rw [if_pos h2] at h; omega
    · exact ⟨h1, by omega, by omega⟩
theorem at_dec {n k : Int} (h : ¬ (n < 1 ∨ 12 < n)) : decide (atMay n k = 0) = (decide (0 ≤ k) && decide (k < ((fct n.toNat : Nat) : Int))) := by
  rw [Bool.eq_iff_iff]
  simp only [Bool.and_eq_true, decide_eq_true_eq]
  constructor
  · intro e; exact (at_in e).2
  · intro e; exact atMay_ok h (by omega)
theorem at_or {n k : Int} (h : ¬ (n < 1 ∨ 12 < n)) : atMay n k = 0 ∨ atMay n k = 12 := by
  unfold atMay
  rw [if_neg h]
  split
  · exact .inr rfl
  · exact .inl rfl
def lessB (r : List Int) (b m : Nat) : Bool := (List.range m).all fun x => decide (b ≤ itr r b x)
theorem lessB_one (r : List Int) (b : Nat) : lessB r b 1 = true := by simp [lessB, itr]
theorem lessB_succ {r : List Int} {b m : Nat} (h : ¬ itr r b m = b) : lessB r b (m + 1) = (lessB r b m && decide (((b : Nat) : Int) < ((itr r b m : Nat) : Int))) := by
  have e : decide (b ≤ itr r b m) = decide (((b : Nat) : Int) < ((itr r b m : Nat) : Int)) := by rw [decide_eq_decide]; omega
  unfold lessB
  rw [List.range_succ, List.all_append]
  simp only [List.all_cons, List.all_nil, Bool.and_true]
  rw [e]
theorem lessB_per (r : List Int) (b : Nat) : lessB r b (per r b) = least r b := rfl
theorem cr_go {r : List Int} (h : IsRow r) {b m : Nat} (hb : b < r.length) (hm : m + 1 ≤ per r b) (c : ¬ itr r b (m + 1) = b) : m + 1 + 1 ≤ per r b := by
  have hp := per_spec h hb
  refine Classical.byContradiction fun hn => c ?_
  rw [show m + 1 = per r b by omega]; exact hp.2.2.1
theorem cr_end {r : List Int} (h : IsRow r) {b m : Nat} (hb : b < r.length) (hm : m + 1 ≤ per r b) (c : itr r b (m + 1) = b) : m + 1 = per r b := by
  have hp := per_spec h hb
  refine Classical.byContradiction fun hn => ?_
  exact hp.2.2.2 (m + 1) (by omega) (by omega) c
theorem orbTo_per (r : List Int) (b : Nat) : orbTo r b (per r b) = orb r b := rfl
theorem orbTo_one (r : List Int) (b : Nat) : orbTo r b 1 = [((b : Nat) : Int)] := by simp [orbTo, itr]
theorem bsL_cat (l m : List UInt8) : bsL l ++ bsL m = bsL (l ++ m) := by
  apply ByteArray.ext
  simp [bsL, ByteArray.data_append]
/-- One more sign. -/
theorem sign_cat {r : List Int} {k : Nat} (hk : k < r.length) (h0 : 0 ≤ r.getD k 0) (h1 : r.getD k 0 < 12) :
    bsL (signsB (r.take k)) ++ SIGNS.extract (r.getD k 0).toNat (r.getD k 0 + 1).toNat = bsL (signsB (r.take (k + 1))) := by
  rw [signsB_take r k hk]
  have hq : (r.getD k 0).toNat < 12 := by omega
  rw [show (r.getD k 0 + 1).toNat = (r.getD k 0).toNat + 1 by omega]
  generalize (r.getD k 0).toNat = q at hq
  have : ∀ i : Fin 12, SIGNS.extract i.val (i.val + 1) = bsL [SIGNS.get! i.val] := by decide
  rw [this ⟨q, hq⟩]
  exact bsL_cat _ _
end Go.KL
