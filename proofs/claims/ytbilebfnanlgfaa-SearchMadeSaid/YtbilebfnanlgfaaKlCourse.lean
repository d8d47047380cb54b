/- Plain maths: courses. -/
import Derived.Test.YtbilebfnanlgfaaKlMeth
namespace Go.KL

/-! ### A row's order -/
theorem least_of {r : List Int} (hr : IsRow r) : ∀ (b : Nat), b < r.length → ∃ k, k < r.length ∧ least r k = true ∧ Leads r k b := by
  intro b
  induction b using Nat.strongRecOn with
  | ind b ih =>
    intro hb
    by_cases hl : least r b = true
    · exact ⟨b, hb, hl, 0, rfl⟩
    · rw [least_iff hr hb] at hl
      obtain ⟨k, hk⟩ := Classical.not_forall.1 hl
      obtain ⟨h1, h2⟩ := Classical.not_imp.1 hk
      obtain ⟨m, h3, h4, h5⟩ := ih k (by omega) (h1.lt hr hb)
      exact ⟨m, h3, h4, h5.trans (h1.symm hr hb)⟩
/-! ### Products -/
theorem byL_row {a b : List Int} (ha : IsRow a) (hb : IsRow b) (hl : a.length = b.length) : IsRow (byL a b) := by
  apply rowMay_ok.1
  refine rowMay_of (by rw [byL_len]; exact hb.pos) (by rw [byL_len]; exact hb.le) ?_ ?_
  · unfold byL
    rw [List.nodup_iff_pairwise_ne, List.pairwise_iff_getElem]
    intro i j hi hj hij e
    simp only [List.length_map] at hi hj
    simp only [List.getElem_map] at e
    rw [gd b i hi, gd b j hj] at e
    have bi := hb.at hi
    have bj := hb.at hj
    have h1 := idxOf_at ha.nodup (k := (b.getD i 0).toNat) (by omega)
    have h2 := idxOf_at ha.nodup (k := (b.getD j 0).toNat) (by omega)
    rw [e] at h1
    have e2 : b.getD i 0 = b.getD j 0 := by omega
    have h3 := idxOf_at hb.nodup hi
    have h4 := idxOf_at hb.nodup hj
    rw [e2] at h3; omega
  · intro x hx
    unfold byL at hx
    obtain ⟨y, hy, rfl⟩ := List.mem_map.1 hx
    have := hb.bound y hy
    have := ha.at (i := y.toNat) (by omega)
    rw [byL_len]; omega

/-! ### The rows of a lead, of a course -/
theorem curL_row {n : Nat} {l : List (List Int)} (h1 : 1 ≤ n) (h2 : n ≤ 12) (h : ∀ k, k < l.length → okL 0 (l.getD k []) n) : ∀ k, k ≤ l.length → IsRow (curL (roundsL n) l k) ∧ (curL (roundsL n) l k).length = n
  | 0, _ => ⟨roundsL_row h1 h2, roundsL_len n⟩
  | k + 1, hk => by
    obtain ⟨hr, hl⟩ := curL_row h1 h2 h k (by omega)
    have ho := h k (by omega)
    have hc := (ord_inv ho h1 h2).1
    rw [curL_succ _ l k (by omega), hl]
    exact ⟨byL_row hr hc (by rw [hl, chgRow_len ho]), by rw [byL_len, chgRow_len ho]⟩
def headL (n : Nat) (l : List (List Int)) : List Int := curL (roundsL n) l l.length
theorem methMay_ok' {s : ByteArray} {n : Int} {l : List (List Int)} (h : methMay s n l = 0) : MethOk s n.toNat l ∧ ((n.toNat : Nat) : Int) = n := by
  obtain ⟨m, rfl, hm⟩ := methMay_ok.1 h
  exact ⟨by rwa [Int.toNat_natCast], rfl⟩
theorem fromL_len (r : List Int) (l : List (List Int)) : (fromL r l).length = l.length + 1 := fromTo_len r l _
theorem MethOk.head {s : ByteArray} {n : Nat} {l : List (List Int)} (h : MethOk s n l) : IsRow (headL n l) ∧ (headL n l).length = n := curL_row (by have := h.n1; omega) h.n2 h.ok _ (Nat.le_refl _)
theorem MethOk.may {s : ByteArray} {n : Nat} {l : List (List Int)} (h : MethOk s n l) : methMay s n l = 0 := methMay_ok.2 ⟨n, rfl, h⟩
end Go.KL
