/- Plain maths: names by their runes. -/
import Derived.Test.YtbilebfnanlgfaaKlTruth
namespace Go.KL
theorem run0_facts {s : ByteArray} (h1 : 1 ≤ s.size) : ((s.get! 0).toNat < 128 ∧ runM s 0 = (s.get! 0).toNat ∧ wid s 0 = 1) ∨ (runM s 0 ≠ 32 ∧ 128 ≤ (s.get! (wid s 0 - 1)).toNat) := by
  by_cases hb : (s.get! 0).toNat < 128
  · exact .inl ⟨hb, rn_low hb⟩
  · refine .inr ?_
    have bad : runM s 0 = -1 ∧ wid s 0 = 1 → runM s 0 ≠ 32 ∧ 128 ≤ (s.get! (wid s 0 - 1)).toNat := fun ⟨a, b⟩ => by rw [a, b]; exact ⟨by decide, by simpa using hb⟩
    by_cases h2 : nB (s.get! 0).toNat = 0 ∨ s.size < nB (s.get! 0).toNat
    · exact bad (rn_short hb h2 h1)
    · have h0 : nB (s.get! 0).toNat ≠ 0 := fun e => h2 (.inl e)
      have hs : nB (s.get! 0).toNat ≤ s.size := by omega
      obtain ⟨j, hj⟩ : ∃ j, j + 1 = nB (s.get! 0).toNat := ⟨nB (s.get! 0).toNat - 1, by omega⟩
      have hjc := nB_cases h0 hj
      by_cases hc : ∀ i, i < j → 128 ≤ (s.get! (i + 1)).toNat ∧ (s.get! (i + 1)).toNat < 192
      · by_cases hv : accR s (cB (s.get! 0).toNat) j < lowB (s.get! 0).toNat ∨ 1114111 < accR s (cB (s.get! 0).toNat) j ∨ (55296 ≤ accR s (cB (s.get! 0).toNat) j ∧ accR s (cB (s.get! 0).toNat) j < 57344)
        · exact bad (rn_bad h0 hs hj hc hv)
        · obtain ⟨a, b⟩ := rn_ok h0 hs hj hc hv
          have hlow : 128 ≤ lowB (s.get! 0).toNat := by
            rcases hjc with ⟨_, h⟩ | ⟨_, h⟩ | ⟨_, h⟩
            · rw [(nb2 h).2.2]; omega
            · rw [(nb3 h).2.2]; omega
            · rw [(nb4 h).2.2]; omega
          rw [a, b]
          refine ⟨by omega, ?_⟩
          have := hc (j - 1) (by omega)
          rw [show nB (s.get! 0).toNat - 1 = j - 1 + 1 by omega]; exact this.1
      · obtain ⟨i, hi⟩ := Classical.not_forall.1 hc
        obtain ⟨hi1, hi2⟩ := Classical.not_imp.1 hi
        exact bad (rn_cont (j := i) (by omega) (by omega))
theorem run_facts {s : ByteArray} {p : Nat} (h : p < s.size) : ((s.get! p).toNat < 128 ∧ runM s p = (s.get! p).toNat ∧ wid s p = 1) ∨ (runM s p ≠ 32 ∧ 128 ≤ (s.get! (p + (wid s p - 1))).toNat) := by
  have h0 := run0_facts (s := s.extract p s.size) (by rw [ByteArray.size_extract]; omega)
  rwa [(ext_run s p).1, (ext_run s p).2, get_ext, get_ext, Nat.add_zero] at h0
theorem letter_m (s : ByteArray) (p : Nat) : letterB (runM s p) = letterB ((run1 s p : Nat) : Int) := by
  rcases run_m s p with h | ⟨h1, h2⟩
  · rw [h]
  · rw [h1, h2]; rfl
theorem runs_all (s : ByteArray) : ∀ (f p : Nat), (runsF s f p).all letterB = (runesF s f p).all (fun (c : Nat) => letterB (c : Int)) ∧ (runsF s f p).length = (runesF s f p).length
  | 0, p => ⟨rfl, rfl⟩
  | f + 1, p => by
    rw [runsF, runesF]
    obtain ⟨h1, h2⟩ := runs_all s f (p + wid s p)
    split
    · exact ⟨by rw [List.all_cons, List.all_cons, h1, letter_m], by rw [List.length_cons, List.length_cons, h2]⟩
    · exact ⟨rfl, rfl⟩
theorem runs_last {s : ByteArray} : ∀ (f p : Nat), p < s.size → s.size ≤ f + p → ((runsF s f p).getD ((runsF s f p).length - 1) 0 = 32 ↔ (s.get! (s.size - 1)).toNat = 32)
  | 0, p, h1, h2 => by omega
  | f + 1, p, h1, h2 => by
    have hw := wid_pos s p
    have hi := wid_in h1
    rw [runsF, if_pos h1]
    by_cases e : p + wid s p < s.size
    · have ih := runs_last f (p + wid s p) e (by omega)
      have hne : 1 ≤ (runsF s f (p + wid s p)).length := by
        rw [runsF_cons e (by omega), List.length_cons]; omega
      rw [List.length_cons, Nat.add_sub_cancel]
      obtain ⟨m, hm⟩ : ∃ m, (runsF s f (p + wid s p)).length = m + 1 := ⟨_, (Nat.sub_add_cancel hne).symm⟩
      rw [hm, List.getD_cons_succ]
      rw [hm, Nat.add_sub_cancel] at ih
      exact ih
    · rw [runsF_end (by omega)]
      show runM s p = 32 ↔ _
      rcases run_facts h1 with ⟨_, h4, h5⟩ | ⟨h3, h4⟩
      · rw [h4, show s.size - 1 = p by omega]; omega
      · rw [show p + (wid s p - 1) = s.size - 1 by omega] at h4
        constructor
        · intro h; exact absurd h h3
        · intro h; omega
def nameI (l : List Int) : Bool := decide (1 ≤ l.length ∧ l.length ≤ 20 ∧ l.getD 0 0 ≠ 32 ∧ l.getD (l.length - 1) 0 ≠ 32) && l.all letterB
theorem name_eq (s : ByteArray) : nameI (runsL s) = nameL s := by
  obtain ⟨h1, h2⟩ := runs_all s s.size 0
  unfold nameI nameL runsL runesL
  rw [h1, ← h2, Bool.and_comm]
  congr 1
  by_cases hz : s.size = 0
  · rw [runsF_end (s := s) (f := s.size) (p := 0) (by omega)]
    simp
  · have hl := runs_last (s := s) s.size 0 (by omega) (by omega)
    have hf : (runsF s s.size 0).getD 0 0 = 32 ↔ (s.get! 0).toNat = 32 := by
      rw [runsF_cons (s := s) (f := s.size) (p := 0) (by omega) (by omega), List.getD_cons_zero]
      rcases run_facts (s := s) (p := 0) (by omega) with ⟨_, h4, _⟩ | ⟨h3, h4⟩
      · rw [h4]; omega
      · constructor
        · intro h; exact absurd h h3
        · intro h
          have := (rn_low (s := s) (by omega)).1
          rw [h] at this; exact absurd this h3
    rw [Bool.eq_iff_iff]
    simp only [Bool.and_eq_true, decide_eq_true_eq]
    constructor
    · rintro ⟨a, b, c, d⟩
      exact ⟨⟨⟨by omega, by omega⟩, fun h => c (hf.2 (by omega))⟩, fun h => d (hl.2 (by omega))⟩
    · rintro ⟨⟨⟨a, b⟩, c⟩, d⟩
      exact ⟨by omega, by omega, fun h => c (by have := hf.1 h; omega), fun h => d (by have := hl.1 h; omega)⟩
theorem name_bad {l : List Int} (h : l.length < 1 ∨ 20 < l.length ∨ l.getD 0 0 = 32 ∨ l.getD (l.length - 1) 0 = 32) : nameI l = false := by
  unfold nameI
  rw [decide_eq_false (by omega), Bool.false_and]
theorem name_let {l : List Int} {i : Nat} (hi : i < l.length) (h : letterB (l.getD i 0) = false) : nameI l = false := by
  unfold nameI
  rw [Bool.and_eq_false_iff]; right
  rw [List.all_eq_false]
  exact ⟨_, mem_getDD 0 hi, by rw [h]; exact Bool.false_ne_true⟩
theorem name_good {l : List Int} (h : ¬ (l.length < 1 ∨ 20 < l.length ∨ l.getD 0 0 = 32 ∨ l.getD (l.length - 1) 0 = 32)) (h2 : ∀ i, i < l.length → letterB (l.getD i 0) = true) : nameI l = true := by
  unfold nameI
  rw [decide_eq_true (by omega), Bool.true_and, List.all_eq_true]
  intro x hx
  obtain ⟨i, hi, rfl⟩ := List.getElem_of_mem hx
  have := h2 i hi
  rw [List.getD_eq_getElem?_getD, List.getElem?_eq_getElem hi] at this; exact this
theorem pre_in {cs : List BCall} {i k : Nat} {s : Int} (hi : i ≤ cs.length) (hk : k < i) (h : (cs.getD k D0).1 = s) : s ∈ (cs.take i).map (·.1) := by
  rw [← h]
  refine List.mem_map.2 ⟨_, ?_, rfl⟩
  have := mem_getDD D0 (l := cs.take i) (k := k) (by rw [List.length_take]; omega)
  rwa [getD_takeD D0 hk] at this
theorem pre_out {cs : List BCall} {i : Nat} {s : Int} (hno : ∀ j, j < i → (cs.getD j D0).1 ≠ s) : s ∉ (cs.take i).map (·.1) := fun h => by
  obtain ⟨c, hc, e⟩ := List.mem_map.1 h
  obtain ⟨j, hj, hj2⟩ := List.getElem_of_mem hc
  have hj' : j < i := by rw [List.length_take] at hj; omega
  refine hno j hj' ?_
  rw [← getD_takeD D0 hj', List.getD_eq_getElem?_getD, List.getElem?_eq_getElem hj, Option.getD_some, hj2]; exact e
end Go.KL
