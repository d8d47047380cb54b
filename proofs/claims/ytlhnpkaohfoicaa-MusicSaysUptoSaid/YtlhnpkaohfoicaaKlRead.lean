/- Rows read and written as text; the row at a place; the laws of rows. -/
import Derived.Test.YtlhnpkaohfoicaaKlDel
import Derived.Test.YtlhnpkaohfoicaaKlRing
namespace Go.KL
theorem run1_lo {s : ByteArray} {p : Nat} (hb : (s.get! p).toNat < 128) : run1 s p = (s.get! p).toNat ∧ wid s p = 1 := by
  unfold run1 wid Utf8.decode
  simp only [Nat.add_zero]
  rw [if_pos hb]
  exact ⟨rfl, rfl⟩
theorem run1_hi {s : ByteArray} {p : Nat} (hb : 128 ≤ (s.get! p).toNat) : 128 ≤ run1 s p := by
  unfold run1 Utf8.decode
  simp only [Nat.add_zero]
  rw [if_neg (by omega)]
  repeat' split
  all_goals first
    | (show 128 ≤ Utf8.runeError; decide)
    | (simp_all <;> omega)
    | (simp only []; omega)
theorem run1_bd (s : ByteArray) (p : Nat) : run1 s p ≤ 1114111 := by
  unfold run1 Utf8.decode
  simp only
  have hm : ∀ m : Nat, m % 64 < 64 := fun m => Nat.mod_lt _ (by decide)
  have hv : ∀ c : Nat, Utf8.valid ((c : Nat) : Int) = true → c ≤ 1114111 := fun c h => by
    unfold Utf8.valid at h
    simp only [Bool.or_eq_true, Bool.and_eq_true, decide_eq_true_eq] at h
    omega
  repeat' split
  all_goals first
    | (show Utf8.runeError ≤ _; decide)
    | (rename_i h; simp only [Bool.and_eq_true] at h; exact hv _ h.2)
    | (have h1 := hm (s.get! (p + 1)).toNat
       have h2 : (s.get! (p + 0)).toNat % 32 < 32 := Nat.mod_lt _ (by decide)
       simp only []
       omega)
/-- The signs' numbers of a text's first bytes. -/
def readTo (s : ByteArray) (p : Nat) : List Int := (List.range p).map fun j => signIdx (((s.get! j).toNat : Nat) : Int)
theorem readTo_len (s : ByteArray) (p : Nat) : (readTo s p).length = p := by simp [readTo]
theorem readTo_succ (s : ByteArray) (p : Nat) : readTo s (p + 1) = readTo s p ++ [signIdx (((s.get! p).toNat : Nat) : Int)] := by simp [readTo, List.range_succ]
def txtMay (s : ByteArray) : Int := if ∀ j, j < s.size → 0 ≤ signIdx (((s.get! j).toNat : Nat) : Int) then rowMay (readTo s s.size) else 4
theorem txtMay_bad {s : ByteArray} {p : Nat} (hp : p < s.size) (h : signIdx (((s.get! p).toNat : Nat) : Int) < 0) : txtMay s = 4 := by
  unfold txtMay; rw [if_neg]
  intro hh; have := hh p hp; omega
theorem txtMay_ok {s : ByteArray} (h : ∀ j, j < s.size → 0 ≤ signIdx (((s.get! j).toNat : Nat) : Int)) : txtMay s = rowMay (readTo s s.size) := if_pos h
theorem rune_bad {s : ByteArray} {p : Nat} (hp : p < s.size) (h : signIdx ((run1 s p : Nat) : Int) < 0) : txtMay s = 4 := by
  refine txtMay_bad hp ?_
  by_cases hb : (s.get! p).toNat < 128
  · rw [(run1_lo hb).1] at h; exact h
  · rw [signIdx_hi (by omega)]; decide
theorem rune_good {s : ByteArray} {p : Nat} (h : ¬ signIdx ((run1 s p : Nat) : Int) < 0) : (s.get! p).toNat < 128 ∧ run1 s p = (s.get! p).toNat ∧ wid s p = 1 := by
  by_cases hb : (s.get! p).toNat < 128
  · exact ⟨hb, run1_lo hb⟩
  · exfalso; apply h
    have := run1_hi (s := s) (p := p) (by omega)
    rw [signIdx_hi (by omega)]; decide
theorem bell_sign {c : Int} (h0 : 0 ≤ c) (h1 : c < 256) : Lib.indexByte SIGNS.data.toList c.toNat.toUInt8 = signIdx c := by
  by_cases h : c < 128
  · exact (signIdx_lo h0 h).symm
  · rw [signIdx_hi (by omega)]
    have := signs_cut (l := 0) (c := c) (by omega) h1
    have e : SIGNS.extract 0 SIGNS.size = SIGNS := by decide
    rw [e] at this; exact this
theorem signs_inj {i j : Nat} (hi : i < 12) (hj : j < 12) (h : (SIGNS.get! i).toNat = (SIGNS.get! j).toNat) : i = j := by
  have : ∀ i j : Fin 12, (SIGNS.get! i).toNat = (SIGNS.get! j).toNat → i = j := by decide
  have := this ⟨i, hi⟩ ⟨j, hj⟩ h
  simpa using this
theorem sign_of {k : Nat} (h : k < 12) : signIdx (((SIGNS.get! k).toNat : Nat) : Int) = k := by
  have h1 := signs_lt h
  rw [signIdx_lo (by omega) (by omega)]
  refine ixs_yes (by omega) (by omega) (by rw [signs_size]; exact h) rfl (fun j hj e => ?_)
  have := signs_inj (i := j) (j := k) (by omega) h (by omega)
  omega
theorem bsL_size (l : List UInt8) : (bsL l).size = l.length := by simp [bsL, ByteArray.size]
theorem bsL_get {l : List UInt8} {j : Nat} (h : j < l.length) : (bsL l).get! j = l[j] := by
  rw [get_list (by rw [bsL_size]; exact h)]
  simp [bsL]
theorem IsRow.lt12 {r : List Int} (h : IsRow r) {i : Nat} (hi : i < r.length) : 0 ≤ r.getD i 0 ∧ r.getD i 0 < 12 := by
  have := h.at hi; have := h.le; omega
theorem text_get {r : List Int} (h : IsRow r) {j : Nat} (hj : j < r.length) : signIdx ((((bsL (signsB r)).get! j).toNat : Nat) : Int) = r.getD j 0 := by
  rw [bsL_get (by rw [signsB_len]; exact hj)]
  have e : (signsB r)[j]'(by rw [signsB_len]; exact hj) = SIGNS.get! (r.getD j 0).toNat := by simp [signsB, hj]
  have h12 := h.lt12 hj
  have hk : (r.getD j 0).toNat < 12 := by omega
  generalize hq : (r.getD j 0).toNat = q at e hk
  rw [e]
  refine (sign_of hk).trans ?_
  omega
/-- There and back. -/
theorem read_text {r : List Int} (h : IsRow r) : readTo (bsL (signsB r)) (bsL (signsB r)).size = r ∧ txtMay (bsL (signsB r)) = 0 := by
  have hs : (bsL (signsB r)).size = r.length := by rw [bsL_size, signsB_len]
  have hr : readTo (bsL (signsB r)) (bsL (signsB r)).size = r := by
    rw [hs]
    refine list_ext (readTo_len _ _) (fun j hj => ?_)
    rw [readTo_len] at hj
    rw [readTo, List.getD_eq_getElem?_getD, List.getElem?_map, List.getElem?_range hj, Option.map_some, Option.getD_some]
    exact text_get h hj
  refine ⟨hr, ?_⟩
  rw [txtMay_ok, hr, rowMay_ok.2 h]
  intro j hj
  rw [hs] at hj
  rw [text_get h hj]; exact (h.at hj).1
/-- The row at a place. -/
def atMay (n k : Int) : Int := if n < 1 ∨ 12 < n then 1 else if k < 0 ∨ ((fct n.toNat : Nat) : Int) ≤ k then 12 else 0
theorem atMay_cnt {n k : Int} (h : n < 1 ∨ 12 < n) : atMay n k = 1 := if_pos h
theorem atMay_val {n k : Int} (h : ¬ (n < 1 ∨ 12 < n)) (h2 : k < 0 ∨ ((fct n.toNat : Nat) : Int) ≤ k) : atMay n k = 12 := by unfold atMay; rw [if_neg h, if_pos h2]
theorem atMay_ok {n k : Int} (h : ¬ (n < 1 ∨ 12 < n)) (h2 : ¬ (k < 0 ∨ ((fct n.toNat : Nat) : Int) ≤ k)) : atMay n k = 0 := by unfold atMay; rw [if_neg h, if_neg h2]
theorem at_step {os lf : List Int} {m q : Nat} {z : List Int} (h : os ++ atF m lf q = z) (hm : 1 ≤ m) : (os ++ [lf.getD (q / fct (m - 1)) 0]) ++ atF (m - 1) (lf.eraseIdx (q / fct (m - 1))) (q % fct (m - 1)) = z := by
  obtain ⟨j, rfl⟩ : ∃ j, m = j + 1 := ⟨m - 1, by omega⟩
  rw [atF] at h
  rw [← h]; simp
theorem at_div {m q : Nat} (hm : 1 ≤ m) (h : q < fct m) : q / fct (m - 1) < m ∧ q % fct (m - 1) < fct (m - 1) := by
  obtain ⟨j, rfl⟩ : ∃ j, m = j + 1 := ⟨m - 1, by omega⟩
  exact ⟨div_fct h, Nat.mod_lt _ (fct_pos _)⟩
theorem erase_eq (l : List Int) (i : Nat) : l.take i ++ l.drop (i + 1) = l.eraseIdx i := (List.eraseIdx_eq_take_drop_succ ..).symm
theorem undo_row {r : List Int} (h : IsRow r) : IsRow (undoL r) ∧ byL r (undoL r) = roundsL r.length := by
  have hget : ∀ b, b < r.length → (undoL r).getD b 0 = ((r.idxOf (b : Int) : Nat) : Int) := fun b hb => undoL_get hb
  have hidx : ∀ b, b < r.length → r.idxOf (b : Int) < r.length := fun b hb => List.idxOf_lt_length_of_mem (h.mem hb)
  have hat : ∀ b, b < r.length → r.getD (r.idxOf (b : Int)) 0 = (b : Int) := fun b hb => by
    have hlt := hidx b hb
    rw [List.getD_eq_getElem?_getD, List.getElem?_eq_getElem hlt, Option.getD_some]
    exact List.getElem_idxOf hlt
  have hl := undoL_len r
  have hby : byL r (undoL r) = roundsL r.length := by
    refine list_ext (by rw [byL_len, hl, roundsL_len]) (fun j hj => ?_)
    rw [byL_len, hl] at hj
    rw [byL_get _ _ _ (by rw [hl]; exact hj), hget j hj, roundsL_get hj, Int.toNat_natCast, hat j hj]
  refine ⟨?_, hby⟩
  refine rowMay_ok.1 (rowMay_of (by rw [hl]; exact h.pos) (by rw [hl]; exact h.le) ?_ ?_)
  · rw [List.nodup_iff_pairwise_ne, List.pairwise_iff_getElem]
    intro i j hi hj hij e
    rw [hl] at hi hj
    have e1 : (undoL r).getD i 0 = (undoL r).getD j 0 := by simpa [hl, hi, hj] using e
    rw [hget i hi, hget j hj] at e1
    have := hat i hi
    rw [Int.natCast_inj.1 e1, hat j hj] at this
    omega
  · intro x hx
    obtain ⟨i, hi, rfl⟩ := List.getElem_of_mem hx
    rw [hl] at hi
    have e1 : (undoL r)[i] = (undoL r).getD i 0 := by simp [hl, hi]
    rw [e1, hget i hi, hl]
    have := hidx i hi
    omega
end Go.KL
namespace Go.KL
theorem at_facts {N K : Nat} (h1 : 1 ≤ N) (h2 : N ≤ 12) (hK : K < fct N) : atMay ((N : Nat) : Int) ((K : Nat) : Int) = 0 ∧ IsRow (atL N K) ∧ (atL N K).length = N ∧ rankL (atL N K) = K :=
  ⟨atMay_ok (by omega) (by rw [Int.toNat_natCast]; omega), at_row h1 h2 hK, at_len _ _, at_rank hK⟩
end Go.KL
