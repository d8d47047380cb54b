/- Runes as the document reads them: -1 for a byte that is none. -/
import Derived.Test.YtbilebfnanlgfaaKlRead
import Derived.Lib.DecodeN
namespace Go.KL
def runM (s : ByteArray) (p : Nat) : Int := if run1 s p = 65533 ∧ wid s p = 1 then -1 else run1 s p
def nB (b : Nat) : Nat := if 194 ≤ b ∧ b < 224 then 2 else if 224 ≤ b ∧ b < 240 then 3 else if 240 ≤ b ∧ b < 245 then 4 else 0
def cB (b : Nat) : Nat := if 194 ≤ b ∧ b < 224 then b - 192 else if 224 ≤ b ∧ b < 240 then b - 224 else if 240 ≤ b ∧ b < 245 then b - 240 else b
def lowB (b : Nat) : Nat := if 194 ≤ b ∧ b < 224 then 128 else if 224 ≤ b ∧ b < 240 then 2048 else if 240 ≤ b ∧ b < 245 then 65536 else 0
def accR (s : ByteArray) (c : Nat) : Nat → Nat
  | 0 => c
  | j + 1 => accR s c j * 64 + ((s.get! (j + 1)).toNat - 128)
theorem accR1 (s : ByteArray) (c : Nat) : accR s c 1 = c * 64 + ((s.get! 1).toNat - 128) := rfl
theorem accR2 (s : ByteArray) (c : Nat) : accR s c 2 = (c * 64 + ((s.get! 1).toNat - 128)) * 64 + ((s.get! 2).toNat - 128) := rfl
theorem accR3 (s : ByteArray) (c : Nat) : accR s c 3 = ((c * 64 + ((s.get! 1).toNat - 128)) * 64 + ((s.get! 2).toNat - 128)) * 64 + ((s.get! 3).toNat - 128) := rfl
def decP (s : ByteArray) (N : Nat) : Nat × Nat := Lib.decodeN N (s.get! 0).toNat (s.get! 1).toNat (s.get! 2).toNat (s.get! 3).toNat
theorem dec0 (s : ByteArray) : Utf8.decode s 0 = decP s s.size := by rw [Lib.decode_at]; rfl
theorem runM_of {s : ByteArray} {c n : Nat} (h : decP s s.size = (c, n)) (hn : n ≠ 1 ∨ c ≠ 65533) : runM s 0 = c ∧ wid s 0 = n := by
  unfold runM run1 wid
  rw [dec0, h]
  refine ⟨if_neg ?_, rfl⟩
  simp only; omega
theorem runM_no {s : ByteArray} (h : decP s s.size = (65533, 1)) : runM s 0 = -1 ∧ wid s 0 = 1 := by
  unfold runM run1 wid
  rw [dec0, h]
  exact ⟨if_pos ⟨rfl, rfl⟩, rfl⟩
theorem rn_low {s : ByteArray} (h : (s.get! 0).toNat < 128) : runM s 0 = (s.get! 0).toNat ∧ wid s 0 = 1 :=
  runM_of (by unfold decP Lib.decodeN; rw [if_pos h]) (by omega)
theorem nB_cases {b j : Nat} (h0 : nB b ≠ 0) (hj : j + 1 = nB b) : (j = 1 ∧ 194 ≤ b ∧ b < 224) ∨ (j = 2 ∧ 224 ≤ b ∧ b < 240) ∨ (j = 3 ∧ 240 ≤ b ∧ b < 245) := by
  unfold nB at hj h0
  by_cases h1 : 194 ≤ b ∧ b < 224
  · rw [if_pos h1] at hj; exact .inl ⟨by omega, h1⟩
  · rw [if_neg h1] at hj h0
    by_cases h2 : 224 ≤ b ∧ b < 240
    · rw [if_pos h2] at hj; exact .inr (.inl ⟨by omega, h2⟩)
    · rw [if_neg h2] at hj h0
      by_cases h3 : 240 ≤ b ∧ b < 245
      · rw [if_pos h3] at hj; exact .inr (.inr ⟨by omega, h3⟩)
      · rw [if_neg h3] at h0; omega
section
variable {s : ByteArray} (h128 : ¬ (s.get! 0).toNat < 128)
include h128 in
set_option maxRecDepth 100000 in
set_option maxHeartbeats 4000000 in
theorem rn_short (h : nB (s.get! 0).toNat = 0 ∨ s.size < nB (s.get! 0).toNat) (h1 : 1 ≤ s.size) : runM s 0 = -1 ∧ wid s 0 = 1 := by
  refine runM_no ?_
  have l1 := UInt8.toNat_lt (s.get! 1)
  have l2 := UInt8.toNat_lt (s.get! 2)
  have l3 := UInt8.toNat_lt (s.get! 3)
  have l0 := UInt8.toNat_lt (s.get! 0)
  unfold decP
  generalize (s.get! 0).toNat = b0 at *
  generalize (s.get! 1).toNat = b1 at *
  generalize (s.get! 2).toNat = b2 at *
  generalize (s.get! 3).toNat = b3 at *
  unfold nB at h
  unfold Lib.decodeN
  repeat' split
  all_goals first | rfl | (exfalso; split at h <;> (try split at h) <;> (try split at h) <;> omega)
set_option maxRecDepth 100000 in
set_option maxHeartbeats 4000000 in
theorem rn_cont {j : Nat} (hj : j + 1 < nB (s.get! 0).toNat) (h : (s.get! (j + 1)).toNat < 128 ∨ 192 ≤ (s.get! (j + 1)).toNat) : runM s 0 = -1 ∧ wid s 0 = 1 := by
  refine runM_no ?_
  have l1 := UInt8.toNat_lt (s.get! 1)
  have l2 := UInt8.toNat_lt (s.get! 2)
  have l3 := UInt8.toNat_lt (s.get! 3)
  have l0 := UInt8.toNat_lt (s.get! 0)
  have hj4 : j = 0 ∨ j = 1 ∨ j = 2 := by
    unfold nB at hj
    repeat' split at hj
    all_goals omega
  unfold decP
  rcases hj4 with rfl | rfl | rfl <;> simp only [Nat.zero_add, Nat.reduceAdd] at h hj <;> generalize (s.get! 0).toNat = b0 at * <;> generalize (s.get! 1).toNat = b1 at * <;> generalize (s.get! 2).toNat = b2 at * <;> generalize (s.get! 3).toNat = b3 at * <;> unfold nB at hj <;> unfold Lib.decodeN
  all_goals repeat' split
  all_goals first | rfl | (exfalso; split at hj <;> (try split at hj) <;> (try split at hj) <;> omega)
set_option maxRecDepth 2000 in
set_option maxHeartbeats 4000000 in
theorem rn_all (h0 : nB (s.get! 0).toNat ≠ 0) (hs : nB (s.get! 0).toNat ≤ s.size) {j : Nat} (hj : j + 1 = nB (s.get! 0).toNat) (hc : ∀ i, i < j → 128 ≤ (s.get! (i + 1)).toNat ∧ (s.get! (i + 1)).toNat < 192) :
    decP s s.size = if accR s (cB (s.get! 0).toNat) j < lowB (s.get! 0).toNat ∨ 1114111 < accR s (cB (s.get! 0).toNat) j ∨ (55296 ≤ accR s (cB (s.get! 0).toNat) j ∧ accR s (cB (s.get! 0).toNat) j < 57344) then (65533, 1) else (accR s (cB (s.get! 0).toNat) j, nB (s.get! 0).toNat) := by
  have l0 := UInt8.toNat_lt (s.get! 0)
  have hj4 := nB_cases h0 hj
  refine hj4.elim (fun ⟨e, q⟩ => ?_) (fun h => h.elim (fun ⟨e, q⟩ => ?_) (fun ⟨e, q⟩ => ?_))
  · rw [e]
    have c1 := hc 0 (by rw [e]; exact Nat.one_pos)
    rw [Nat.zero_add] at c1
    rw [accR1]
    unfold decP
    clear hc hj h0
    generalize (s.get! 0).toNat = b0 at *
    generalize (s.get! 1).toNat = b1 at *
    have e1 : nB b0 = 2 := by unfold nB; rw [if_pos q]
    have e2 : cB b0 = b0 - 192 := by unfold cB; rw [if_pos q]
    have e3 : lowB b0 = 128 := by unfold lowB; rw [if_pos q]
    rw [e1] at hs
    rw [e1, e2, e3]
    unfold Lib.decodeN
    repeat' split
    all_goals first | (exfalso; omega) | (apply Prod.ext <;> simp only <;> omega)
  · rw [e]
    have c1 := hc 0 (by omega)
    have c2 := hc 1 (by omega)
    simp only [Nat.zero_add, Nat.reduceAdd] at c1 c2
    rw [accR2]
    clear hc hj h0
    unfold decP
    generalize (s.get! 0).toNat = b0 at *
    generalize (s.get! 1).toNat = b1 at *
    generalize (s.get! 2).toNat = b2 at *
    have e1 : nB b0 = 3 := by unfold nB; rw [if_neg (by omega), if_pos q]
    have e2 : cB b0 = b0 - 224 := by unfold cB; rw [if_neg (by omega), if_pos q]
    have e3 : lowB b0 = 2048 := by unfold lowB; rw [if_neg (by omega), if_pos q]
    rw [e1] at hs
    rw [e1, e2, e3]
    unfold Lib.decodeN
    repeat' split
    all_goals first | (exfalso; omega) | (apply Prod.ext <;> simp only <;> omega)
  · rw [e]
    have c1 := hc 0 (by omega)
    have c2 := hc 1 (by omega)
    have c3 := hc 2 (by omega)
    simp only [Nat.zero_add, Nat.reduceAdd] at c1 c2 c3
    rw [accR3]
    clear hc hj h0
    unfold decP
    generalize (s.get! 0).toNat = b0 at *
    generalize (s.get! 1).toNat = b1 at *
    generalize (s.get! 2).toNat = b2 at *
    generalize (s.get! 3).toNat = b3 at *
    have e1 : nB b0 = 4 := by unfold nB; rw [if_neg (by omega), if_neg (by omega), if_pos q]
    have e2 : cB b0 = b0 - 240 := by unfold cB; rw [if_neg (by omega), if_neg (by omega), if_pos q]
    have e3 : lowB b0 = 65536 := by unfold lowB; rw [if_neg (by omega), if_neg (by omega), if_pos q]
    rw [e1] at hs
    rw [e1, e2, e3]
    unfold Lib.decodeN
    repeat' split
    all_goals first | (exfalso; omega) | (apply Prod.ext <;> simp only <;> omega)
end
theorem nb2 {b : Nat} (h : 194 ≤ b ∧ b < 224) : nB b = 2 ∧ cB b = b - 192 ∧ lowB b = 128 := by unfold nB cB lowB; rw [if_pos h, if_pos h, if_pos h]; exact ⟨rfl, rfl, rfl⟩
theorem nb3 {b : Nat} (h : 224 ≤ b ∧ b < 240) : nB b = 3 ∧ cB b = b - 224 ∧ lowB b = 2048 := by
  have h1 : ¬ (194 ≤ b ∧ b < 224) := by omega
  unfold nB cB lowB; rw [if_neg h1, if_neg h1, if_neg h1, if_pos h, if_pos h, if_pos h]; exact ⟨rfl, rfl, rfl⟩
theorem nb4 {b : Nat} (h : 240 ≤ b ∧ b < 245) : nB b = 4 ∧ cB b = b - 240 ∧ lowB b = 65536 := by
  have h1 : ¬ (194 ≤ b ∧ b < 224) := by omega
  have h2 : ¬ (224 ≤ b ∧ b < 240) := by omega
  unfold nB cB lowB; rw [if_neg h1, if_neg h1, if_neg h1, if_neg h2, if_neg h2, if_neg h2, if_pos h, if_pos h, if_pos h]; exact ⟨rfl, rfl, rfl⟩
theorem nb0 {b : Nat} (h1 : ¬ (194 ≤ b ∧ b < 224)) (h2 : ¬ (224 ≤ b ∧ b < 240)) (h3 : ¬ (240 ≤ b ∧ b < 245)) : nB b = 0 ∧ cB b = b ∧ lowB b = 0 := by
  unfold nB cB lowB; rw [if_neg h1, if_neg h1, if_neg h1, if_neg h2, if_neg h2, if_neg h2, if_neg h3, if_neg h3, if_neg h3]; exact ⟨rfl, rfl, rfl⟩
theorem nb_bd (b : Nat) : nB b ≤ 4 ∧ (nB b ≠ 0 → cB b ≤ 31) := by
  by_cases h1 : 194 ≤ b ∧ b < 224
  · have := nb2 h1; omega
  · by_cases h2 : 224 ≤ b ∧ b < 240
    · have := nb3 h2; omega
    · by_cases h3 : 240 ≤ b ∧ b < 245
      · have := nb4 h3; omega
      · have := nb0 h1 h2 h3; omega
theorem acc_bd {s : ByteArray} {c j : Nat} (hc : c ≤ 63) (h : ∀ i, i < j → 128 ≤ (s.get! (i + 1)).toNat ∧ (s.get! (i + 1)).toNat < 192) (hj : j ≤ 3) : accR s c j < 16777216 := by
  have h3 : j = 0 ∨ j = 1 ∨ j = 2 ∨ j = 3 := by omega
  rcases h3 with e | e | e | e
  · rw [e]; show c < _; omega
  · have h0 := h 0 (by omega)
    rw [e, accR1]; simp only [Nat.zero_add] at h0; omega
  · have h0 := h 0 (by omega); have h1 := h 1 (by omega)
    rw [e, accR2]; simp only [Nat.zero_add, Nat.reduceAdd] at h0 h1; omega
  · have h0 := h 0 (by omega); have h1 := h 1 (by omega); have h2 := h 2 (by omega)
    rw [e, accR3]; simp only [Nat.zero_add, Nat.reduceAdd] at h0 h1 h2; omega
theorem acc_snoc {s : ByteArray} {j : Nat} (h : ∀ i, i < j → 128 ≤ (s.get! (i + 1)).toNat ∧ (s.get! (i + 1)).toNat < 192) (h1 : 128 ≤ (s.get! (j + 1)).toNat) (h2 : (s.get! (j + 1)).toNat < 192) : ∀ i, i < j + 1 → 128 ≤ (s.get! (i + 1)).toNat ∧ (s.get! (i + 1)).toNat < 192 := by
  intro i hi
  by_cases e : i = j
  · rw [e]; exact ⟨h1, h2⟩
  · exact h i (by omega)
theorem rn_bad {s : ByteArray} (h0 : nB (s.get! 0).toNat ≠ 0) (hs : nB (s.get! 0).toNat ≤ s.size) {j : Nat} (hj : j + 1 = nB (s.get! 0).toNat) (hc : ∀ i, i < j → 128 ≤ (s.get! (i + 1)).toNat ∧ (s.get! (i + 1)).toNat < 192)
    (h : accR s (cB (s.get! 0).toNat) j < lowB (s.get! 0).toNat ∨ 1114111 < accR s (cB (s.get! 0).toNat) j ∨ (55296 ≤ accR s (cB (s.get! 0).toNat) j ∧ accR s (cB (s.get! 0).toNat) j < 57344)) : runM s 0 = -1 ∧ wid s 0 = 1 :=
  runM_no (by rw [rn_all h0 hs hj hc, if_pos h])
theorem rn_ok {s : ByteArray} (h0 : nB (s.get! 0).toNat ≠ 0) (hs : nB (s.get! 0).toNat ≤ s.size) {j : Nat} (hj : j + 1 = nB (s.get! 0).toNat) (hc : ∀ i, i < j → 128 ≤ (s.get! (i + 1)).toNat ∧ (s.get! (i + 1)).toNat < 192)
    (h : ¬ (accR s (cB (s.get! 0).toNat) j < lowB (s.get! 0).toNat ∨ 1114111 < accR s (cB (s.get! 0).toNat) j ∨ (55296 ≤ accR s (cB (s.get! 0).toNat) j ∧ accR s (cB (s.get! 0).toNat) j < 57344))) : runM s 0 = accR s (cB (s.get! 0).toNat) j ∧ wid s 0 = nB (s.get! 0).toNat :=
  runM_of (by rw [rn_all h0 hs hj hc, if_neg h]) (by have := nB_cases h0 hj; omega)
/-! ### All runes of a text -/
def runsF (s : ByteArray) : Nat → Nat → List Int
  | 0, _ => []
  | f + 1, p => if p < s.size then runM s p :: runsF s f (p + wid s p) else []
def runsL (s : ByteArray) : List Int := runsF s s.size 0
theorem runsF_end {s : ByteArray} {f p : Nat} (h : s.size ≤ p) : runsF s f p = [] := by cases f <;> simp [runsF, show ¬ p < s.size by omega]
theorem runsF_step {s : ByteArray} {f p : Nat} {xs zs : List Int} (h : xs ++ runsF s f p = zs) (hp : p < s.size) (hf : s.size ≤ f + p) : (xs ++ [runM s p]) ++ runsF s (f - 1) (p + wid s p) = zs := by
  obtain ⟨f, rfl⟩ : ∃ g, f = g + 1 := ⟨f - 1, by omega⟩
  rw [runsF, if_pos hp] at h
  rw [← h]; simp
theorem get_ext {s : ByteArray} {p i : Nat} : (s.extract p s.size).get! i = s.get! (p + i) := by
  have hsz : (s.extract p s.size).size = s.size - p := by rw [ByteArray.size_extract]; omega
  by_cases h : i < s.size - p
  · have h1 : i < (s.extract p s.size).size := by omega
    rw [get_list h1, get_list (s := s) (i := p + i) (by omega)]
    simp [ByteArray.data_extract]
  · have a1 : (s.extract p s.size).get! i = default := by
      show (s.extract p s.size).data[i]! = default
      rw [getElem!_neg]
      show ¬ i < (s.extract p s.size).size
      omega
    have a2 : s.get! (p + i) = default := by
      show s.data[p + i]! = default
      rw [getElem!_neg]
      show ¬ p + i < s.size
      omega
    rw [a1, a2]
theorem dec_ext (s : ByteArray) (p : Nat) : Utf8.decode (s.extract p s.size) 0 = Utf8.decode s p := by
  have hsz : (s.extract p s.size).size = s.size - p := by rw [ByteArray.size_extract]; omega
  rw [Lib.decode_at, Lib.decode_at, hsz, get_ext, get_ext, get_ext, get_ext]
  simp only [Nat.add_zero, Nat.zero_add, Nat.sub_zero]
theorem ext_run (s : ByteArray) (p : Nat) : runM (s.extract p s.size) 0 = runM s p ∧ wid (s.extract p s.size) 0 = wid s p := by
  unfold runM run1 wid; rw [dec_ext]; exact ⟨rfl, rfl⟩
theorem wid_in {s : ByteArray} {p : Nat} (h : p < s.size) : p + wid s p ≤ s.size := by
  have hw : wid s p ≤ s.size - p := by
    unfold wid
    rw [Lib.decode_at]
    unfold Lib.decodeN
    repeat' split
    all_goals (simp only; omega)
  omega
theorem ext_ext {s : ByteArray} {p n : Nat} (h : p + n ≤ s.size) : (s.extract p s.size).extract n (s.extract p s.size).size = s.extract (p + n) s.size := by
  rw [ByteArray.extract_extract, ByteArray.size_extract]
  congr 1
  omega
end Go.KL
