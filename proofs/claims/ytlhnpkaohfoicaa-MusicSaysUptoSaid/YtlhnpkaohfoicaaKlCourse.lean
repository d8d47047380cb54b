/- Plain maths: courses. -/
import Derived.Test.YtlhnpkaohfoicaaKlMeth
namespace Go.KL

/-! ### A row's order -/
theorem ordTo_step_dvd (l : List (List Int)) (k : Nat) (hk : k < l.length) (hp : 0 < (l.getD k []).length) : ordTo l k ∣ ordTo l (k + 1) ∧ (l.getD k []).length ∣ ordTo l (k + 1) := by
  rw [ordTo_succ l k hk, lcm_form _ _ hp]
  exact ⟨Nat.dvd_lcm_left _ _, Nat.dvd_lcm_right _ _⟩
theorem len_dvd_ord {r : List Int} (hr : IsRow r) {j : Nat} (hj : j < (cyclesL r).length) : ∀ k, k ≤ (cyclesL r).length → j < k → ((cyclesL r).getD j []).length ∣ ordTo (cyclesL r) k
  | 0, _, h => by omega
  | k + 1, hk, h => by
    have hc := cyc_len hr (show k < (cyclesL r).length by omega)
    have hs := ordTo_step_dvd (cyclesL r) k (by omega) (by omega)
    by_cases e : j = k
    · subst e; exact hs.2
    · exact Nat.dvd_trans (len_dvd_ord hr hj k (by omega) (by omega)) hs.1
theorem per_dvd_ord {r : List Int} (hr : IsRow r) {b : Nat} (hb : b < r.length) (hl : least r b = true) : per r b ∣ ordL r := by
  have hm : orb r b ∈ cyclesL r := by
    unfold cyclesL cyclesTo
    exact List.mem_map.2 ⟨b, List.mem_filter.2 ⟨List.mem_range.2 hb, hl⟩, rfl⟩
  obtain ⟨j, hj, e⟩ := List.getElem_of_mem hm
  have := len_dvd_ord hr hj _ (Nat.le_refl _) hj
  rw [List.getD_eq_getElem?_getD] at this
  simp only [hj, List.getElem?_eq_getElem, Option.getD_some, e, orb_len] at this
  exact this
theorem least_of {r : List Int} (hr : IsRow r) : ∀ (b : Nat), b < r.length → ∃ k, k < r.length ∧ least r k = true ∧ Leads r k b := by
  intro b
  induction b using Nat.strongRecOn with
  | ind b ih =>
    intro hb
    by_cases hl : least r b = true
    · exact ⟨b, hb, hl, 0, rfl⟩
    · rw [least_iff hr hb] at hl
      obtain ⟨k, hk⟩ := Classical.not_forall.1 hl
      obtain ⟨h1, h2⟩ := Classical.not_imp.1 hk
      obtain ⟨m, h3, h4, h5⟩ := ih k (by omega) (h1.lt hr hb)
      exact ⟨m, h3, h4, h5.trans (h1.symm hr hb)⟩
theorem itr_mul {r : List Int} {b p : Nat} (h : itr r b p = b) : ∀ q, itr r b (p * q) = b
  | 0 => rfl
  | q + 1 => by rw [Nat.mul_succ, itr_add, itr_mul h q, h]
theorem itr_ord {r : List Int} (hr : IsRow r) {b : Nat} (hb : b < r.length) : itr r b (ordL r) = b := by
  obtain ⟨k, hk, hl, m, hm⟩ := least_of hr b hb
  obtain ⟨q, hq⟩ := per_dvd_ord hr hk hl
  have hp := per_spec hr hk
  rw [← hm, ← itr_add, Nat.add_comm, itr_add, hq, itr_mul hp.2.2.1 q]
theorem ordL_pos {r : List Int} (hr : IsRow r) : 1 ≤ ordL r := (ordTo_le hr _ (Nat.le_refl _)).1
theorem dvd_840 {n : Nat} (h1 : 1 ≤ n) (h2 : n ≤ 8) : n ∣ 840 := by
  rcases (by omega : n = 1 ∨ n = 2 ∨ n = 3 ∨ n = 4 ∨ n = 5 ∨ n = 6 ∨ n = 7 ∨ n = 8) with h | h | h | h | h | h | h | h <;> subst h <;> decide
theorem ordTo_840 {r : List Int} (hr : IsRow r) (h8 : r.length ≤ 8) : ∀ k, k ≤ (cyclesL r).length → ordTo (cyclesL r) k ∣ 840
  | 0, _ => by simp [ordTo]
  | k + 1, hk => by
    have hc := cyc_len hr (show k < (cyclesL r).length by omega)
    rw [ordTo_succ _ k (by omega), lcm_form _ _ (by omega)]
    refine Nat.lcm_dvd (ordTo_840 hr h8 k (by omega)) (dvd_840 hc.1 ?_)
    have hm : (cyclesL r).getD k [] ∈ cyclesL r := by rw [List.getD_eq_getElem?_getD]; simp [show k < (cyclesL r).length by omega]
    obtain ⟨b, hb, _, e⟩ := cyc_mem hm
    rw [e, orb_len]
    have := (per_spec hr hb).2.1
    omega
theorem ordL_840 {r : List Int} (hr : IsRow r) (h8 : r.length ≤ 8) : ordL r ≤ 840 := Nat.le_of_dvd (by decide) (ordTo_840 hr h8 _ (Nat.le_refl _))

/-! ### Products -/
def In (n : Nat) (l : List Int) : Prop := ∀ i, i < l.length → 0 ≤ l.getD i 0 ∧ l.getD i 0 < n
theorem IsRow.bds {r : List Int} (h : IsRow r) : In r.length r := fun _ hi => h.at hi
theorem byL_In {n : Nat} {a b : List Int} (ha : In n a) (hb : In a.length b) : In n (byL a b) := fun i hi => by
  rw [byL_len] at hi
  rw [byL_get a b i hi]
  have := hb i hi
  exact ha _ (by omega)
theorem byL_assoc (a b c : List Int) (hc : In b.length c) : byL a (byL b c) = byL (byL a b) c := by
  refine ext0 (by rw [byL_len, byL_len, byL_len]) fun i hi => ?_
  rw [byL_len, byL_len] at hi
  have := hc i hi
  rw [byL_get _ _ i (by rw [byL_len]; exact hi), byL_get _ _ i hi, byL_get _ _ i hi, byL_get a b _ (by omega)]
theorem byL_rounds_left {n : Nat} {c : List Int} (hc : In n c) : byL (roundsL n) c = c := by
  refine ext0 (byL_len _ _) fun i hi => ?_
  rw [byL_len] at hi
  have := hc i hi
  rw [byL_get _ _ i hi, roundsL_get (by omega)]; omega
theorem byL_rounds_right {n : Nat} {a : List Int} (hl : a.length = n) : byL a (roundsL n) = a := by
  refine ext0 (by rw [byL_len, roundsL_len, hl]) fun i hi => ?_
  rw [byL_len, roundsL_len] at hi
  rw [byL_get _ _ i (by rw [roundsL_len]; exact hi), roundsL_get hi]; rfl
theorem roundsL_In (n : Nat) : In n (roundsL n) := fun i hi => by rw [roundsL_len] at hi; rw [roundsL_get hi]; omega
theorem byL_row {a b : List Int} (ha : IsRow a) (hb : IsRow b) (hl : a.length = b.length) : IsRow (byL a b) := by
  apply rowMay_ok.1
  refine rowMay_of (by rw [byL_len]; exact hb.pos) (by rw [byL_len]; exact hb.le) ?_ ?_
  · unfold byL
    rw [List.nodup_iff_pairwise_ne, List.pairwise_iff_getElem]
    intro i j hi hj hij e
    simp only [List.length_map] at hi hj
    simp only [List.getElem_map] at e
    rw [gd b i hi, gd b j hj] at e
    have bi := hb.at hi
    have bj := hb.at hj
    have h1 := idxOf_at ha.nodup (k := (b.getD i 0).toNat) (by omega)
    have h2 := idxOf_at ha.nodup (k := (b.getD j 0).toNat) (by omega)
    rw [e] at h1
    have e2 : b.getD i 0 = b.getD j 0 := by omega
    have h3 := idxOf_at hb.nodup hi
    have h4 := idxOf_at hb.nodup hj
    rw [e2] at h3; omega
  · intro x hx
    unfold byL at hx
    obtain ⟨y, hy, rfl⟩ := List.mem_map.1 hx
    have := hb.bound y hy
    have := ha.at (i := y.toNat) (by omega)
    rw [byL_len]; omega

/-! ### The rows of a lead, of a course -/
theorem curL_row {n : Nat} {l : List (List Int)} (h1 : 1 ≤ n) (h2 : n ≤ 12) (h : ∀ k, k < l.length → okL 0 (l.getD k []) n) : ∀ k, k ≤ l.length → IsRow (curL (roundsL n) l k) ∧ (curL (roundsL n) l k).length = n
  | 0, _ => ⟨roundsL_row h1 h2, roundsL_len n⟩
  | k + 1, hk => by
    obtain ⟨hr, hl⟩ := curL_row h1 h2 h k (by omega)
    have ho := h k (by omega)
    have hc := (ord_inv ho h1 h2).1
    rw [curL_succ _ l k (by omega), hl]
    exact ⟨byL_row hr hc (by rw [hl, chgRow_len ho]), by rw [byL_len, chgRow_len ho]⟩
def headL (n : Nat) (l : List (List Int)) : List Int := curL (roundsL n) l l.length
def powL (n : Nat) (h : List Int) : Nat → List Int
  | 0 => roundsL n
  | k + 1 => byL (powL n h k) h
theorem powL_get {n : Nat} {h : List Int} (hr : IsRow h) (hl : h.length = n) : ∀ (k i : Nat), i < n → (powL n h k).getD i 0 = itr h i k
  | 0, i, hi => by rw [powL, roundsL_get hi]; rfl
  | k + 1, i, hi => by
    have hb := nxt_lt hr (k := i) (by omega)
    have hi2 := nxt_int hr (k := i) (by omega)
    rw [powL, byL_get _ _ i (by omega), ← hi2, Int.toNat_natCast, powL_get hr hl k _ (by omega)]
    have := itr_add h i 1 k
    rw [Nat.add_comm] at this
    rw [this]; rfl
theorem powL_len {n : Nat} {h : List Int} (hl : h.length = n) : ∀ k, (powL n h k).length = n
  | 0 => roundsL_len n
  | k + 1 => by rw [powL, byL_len, hl]
theorem powL_ord {n : Nat} {h : List Int} (hr : IsRow h) (hl : h.length = n) : powL n h (ordL h) = roundsL n := by
  refine ext0 (by rw [powL_len hl, roundsL_len]) fun i hi => ?_
  rw [powL_len hl] at hi
  rw [powL_get hr hl _ i hi, itr_ord hr (by omega), roundsL_get hi]
theorem powL_row {n : Nat} {h : List Int} (hr : IsRow h) (hl : h.length = n) : ∀ k, IsRow (powL n h k)
  | 0 => roundsL_row (by have := hr.pos; omega) (by have := hr.le; omega)
  | k + 1 => by rw [powL]; exact byL_row (powL_row hr hl k) hr (by rw [powL_len hl, hl])
theorem powL_comm {n : Nat} {h : List Int} (hr : IsRow h) (hl : h.length = n) : ∀ k, byL h (powL n h k) = powL n h (k + 1)
  | 0 => by rw [powL, powL, powL, byL_rounds_right hl, byL_rounds_left (by rw [← hl]; exact hr.bds)]
  | k + 1 => by
    show byL h (byL (powL n h k) h) = _
    rw [byL_assoc _ _ _ (by rw [powL_len hl, ← hl]; exact hr.bds), powL_comm hr hl k]; rfl
/-- The rows of a course up to one. -/
def crs (n : Nat) (l : List (List Int)) (i : Nat) : List (List Int) := (List.range i).map fun x => byL (powL n (headL n l) (x / l.length)) (curL (roundsL n) l (x % l.length))
theorem crs_len (n : Nat) (l : List (List Int)) (i : Nat) : (crs n l i).length = i := by simp [crs]
theorem crs_succ (n : Nat) (l : List (List Int)) (k j : Nat) (hj : j < l.length) : crs n l (k * l.length + j + 1) = crs n l (k * l.length + j) ++ [byL (powL n (headL n l) k) (curL (roundsL n) l j)] := by
  have e1 : (k * l.length + j) / l.length = k := by rw [Nat.mul_comm, Nat.mul_add_div (by omega), Nat.div_eq_of_lt hj]; rfl
  have e2 : (k * l.length + j) % l.length = j := by rw [Nat.mul_comm, Nat.mul_add_mod, Nat.mod_eq_of_lt hj]
  unfold crs
  rw [List.range_succ, List.map_append, List.map_cons, List.map_nil, e1, e2]
theorem crs_get {n : Nat} {l : List (List Int)} {m i : Nat} (h : i < m) : (crs n l m).getD i [] = byL (powL n (headL n l) (i / l.length)) (curL (roundsL n) l (i % l.length)) := by simp [crs, h]
theorem methMay_ok' {s : ByteArray} {n : Int} {l : List (List Int)} (h : methMay s n l = 0) : MethOk s n.toNat l ∧ ((n.toNat : Nat) : Int) = n := by
  obtain ⟨m, rfl, hm⟩ := methMay_ok.1 h
  exact ⟨by rwa [Int.toNat_natCast], rfl⟩
theorem fromL_len (r : List Int) (l : List (List Int)) : (fromL r l).length = l.length + 1 := fromTo_len r l _
theorem fromL_get {r : List Int} {l : List (List Int)} {k : Nat} (h : k ≤ l.length) : (fromL r l).getD k [] = curL r l k := by
  unfold fromL fromTo; simp [show k < l.length + 1 by omega]
theorem fromL_last (n : Nat) (l : List (List Int)) : (fromL (roundsL n) l).getD ((((fromL (roundsL n) l).length : Nat) : Int) - (1 : Int)).toNat [] = headL n l := by
  rw [fromL_len, show (((l.length + 1 : Nat) : Int) - (1 : Int)).toNat = l.length by omega, fromL_get (Nat.le_refl _)]; rfl
theorem MethOk.head {s : ByteArray} {n : Nat} {l : List (List Int)} (h : MethOk s n l) : IsRow (headL n l) ∧ (headL n l).length = n := curL_row (by have := h.n1; omega) h.n2 h.ok _ (Nat.le_refl _)
theorem take_fromL (n : Nat) (l : List (List Int)) {k j : Nat} (hk : k = l.length) (hj : j < l.length) : (List.take k (fromL (roundsL n) l)).getD j [] = curL (roundsL n) l j := by
  subst hk
  rw [← fromL_get (k := j) (by omega), List.getD_eq_getElem?_getD, List.getElem?_take, if_pos hj, List.getD_eq_getElem?_getD]
theorem crs_row {s : ByteArray} {n : Nat} {l : List (List Int)} (h : MethOk s n l) {m i : Nat} (hi : i < m) : IsRow ((crs n l m).getD i []) ∧ ((crs n l m).getD i []).length = n := by
  obtain ⟨hr, hl⟩ := h.head
  have hlt := Nat.mod_lt i (show 0 < l.length from h.l1)
  obtain ⟨hc, hcl⟩ := curL_row (by have := h.n1; omega) h.n2 h.ok (i % l.length) (by omega)
  rw [crs_get hi]
  exact ⟨byL_row (powL_row hr hl _) hc (by rw [powL_len hl, hcl]), by rw [byL_len, hcl]⟩
theorem crs_zero {s : ByteArray} {n : Nat} {l : List (List Int)} (_h : MethOk s n l) {m : Nat} (hm : 0 < m) : (crs n l m).getD 0 [] = roundsL n := by
  rw [crs_get hm, Nat.zero_div, Nat.zero_mod]
  exact byL_rounds_left (roundsL_In n)
theorem crs_next {s : ByteArray} {n : Nat} {l : List (List Int)} (h : MethOk s n l) {i : Nat} (hi : i < ordL (headL n l) * l.length) :
    byL (headL n l) ((crs n l (ordL (headL n l) * l.length)).getD i []) = (crs n l (ordL (headL n l) * l.length)).getD ((i + l.length) % (ordL (headL n l) * l.length)) [] := by
  obtain ⟨hr, hl⟩ := h.head
  have h0 : 0 < l.length := h.l1
  have hlt := Nat.mod_lt i h0
  obtain ⟨hc, hcl⟩ := curL_row (by have := h.n1; omega) h.n2 h.ok (i % l.length) (by omega)
  have hT : 0 < ordL (headL n l) * l.length := by omega
  rw [crs_get hi, crs_get (Nat.mod_lt _ hT)]
  have hd := Nat.div_add_mod i l.length
  generalize hk : i / l.length = k at hd ⊢
  generalize hj : i % l.length = j at hd hlt hc hcl ⊢
  rw [byL_assoc _ _ _ (by rw [powL_len hl]; have hb := hc.bds; rwa [hcl] at hb), powL_comm hr hl k]
  have hko : k < ordL (headL n l) := by
    rw [← hk]; exact Nat.div_lt_of_lt_mul (by rw [Nat.mul_comm]; exact hi)
  have e : i + l.length = (k + 1) * l.length + j := by rw [Nat.succ_mul, Nat.mul_comm]; omega
  by_cases hlast : k + 1 = ordL (headL n l)
  · have e2 : (i + l.length) % (ordL (headL n l) * l.length) = j := by
      rw [e, hlast, Nat.add_mod_left, Nat.mod_eq_of_lt]
      exact Nat.lt_of_lt_of_le hlt (Nat.le_mul_of_pos_left _ (by omega))
    rw [e2, Nat.div_eq_of_lt hlt, Nat.mod_eq_of_lt hlt, hlast, powL_ord hr hl]
    rfl
  · have hle : (k + 1) * l.length + j < ordL (headL n l) * l.length := by
      have : (k + 2) * l.length ≤ ordL (headL n l) * l.length := Nat.mul_le_mul_right _ (by omega)
      rw [show (k + 2) * l.length = (k + 1) * l.length + l.length by rw [← Nat.succ_mul]] at this
      omega
    rw [e, Nat.mod_eq_of_lt hle]
    have e1 : ((k + 1) * l.length + j) / l.length = k + 1 := by rw [Nat.mul_comm, Nat.mul_add_div h0, Nat.div_eq_of_lt hlt]
    have e2 : ((k + 1) * l.length + j) % l.length = j := by rw [Nat.mul_comm, Nat.mul_add_mod, Nat.mod_eq_of_lt hlt]
    rw [e1, e2]
theorem methOk_of {s : ByteArray} {raw : List Int} {b n many : Nat} (hs : nameL s = true) (h1 : 2 ≤ n) (h2 : n ≤ 12) (h3 : 1 ≤ many) (h4 : many ≤ 200) : MethOk s n (changesOf raw b n many) :=
  ⟨hs, h1, h2, by rw [changesOf_len]; exact h3, by rw [changesOf_len]; exact h4, fun k hk => by rw [changesOf_len] at hk; rw [changesOf_get hk]; exact changeOf_ok _ _⟩
theorem MethOk.may {s : ByteArray} {n : Nat} {l : List (List Int)} (h : MethOk s n l) : methMay s n l = 0 := methMay_ok.2 ⟨n, rfl, h⟩
def courseMay (s : ByteArray) (n : Int) (l : List (List Int)) : Int := if methMay s n l ≠ 0 then methMay s n l else if 20000 < ordL (headL n.toNat l) * l.length then 3 else 0
end Go.KL
