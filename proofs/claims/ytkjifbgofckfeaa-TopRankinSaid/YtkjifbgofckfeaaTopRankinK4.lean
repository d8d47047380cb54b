/- Permutations of any length: cycles, signs (as for rows). -/
import Derived.Test.YtkjifbgofckfeaaTopRankinK2
import Derived.Test.YtkjifbgofckfeaaTopRankinK3
namespace Go.KL.Pm
open Go.KL
structure IsRow (r : List Int) : Prop where
  pos : 1 ≤ r.length
  one : ∀ b, b < r.length → r.count (b : Int) = 1
theorem IsRow.bound {r : List Int} (h : IsRow r) : ∀ x ∈ r, 0 ≤ x ∧ x < r.length := by
  have h1 := countP_lt r.length r h.one
  have h2 := List.countP_eq_length.1 h1
  intro x hx
  simpa using h2 x hx
theorem IsRow.nodup {r : List Int} (h : IsRow r) : r.Nodup := by
  rw [List.nodup_iff_count]
  intro x
  by_cases hx : x ∈ r
  · have hb := h.bound x hx
    have := h.one x.toNat (by omega)
    rw [show ((x.toNat : Nat) : Int) = x by omega] at this
    omega
  · rw [List.count_eq_zero_of_not_mem hx]; omega
theorem IsRow.at {r : List Int} (h : IsRow r) {i : Nat} (hi : i < r.length) : 0 ≤ r.getD i 0 ∧ r.getD i 0 < r.length := by
  have : r.getD i 0 = r[i] := by simp [hi]
  rw [this]; exact h.bound _ (List.getElem_mem hi)
theorem IsRow.mem {r : List Int} (h : IsRow r) {b : Nat} (hb : b < r.length) : (b : Int) ∈ r := List.count_pos_iff.1 (by rw [h.one b hb]; omega)
theorem roundsL_row {n : Nat} (h1 : 1 ≤ n) : IsRow (roundsL n) := by
  refine ⟨by rw [roundsL_len]; exact h1, row_all ?_ fun x hx => ?_⟩
  · refine List.Pairwise.map _ (R := fun a b => a ≠ b) (fun a b h e => h (by omega)) List.nodup_range
  · rw [roundsL_len]
    simp only [roundsL, List.mem_map, List.mem_range] at hx
    obtain ⟨i, hi, rfl⟩ := hx; omega

theorem nxt_lt {r : List Int} (h : IsRow r) {k : Nat} (hk : k < r.length) : nxt r k < r.length := by
  have := h.at hk; unfold nxt; omega
theorem nxt_int {r : List Int} (h : IsRow r) {k : Nat} (hk : k < r.length) : ((nxt r k : Nat) : Int) = r.getD k 0 := by
  have := h.at hk; unfold nxt; omega
theorem nxt_inj {r : List Int} (h : IsRow r) {j k : Nat} (hj : j < r.length) (hk : k < r.length) (e : nxt r j = nxt r k) : j = k := by
  have e' : r.getD j 0 = r.getD k 0 := by rw [← nxt_int h hj, ← nxt_int h hk, e]
  rw [← idxOf_at h.nodup hj, ← idxOf_at h.nodup hk, e']
theorem itr_lt {r : List Int} (h : IsRow r) {b : Nat} (hb : b < r.length) : ∀ m, itr r b m < r.length
  | 0 => hb
  | m + 1 => nxt_lt h (itr_lt h hb m)
theorem itr_cancel {r : List Int} (h : IsRow r) {b : Nat} (hb : b < r.length) : ∀ (i d : Nat), itr r b i = itr r b (i + d) → b = itr r b d
  | 0, d, e => by simpa [itr] using e
  | i + 1, d, e => by
    refine itr_cancel h hb i d ?_
    rw [show i + 1 + d = (i + d) + 1 by omega] at e
    exact nxt_inj h (itr_lt h hb i) (itr_lt h hb (i + d)) e

theorem back_exists {r : List Int} (h : IsRow r) {b : Nat} (hb : b < r.length) : ∃ m, m < r.length ∧ itr r b (m + 1) = b := by
  obtain ⟨i, j, hij, hj, e⟩ := collide (itr r b) (itr_lt h hb)
  refine ⟨j - i - 1, by omega, ?_⟩
  have := itr_cancel h hb i (j - i) (by rw [show i + (j - i) = j by omega]; exact e)
  rw [show j - i - 1 + 1 = j - i by omega]; exact this.symm

theorem per_spec {r : List Int} (h : IsRow r) {b : Nat} (hb : b < r.length) : 1 ≤ per r b ∧ per r b ≤ r.length ∧ itr r b (per r b) = b ∧ ∀ m, 0 < m → m < per r b → itr r b m ≠ b := by
  obtain ⟨m, hm, e⟩ := back_exists h hb
  have hx : (List.range r.length).findIdx (fun m => itr r b (m + 1) == b) < (List.range r.length).length := List.findIdx_lt_length_of_exists ⟨m, List.mem_range.2 hm, by simp [e]⟩
  have hx' : (List.range r.length).findIdx (fun m => itr r b (m + 1) == b) < r.length := by simpa using hx
  refine ⟨by unfold per; omega, by unfold per; omega, ?_, fun m h0 hm => ?_⟩
  · have := List.findIdx_getElem (w := hx)
    simp only [List.getElem_range, beq_iff_eq] at this
    exact this
  · have := List.not_of_lt_findIdx (p := fun m => itr r b (m + 1) == b) (xs := List.range r.length) (i := m - 1) (by unfold per at hm; omega)
    simp only [List.getElem_range, beq_eq_false_iff_ne] at this
    rwa [show m - 1 + 1 = m by omega] at this

theorem itr_inj {r : List Int} (h : IsRow r) {b : Nat} (hb : b < r.length) {i j : Nat} (hij : i < j) (hj : j < per r b) : itr r b i ≠ itr r b j := by
  intro e
  have := itr_cancel h hb i (j - i) (by rw [show i + (j - i) = j by omega]; exact e)
  exact (per_spec h hb).2.2.2 (j - i) (by omega) (by omega) this.symm

def Leads (r : List Int) (b k : Nat) : Prop := ∃ m, itr r b m = k
theorem Leads.small {r : List Int} (h : IsRow r) {b k : Nat} (hb : b < r.length) (hl : Leads r b k) : ∃ m, m < per r b ∧ itr r b m = k := by
  obtain ⟨m, e⟩ := hl
  induction m using Nat.strongRecOn generalizing k with
  | _ m ih =>
  by_cases hm : m < per r b
  · exact ⟨m, hm, e⟩
  · have hp := per_spec h hb
    refine ih (m - per r b) (by omega) ?_
    have := itr_add r b (per r b) (m - per r b)
    rw [hp.2.2.1, show per r b + (m - per r b) = m by omega] at this
    rw [← this]; exact e
theorem Leads.symm {r : List Int} (h : IsRow r) {b k : Nat} (hb : b < r.length) (hl : Leads r b k) : Leads r k b := by
  obtain ⟨m, hm, e⟩ := hl.small h hb
  have hp := per_spec h hb
  refine ⟨per r b - m, ?_⟩
  have := itr_add r b m (per r b - m)
  rw [show m + (per r b - m) = per r b by omega, hp.2.2.1, e] at this
  exact this.symm
theorem Leads.trans {r : List Int} {a b c : Nat} (h : Leads r a b) (k : Leads r b c) : Leads r a c := by
  obtain ⟨m, rfl⟩ := h
  obtain ⟨n, rfl⟩ := k
  exact ⟨m + n, itr_add r a m n⟩
theorem Leads.lt {r : List Int} (h : IsRow r) {b k : Nat} (hb : b < r.length) (hl : Leads r b k) : k < r.length := by
  obtain ⟨m, rfl⟩ := hl; exact itr_lt h hb m
theorem least_iff {r : List Int} (h : IsRow r) {b : Nat} (hb : b < r.length) : least r b = true ↔ ∀ k, Leads r b k → b ≤ k := by
  unfold least
  rw [List.all_eq_true]
  constructor
  · intro hh k hk
    obtain ⟨m, hm, rfl⟩ := hk.small h hb
    exact of_decide_eq_true (hh m (List.mem_range.2 hm))
  · intro hh m _
    exact decide_eq_true (hh _ ⟨m, rfl⟩)

theorem doneL_iff {r : List Int} (h : IsRow r) {i m k : Nat} (hi : i ≤ r.length) (hk : k < r.length) : (doneL r i m).getD k 0 ≠ 0 ↔ (∃ j, j < i ∧ Leads r j k) ∨ ∃ x, x < m ∧ itr r i x = k := by
  rw [← gd _ k (by rw [doneL_len]; exact hk)]
  simp only [doneL, List.getElem_map, List.getElem_range]
  have key : ((List.range i).any (fun j => (List.range (per r j)).any fun x => itr r j x == k) || (List.range m).any (fun x => itr r i x == k)) = true ↔ ((∃ j, j < i ∧ Leads r j k) ∨ ∃ x, x < m ∧ itr r i x = k) := by
    simp only [Bool.or_eq_true, List.any_eq_true, List.mem_range, beq_iff_eq]
    constructor
    · rintro (⟨j, hj, x, _, e⟩ | ⟨x, hx, e⟩)
      · exact .inl ⟨j, hj, x, e⟩
      · exact .inr ⟨x, hx, e⟩
    · rintro (⟨j, hj, hl⟩ | ⟨x, hx, e⟩)
      · obtain ⟨x, hx, e⟩ := hl.small h (by omega)
        exact .inl ⟨j, hj, x, hx, e⟩
      · exact .inr ⟨x, hx, e⟩
  rw [← key]
  split <;> simp_all
theorem doneL_step {r : List Int} (h : IsRow r) {i m : Nat} (hi : i < r.length) (h0 : (doneL r i m).getD (itr r i m) 0 = 0) : (doneL r i m).set (itr r i m) 1 = doneL r i (m + 1) := by
  have hlt := itr_lt h hi m
  have hget : ∀ k, k < r.length → ((doneL r i m).set (itr r i m) 1).getD k 0 = if itr r i m = k then 1 else (doneL r i m).getD k 0 := fun k hk => by
    rw [← gd _ k (by simp [doneL_len, hk]), List.getElem_set]
    split
    · rfl
    · rw [gd]
  refine eq_of_01 (by simp [doneL_len]) (fun k => ?_) (doneL_01 _ _ _) fun k hk => ?_
  · by_cases hk : k < r.length
    · rw [hget k hk]; have := doneL_01 r i m k; split <;> omega
    · rw [List.getD_eq_getElem?_getD, List.getElem?_eq_none (by simp [doneL_len]; omega)]; simp
  · have hk' : k < r.length := by simpa [doneL_len] using hk
    rw [hget k hk', doneL_iff h (by omega) hk']
    by_cases e : itr r i m = k
    · rw [if_pos e]
      exact ⟨fun _ => .inr ⟨m, by omega, e⟩, fun _ => by omega⟩
    · rw [if_neg e, doneL_iff h (by omega) hk']
      constructor
      · rintro (h1 | ⟨x, hx, e'⟩)
        · exact .inl h1
        · exact .inr ⟨x, by omega, e'⟩
      · rintro (h1 | ⟨x, hx, e'⟩)
        · exact .inl h1
        · by_cases hxm : x = m
          · subst hxm; exact absurd e' e
          · exact .inr ⟨x, by omega, e'⟩

theorem done_start {r : List Int} (h : IsRow r) {i : Nat} (hi : i < r.length) : (doneL r i 0).getD i 0 = 0 ↔ least r i = true := by
  have h1 := doneL_iff h (m := 0) (Nat.le_of_lt hi) hi
  rw [least_iff h hi]
  constructor
  · intro h0 k hk
    refine Nat.le_of_not_lt fun hlt => ?_
    exact h1.2 (.inl ⟨k, hlt, hk.symm h hi⟩) h0
  · intro hh
    refine Classical.byContradiction fun hne => ?_
    rcases h1.1 hne with ⟨j, hj, hl⟩ | ⟨x, hx, _⟩
    · have := hh j (hl.symm h (by omega)); omega
    · omega
theorem done_mid {r : List Int} (h : IsRow r) {i m : Nat} (hi : i < r.length) (hl : least r i = true) (hm : m ≤ per r i) : (doneL r i m).getD (itr r i m) 0 = 0 ↔ m < per r i := by
  have hp := per_spec h hi
  have h1 := doneL_iff h (i := i) (m := m) (Nat.le_of_lt hi) (itr_lt h hi m)
  constructor
  · intro h0
    refine Classical.byContradiction fun hge => ?_
    have : m = per r i := by omega
    subst this
    exact h1.2 (.inr ⟨0, by omega, by rw [hp.2.2.1]; rfl⟩) h0
  · intro hlt
    refine Classical.byContradiction fun hne => ?_
    rcases h1.1 hne with ⟨j, hj, hl'⟩ | ⟨x, hx, e⟩
    · have := (least_iff h hi).1 hl j (Leads.trans ⟨m, rfl⟩ (hl'.symm h (by omega))); omega
    · exact itr_inj h hi hx hlt e
theorem done_next {r : List Int} (h : IsRow r) {i : Nat} (hi : i < r.length) : doneL r i (per r i) = doneL r (i + 1) 0 := by
  refine eq_of_01 (by simp [doneL_len]) (doneL_01 _ _ _) (doneL_01 _ _ _) fun k hk => ?_
  have hk' : k < r.length := by simpa [doneL_len] using hk
  rw [doneL_iff h (by omega) hk', doneL_iff h (by omega) hk']
  constructor
  · rintro (⟨j, hj, hl⟩ | ⟨x, hx, e⟩)
    · exact .inl ⟨j, by omega, hl⟩
    · exact .inl ⟨i, by omega, x, e⟩
  · rintro (⟨j, hj, hl2⟩ | ⟨x, hx, e⟩)
    · by_cases hji : j = i
      · subst hji
        obtain ⟨x, hx, e⟩ := hl2.small h hi
        exact .inr ⟨x, hx, e⟩
      · exact .inl ⟨j, by omega, hl2⟩
    · omega
theorem done_skip {r : List Int} (h : IsRow r) {i : Nat} (hi : i < r.length) (hl : least r i = false) : doneL r i 0 = doneL r (i + 1) 0 := by
  refine eq_of_01 (by simp [doneL_len]) (doneL_01 _ _ _) (doneL_01 _ _ _) fun k hk => ?_
  have hk' : k < r.length := by simpa [doneL_len] using hk
  have hex : ∃ j, j < i ∧ Leads r i j := by
    refine Classical.byContradiction fun hn => ?_
    have : least r i = true := (least_iff h hi).2 fun k hk => Nat.le_of_not_lt fun hlt => hn ⟨k, hlt, hk⟩
    rw [hl] at this; cases this
  obtain ⟨j0, hj0, hl0⟩ := hex
  rw [doneL_iff h (by omega) hk', doneL_iff h (by omega) hk']
  constructor
  · rintro (⟨j, hj, hl⟩ | ⟨x, hx, e⟩)
    · exact .inl ⟨j, by omega, hl⟩
    · omega
  · rintro (⟨j, hj, hl2⟩ | ⟨x, hx, e⟩)
    · by_cases hji : j = i
      · subst hji
        exact .inl ⟨j0, hj0, (hl0.symm h hi).trans hl2⟩
      · exact .inl ⟨j, by omega, hl2⟩
    · omega
theorem cyc_least {r : List Int} (h : IsRow r) {i m : Nat} (hi : i < r.length) (hml : m = 0 ∨ least r i = true) (h0 : (doneL r i m).getD (itr r i m) 0 = 0) : least r i = true := by
  rcases hml with rfl | hl
  · exact (done_start h hi).1 h0
  · exact hl
theorem cyc_some {r : List Int} (h : IsRow r) {i m : Nat} (hi : i < r.length) (hm : m ≤ per r i) (hml : m = 0 ∨ least r i = true) (h0 : ¬ (doneL r i m).getD (itr r i m) 0 = 0) (hp : 0 < m) : least r i = true ∧ m = per r i := by
  have hl := hml.resolve_left (by omega)
  refine ⟨hl, ?_⟩
  have : ¬ m < per r i := fun hlt => h0 ((done_mid h hi hl hm).2 hlt)
  omega
theorem cyc_none {r : List Int} (h : IsRow r) {i m : Nat} (hi : i < r.length) (_hm : m ≤ per r i) (h0 : ¬ (doneL r i m).getD (itr r i m) 0 = 0) (hp : m = 0) : least r i = false ∧ m = 0 := by
  subst hp
  refine ⟨?_, rfl⟩
  cases hl : least r i with
  | false => rfl
  | true => exact absurd ((done_start h hi).2 hl) h0
theorem least_of {r : List Int} (hr : IsRow r) : ∀ (b : Nat), b < r.length → ∃ k, k < r.length ∧ least r k = true ∧ Leads r k b := by
  intro b
  induction b using Nat.strongRecOn with
  | ind b ih =>
    intro hb
    by_cases hl : least r b = true
    · exact ⟨b, hb, hl, 0, rfl⟩
    · rw [least_iff hr hb] at hl
      obtain ⟨k, hk⟩ := Classical.not_forall.1 hl
      obtain ⟨h1, h2⟩ := Classical.not_imp.1 hk
      obtain ⟨m, h3, h4, h5⟩ := ih k (by omega) (h1.lt hr hb)
      exact ⟨m, h3, h4, h5.trans (h1.symm hr hb)⟩
theorem byL_row {a b : List Int} (ha : IsRow a) (hb : IsRow b) (hl : a.length = b.length) : IsRow (byL a b) := by
  refine ⟨by rw [byL_len]; exact hb.pos, row_all ?_ ?_⟩
  · unfold byL
    rw [List.nodup_iff_pairwise_ne, List.pairwise_iff_getElem]
    intro i j hi hj hij e
    simp only [List.length_map] at hi hj
    simp only [List.getElem_map] at e
    rw [gd b i hi, gd b j hj] at e
    have bi := hb.at hi
    have bj := hb.at hj
    have h1 := idxOf_at ha.nodup (k := (b.getD i 0).toNat) (by omega)
    have h2 := idxOf_at ha.nodup (k := (b.getD j 0).toNat) (by omega)
    rw [e] at h1
    have e2 : b.getD i 0 = b.getD j 0 := by omega
    have h3 := idxOf_at hb.nodup hi
    have h4 := idxOf_at hb.nodup hj
    rw [e2] at h3; omega
  · intro x hx
    unfold byL at hx
    obtain ⟨y, hy, rfl⟩ := List.mem_map.1 hx
    have := hb.bound y hy
    have := ha.at (i := y.toNat) (by omega)
    rw [byL_len]; omega

theorem row_perm {r : List Int} (h : IsRow r) : r.Perm (roundsL r.length) := by
  rw [List.perm_ext_iff_of_nodup h.nodup (roundsL_row h.pos).nodup]
  intro x
  constructor
  · intro hx
    have := h.bound x hx
    exact List.mem_map.2 ⟨x.toNat, List.mem_range.2 (by omega), by omega⟩
  · intro hx
    obtain ⟨k, hk, rfl⟩ := List.mem_map.1 hx
    exact h.mem (List.mem_range.1 hk)
theorem invB_by {a b : List Int} (ha : IsRow a) (hb : IsRow b) (hl : a.length = b.length) : invB (byL a b) = (invB a != invB b) := by
  have h := inv_perm (g := fun k => a.getD k.toNat 0) (row_perm hb) hb.nodup (fun x hx y hy e => by
    have bx := hb.bound x hx
    have by' := hb.bound y hy
    have h1 := idxOf_at ha.nodup (k := x.toNat) (by omega)
    have h2 := idxOf_at ha.nodup (k := y.toNat) (by omega)
    have e : a.getD x.toNat 0 = a.getD y.toNat 0 := e
    rw [e, h2] at h1; omega)
  have e1 : b.map (fun k => a.getD k.toNat 0) = byL a b := rfl
  have e2 : (roundsL b.length).map (fun k => a.getD k.toNat 0) = a := byL_rounds_right hl
  rw [e1, e2, invB_rounds] at h
  revert h
  generalize invB (byL a b) = p
  generalize invB a = q
  generalize invB b = s
  revert p q s; decide
theorem orb_nodup {r : List Int} (hr : IsRow r) {b : Nat} (hb : b < r.length) : (orb r b).Nodup := by
  unfold orb
  rw [List.nodup_iff_pairwise_ne, List.pairwise_map]
  refine List.Pairwise.imp_of_mem ?_ List.pairwise_lt_range
  intro i j hi hj hij e
  exact itr_inj hr hb hij (List.mem_range.1 hj) (by omega)
theorem cycles_perm {r : List Int} (hr : IsRow r) : (cyclesL r).flatten.Perm (roundsL r.length) := by
  rw [List.perm_ext_iff_of_nodup ?_ (roundsL_row hr.pos).nodup]
  · intro x
    rw [List.mem_flatten]
    constructor
    · rintro ⟨c, hc, hx⟩
      obtain ⟨b, hb, _, rfl⟩ := cyc_mem hc
      obtain ⟨m, _, rfl⟩ := orb_mem.1 hx
      exact List.mem_map.2 ⟨itr r b m, List.mem_range.2 (itr_lt hr hb m), rfl⟩
    · intro hx
      obtain ⟨k, hk, rfl⟩ := List.mem_map.1 hx
      have hk := List.mem_range.1 hk
      obtain ⟨b, hb, hl, hle⟩ := least_of hr k hk
      obtain ⟨m, hm, e⟩ := hle.small hr hb
      exact ⟨orb r b, List.mem_map.2 ⟨b, List.mem_filter.2 ⟨List.mem_range.2 hb, hl⟩, rfl⟩, orb_mem.2 ⟨m, hm, by rw [e]⟩⟩
  · rw [List.nodup_iff_pairwise_ne, List.pairwise_flatten]
    constructor
    · intro c hc
      obtain ⟨b, hb, _, rfl⟩ := cyc_mem hc
      exact List.nodup_iff_pairwise_ne.1 (orb_nodup hr hb)
    · unfold cyclesL cyclesTo
      rw [List.pairwise_map]
      refine List.Pairwise.imp_of_mem ?_ (List.Pairwise.filter _ List.pairwise_lt_range)
      intro b c hb hc hbc x hx y hy e
      subst e
      obtain ⟨hb1, hb2⟩ := List.mem_filter.1 hb
      obtain ⟨hc1, hc2⟩ := List.mem_filter.1 hc
      have hb1 := List.mem_range.1 hb1
      have hc1 := List.mem_range.1 hc1
      obtain ⟨m, _, e1⟩ := orb_mem.1 hx
      obtain ⟨m', _, e2⟩ := orb_mem.1 hy
      have e3 : itr r b m = itr r c m' := by omega
      have h1 : Leads r b (itr r c m') := ⟨m, e3⟩
      have h2 : Leads r c b := Leads.trans ⟨m', rfl⟩ (h1.symm hr hb1)
      have := (least_iff hr hc1).1 hc2 b h2
      omega
theorem oddL_count {r : List Int} (hr : IsRow r) : oddL r = decide ((r.length + (List.range r.length).countP (least r)) % 2 = 1) := by
  unfold oddL
  rw [oddF]
  have h1 := (cycles_perm hr).length_eq
  rw [roundsL_len] at h1
  have h2 : (cyclesL r).length = (List.range r.length).countP (least r) := by
    unfold cyclesL cyclesTo
    rw [List.length_map, List.countP_eq_length_filter]
  rw [h1, h2]
structure Cut (r : List Int) (n p : Nat) : Prop where
  row : IsRow r
  len : r.length = n + 1
  pos : 1 ≤ n
  at' : r.getD p 0 = n
  le : p ≤ n
theorem cut_exists {r : List Int} {n : Nat} (hr : IsRow r) (hl : r.length = n + 1) (hn : 1 ≤ n) : ∃ p, Cut r n p := by
  have hm := hr.mem (b := n) (by omega)
  obtain ⟨p, hp, e⟩ := List.getElem_of_mem hm
  exact ⟨p, hr, hl, hn, by rw [← gd r p hp]; exact e, by omega⟩
theorem Cut.len' {r : List Int} {n p : Nat} (h : Cut r n p) : (cutR r n p).length = n := by
  have := h.len
  simp [cutR]; omega
theorem Cut.get {r : List Int} {n p : Nat} (h : Cut r n p) {k : Nat} (hk : k < n) : (cutR r n p).getD k 0 = if k = p then r.getD n 0 else r.getD k 0 := by
  have hl := h.len
  unfold cutR
  rw [List.getD_eq_getElem?_getD, List.getElem?_set]
  by_cases e : p = k
  · subst e
    rw [if_pos rfl, if_pos rfl, if_pos (by simp; omega)]; rfl
  · rw [if_neg e, if_neg (fun q => e q.symm), List.getElem?_take, if_pos hk, ← List.getD_eq_getElem?_getD]
theorem Cut.only {r : List Int} {n p : Nat} (h : Cut r n p) {k : Nat} (hk : k ≤ n) : r.getD k 0 = n ↔ k = p := by
  have hl := h.len
  constructor
  · intro e
    have h1 := idxOf_at h.row.nodup (k := k) (by omega)
    have h2 := idxOf_at h.row.nodup (k := p) (by have := h.le; omega)
    rw [e] at h1; rw [h.at'] at h2; omega
  · rintro rfl; exact h.at'
theorem Cut.nxt {r : List Int} {n p : Nat} (h : Cut r n p) {k : Nat} (hk : k < n) : nxt (cutR r n p) k = if nxt r k = n then nxt r n else nxt r k := by
  have hl := h.len
  have hb := h.row.at (i := k) (by omega)
  have ho := h.only (k := k) (by omega)
  unfold Go.KL.nxt
  rw [h.get hk]
  by_cases e : k = p
  · have := ho.2 e
    rw [if_pos e, if_pos (by omega)]
  · have : r.getD k 0 ≠ n := fun q => e (ho.1 q)
    rw [if_neg e, if_neg (by omega)]
theorem Cut.row' {r : List Int} {n p : Nat} (h : Cut r n p) : IsRow (cutR r n p) := by
  have hl := h.len
  have hl' := h.len'
  have hpos := h.pos
  have hbd : ∀ k, k < n → 0 ≤ (cutR r n p).getD k 0 ∧ (cutR r n p).getD k 0 < n := by
    intro k hk
    rw [h.get hk]
    have hb := h.row.at (i := k) (by omega)
    have hbn := h.row.at (i := n) (by omega)
    have ho := h.only (k := k) (by omega)
    have hon := h.only (k := n) (Nat.le_refl _)
    split
    · rename_i e
      have : ¬ r.getD n 0 = n := fun q => by have := hon.1 q; omega
      omega
    · rename_i e
      have : ¬ r.getD k 0 = n := fun q => e (ho.1 q)
      omega
  refine ⟨by omega, row_all ?_ ?_⟩
  · rw [List.nodup_iff_pairwise_ne, List.pairwise_iff_getElem]
    intro i j hi hj hij
    rw [gd _ i hi, gd _ j hj, h.get (by omega), h.get (by omega)]
    have inj : ∀ a b, a < n + 1 → b < n + 1 → r.getD a 0 = r.getD b 0 → a = b := fun a b ha hb e => by
      have h1 := idxOf_at h.row.nodup (k := a) (by omega)
      have h2 := idxOf_at h.row.nodup (k := b) (by omega)
      rw [e] at h1; omega
    intro e
    split at e <;> split at e
    · omega
    · have := inj _ _ (by omega) (by omega) e; omega
    · have := inj _ _ (by omega) (by omega) e; omega
    · have := inj _ _ (by omega) (by omega) e; omega
  · intro x hx
    obtain ⟨k, hk, e⟩ := List.getElem_of_mem hx
    rw [gd _ k hk] at e
    have := hbd k (by omega)
    omega
theorem Cut.leads {r : List Int} {n p : Nat} (h : Cut r n p) {b : Nat} (hb : b < n) : ∀ m, Leads r b (itr (cutR r n p) b m)
  | 0 => ⟨0, rfl⟩
  | m + 1 => by
    have hi := itr_lt h.row' (b := b) (by rw [h.len']; exact hb) m
    rw [h.len'] at hi
    have ih := h.leads hb m
    rw [itr_step, h.nxt hi]
    split
    · rename_i e
      refine Leads.trans ih ⟨2, ?_⟩
      rw [itr_step, itr_one, e]
    · exact Leads.trans ih ⟨1, rfl⟩
theorem Cut.back {r : List Int} {n p : Nat} (h : Cut r n p) {b : Nat} (hb : b < n) : ∀ m, (itr r b m < n → Leads (cutR r n p) b (itr r b m)) ∧ (itr r b m = n → Go.KL.nxt r n < n → Leads (cutR r n p) b (Go.KL.nxt r n))
  | 0 => ⟨fun _ => ⟨0, rfl⟩, fun e => by have : itr r b 0 = b := rfl; omega⟩
  | m + 1 => by
    obtain ⟨i1, i2⟩ := h.back hb m
    have hl := h.len
    have hlt := itr_lt h.row (b := b) (by omega) m
    rw [itr_step]
    by_cases e : itr r b m = n
    · rw [e]
      refine ⟨fun hn => i2 e hn, fun e2 hn => by omega⟩
    · have hm : itr r b m < n := by omega
      have hx := h.nxt hm
      refine ⟨fun hn => ?_, fun e2 hn => ?_⟩
      · rw [if_neg (by omega)] at hx
        exact Leads.trans (i1 hm) ⟨1, hx⟩
      · rw [if_pos e2] at hx
        exact Leads.trans (i1 hm) ⟨1, hx⟩
theorem Cut.least {r : List Int} {n p : Nat} (h : Cut r n p) {b : Nat} (hb : b < n) : least (cutR r n p) b = Go.KL.least r b := by
  have hl := h.len
  have hl' := h.len'
  rw [Bool.eq_iff_iff, least_iff h.row' (by omega), least_iff h.row (by omega)]
  constructor
  · rintro hc k ⟨m, rfl⟩
    by_cases e : itr r b m < n
    · exact hc _ ((h.back hb m).1 e)
    · omega
  · rintro hc k ⟨m, rfl⟩
    exact hc _ (h.leads hb m)
theorem Cut.top {r : List Int} {n p : Nat} (h : Cut r n p) : Go.KL.least r n = decide (p = n) := by
  have hl := h.len
  have hle := h.le
  rw [Bool.eq_iff_iff, least_iff h.row (by omega), decide_eq_true_iff]
  have hon := h.only (k := n) (Nat.le_refl _)
  have hb := h.row.at (i := n) (by omega)
  constructor
  · intro hc
    have h1 := hc _ ⟨1, rfl⟩
    rw [itr_one] at h1
    unfold Go.KL.nxt at h1
    exact (hon.1 (by omega)).symm
  · rintro rfl k ⟨m, rfl⟩
    have : ∀ m, itr r p m = p := by
      intro m
      induction m with
      | zero => rfl
      | succ m ih => rw [itr_step, ih]; unfold Go.KL.nxt; rw [h.at']; rfl
    rw [this m]; exact Nat.le_refl _
theorem Cut.oddL {r : List Int} {n p : Nat} (h : Cut r n p) : Go.KL.oddL r = (Go.KL.oddL (cutR r n p) != decide (p ≠ n)) := by
  rw [oddL_count h.row, oddL_count h.row', h.len, h.len', List.range_succ, List.countP_append, List.countP_cons, List.countP_nil, h.top]
  have e : (List.range n).countP (Go.KL.least (cutR r n p)) = (List.range n).countP (Go.KL.least r) := by
    apply List.countP_congr
    intro b hb
    rw [h.least (List.mem_range.1 hb)]
  rw [e]
  generalize (List.range n).countP (Go.KL.least r) = c
  by_cases e : p = n
  · have e1 : (n + 1 + (c + (0 + if decide (p = n) = true then 1 else 0))) = (n + c) + 2 := by rw [decide_eq_true e, if_pos rfl]; omega
    rw [e1, Nat.add_mod_right, decide_eq_false (Classical.not_not.2 e)]
    simp
  · have e1 : (n + 1 + (c + (0 + if decide (p = n) = true then 1 else 0))) = (n + c) + 1 := by rw [decide_eq_false e, if_neg (by simp)]; omega
    rw [e1, decide_eq_true e, par_add]
    simp
theorem Cut.invB {r : List Int} {n p : Nat} (h : Cut r n p) : Go.KL.invB r = (Go.KL.invB (cutR r n p) != decide (p ≠ n)) := by
  have hl := h.len
  have hl' := h.len'
  have hnd := h.row.nodup
  have hsplit : r = r.take n ++ [r.getD n 0] := by
    rw [← take_snoc r 0 n (by omega), List.take_of_length_le (by omega)]
  by_cases e : p = n
  · have h1 : cutR r n p = r.take n := by
      unfold cutR; rw [List.set_eq_of_length_le (by simp; omega)]
    have h2 : r.getD n 0 = (n : Int) := by have := h.at'; rwa [e] at this
    have h3 : Go.KL.invB r = Go.KL.invB (r.take n) := by
      conv => lhs; rw [hsplit, h2]
      refine invB_max _ _ fun x hx => ?_
      obtain ⟨k, hk, rfl⟩ := List.getElem_of_mem hx
      simp only [List.length_take] at hk
      rw [List.getElem_take, gd r k (by omega)]
      have hb := h.row.at (i := k) (by omega)
      have ho := h.only (k := k) (by omega)
      have : ¬ r.getD k 0 = n := fun q => by have := ho.1 q; omega
      omega
    rw [h1, h3, decide_eq_false (Classical.not_not.2 e)]; simp
  · have hp : p < n := by have := h.le; omega
    have h1 := List.take_append_drop p (r.take n)
    have h2 : (r.take n).drop p = (n : Int) :: (r.take n).drop (p + 1) := by
      rw [List.drop_eq_getElem_cons (by simp; omega)]
      congr 1
      rw [List.getElem_take, gd r p (by omega), h.at']
    rw [h2] at h1
    have hAl : ((r.take n).take p).length = p := by simp; omega
    have hcut : cutR r n p = (r.take n).take p ++ r.getD n 0 :: (r.take n).drop (p + 1) := by
      unfold cutR
      conv => lhs; rw [← h1]
      rw [List.set_append_right _ _ (by omega), hAl, Nat.sub_self]; rfl
    have hr : r = (r.take n).take p ++ (n : Int) :: ((r.take n).drop (p + 1) ++ [r.getD n 0]) := by
      conv => lhs; rw [hsplit, ← h1]
      simp
    revert hcut hr
    generalize (r.take n).take p = A
    generalize (r.take n).drop (p + 1) = B
    generalize r.getD n 0 = v
    intro hcut hr
    rw [hr] at hnd
    have hnd2 := (List.nodup_append.1 hnd).2.1
    have hn1 := List.nodup_cons.1 hnd2
    have hnB : (n : Int) ∉ B := fun hm => hn1.1 (List.mem_append_left _ hm)
    have hnv : (n : Int) ≠ v := fun hm => hn1.1 (by rw [hm]; simp)
    have hvB : v ∉ B := fun hm => (List.nodup_append.1 hn1.2).2.2 v hm v (by simp) rfl
    have hmax := invB_max (A ++ v :: B) (n : Int) (fun x hx => by
      rw [← hcut] at hx
      have := h.row'.bound x hx
      omega)
    have hsw := invB_swap A B [] (n : Int) v hnB hvB hnv
    rw [hcut, decide_eq_true e]
    conv => lhs; rw [hr]
    rw [hsw]
    have e3 : A ++ v :: (B ++ [(n : Int)]) = (A ++ v :: B) ++ [(n : Int)] := by simp
    rw [e3, hmax]; simp
theorem sign_eq : ∀ (n : Nat) (r : List Int), IsRow r → r.length = n + 1 → oddL r = invB r
  | 0, r, hr, hl => by
    obtain ⟨x, rfl⟩ : ∃ x, r = [x] := by
      cases r with
      | nil => simp at hl
      | cons x l => simp at hl; exact ⟨x, by rw [hl]⟩
    have hb := hr.at (i := 0) (by simp)
    simp only [List.length_cons, List.length_nil] at hb
    have hx : x = 0 := by
      have h1 : ([x] : List Int).getD 0 0 = x := rfl
      rw [h1] at hb; omega
    subst hx
    rw [oddL_count hr]
    decide
  | n + 1, r, hr, hl => by
    obtain ⟨p, hc⟩ := cut_exists hr hl (by omega)
    rw [hc.oddL, hc.invB, sign_eq n _ hc.row' hc.len']
theorem oddL_inv {r : List Int} (hr : IsRow r) : oddL r = invB r := sign_eq (r.length - 1) r hr (by have := hr.pos; omega)
theorem oddL_by {a b : List Int} (ha : IsRow a) (hb : IsRow b) (hl : a.length = b.length) : oddL (byL a b) = (oddL a != oddL b) := by
  rw [oddL_inv ha, oddL_inv hb, oddL_inv (byL_row ha hb hl), invB_by ha hb hl]
end Go.KL.Pm

/- RANKIN: however the sets are left, there are as many circuits, even or odd, as the first alone makes. -/
namespace Go.KL
open Go.RowKit
/-! ### A chain's rows -/
section
variable {n k : Nat} {c : Nat → Lev} {gens L : List (List Int)}
theorem EltI.run {m : Nat} (hw : WC n c) (hk : k < n) (hL : EltK n gens c (k + 1) L) (hm : m = L.length) : ∀ (rest ks : List Int) (N : List (List Int)), EltI n c k m ks N → (∀ p ∈ rest, ((c k).orb p).isSome = true) → (ks ++ rest).Nodup → ∃ N', EltI n c k m (ks ++ rest) N'
  | [], ks, N, h, _, _ => ⟨N, by rw [List.append_nil]; exact h⟩
  | p :: rest, ks, N, h, h1, h2 => by
    obtain ⟨t, ht⟩ := Option.isSome_iff_exists.1 (h1 p (by simp))
    have hp : p ∉ ks := fun hc => (List.nodup_append.1 h2).2.2 p hc p (by simp) rfl
    have := EltI.run hw hk hL hm rest (ks ++ [p]) _ (h.step hw hk hL hm hp ht) (fun q hq => h1 q (by simp [hq])) (by rw [List.append_assoc]; exact h2)
    rw [List.append_assoc] at this
    exact this
theorem ChnOf.eltK (hc : ChnOf n gens c) (hG : ∀ x ∈ gens, RowN n x) : ∀ d, d ≤ n → ∃ L, EltK n gens c (n - d) L
  | 0, _ => ⟨_, EltK.start hc.wc⟩
  | d + 1, hd => by
    obtain ⟨L, hL⟩ := ChnOf.eltK hc hG d (by omega)
    rw [show n - d = (n - (d + 1)) + 1 by omega] at hL
    have hk : n - (d + 1) < n := by omega
    obtain ⟨N, hN⟩ := EltI.run hc.wc hk hL rfl (((List.range n).filter fun (p : Nat) => ((c (n - (d + 1))).orb (p : Int)).isSome).map fun (p : Nat) => (p : Int)) [] [] EltI.start (fun p hp => by
      obtain ⟨q, hq, rfl⟩ := List.mem_map.1 hp
      exact (List.mem_filter.1 hq).2) (by
      rw [List.nil_append]
      exact List.Pairwise.map (R := fun a b => a ≠ b) _ (fun a b h e => h (by omega)) (List.Pairwise.filter _ List.nodup_range))
    refine ⟨N, hN.done hc hG hk hL rfl fun p hp => ?_⟩
    obtain ⟨t, ht⟩ := Option.isSome_iff_exists.1 hp
    obtain ⟨h1, _, h3⟩ := (hc.wc.lev _ hk).pt p t ht
    have h4 := h1.at hk
    rw [h3] at h4
    rw [List.nil_append]
    refine List.mem_map.2 ⟨p.toNat, List.mem_filter.2 ⟨List.mem_range.2 (by omega), ?_⟩, by omega⟩
    rw [show ((p.toNat : Nat) : Int) = p by omega]; exact hp
theorem ChnOf.elts (hc : ChnOf n gens c) (hG : ∀ x ∈ gens, RowN n x) : ∃ F, EltsOk n gens F := by
  obtain ⟨L, hL⟩ := hc.eltK hG n (Nat.le_refl _)
  rw [Nat.sub_self] at hL
  exact ⟨ordS L, hL.sorted hc hG (ordS_perm L) (ordS_sort L)⟩
end
/-! ### Powers of one row -/
section
variable {n : Nat} {x y c r : List Int} {E gens : List (List Int)}
theorem pow_add (hx : RowN n x) (a : Nat) : ∀ b, powL n x (a + b) = byL (powL n x a) (powL n x b)
  | 0 => by rw [Nat.add_zero, powL, byL_rounds_right (powL_len hx.len a)]
  | b + 1 => by rw [← Nat.add_assoc, powL, pow_add hx a b, powL, by_as _ ⟨powL_row hx.row hx.len b, powL_len hx.len b⟩ hx]
theorem pow_rowN' (hx : RowN n x) (k : Nat) : RowN n (powL n x k) := ⟨powL_row hx.row hx.len k, powL_len hx.len k⟩
theorem pow_same (hx : RowN n x) {a b : Nat} (hab : a ≤ b) (e : powL n x a = powL n x b) : ordL x ∣ b - a := by
  have h1 := pow_add hx (b - a) a
  rw [show b - a + a = b by omega, ← e] at h1
  have h2 : byL (powL n x 0) (powL n x a) = byL (powL n x (b - a)) (powL n x a) := by
    rw [← h1, powL, byL_rounds_left (pow_rowN' hx a).bd]
  exact pow_rounds hx.row hx.len (by_canc (pow_rowN' hx 0) (pow_rowN' hx (b - a)) (pow_rowN' hx a) h2).symm
theorem pow_mod (hx : RowN n x) (m : Nat) : powL n x m = powL n x (m % ordL x) := by
  have h := Nat.div_add_mod m (ordL x)
  have key : ∀ q, powL n x (ordL x * q) = roundsL n := fun q => by
    induction q with
    | zero => rfl
    | succ q ih => rw [Nat.mul_succ, pow_add hx, ih, powL_ord hx.row hx.len, byL_rounds_right (roundsL_len n)]
  conv => lhs; rw [← h]
  rw [pow_add hx, key, byL_rounds_left (pow_rowN' hx _).bd]
theorem cl_one (hx : RowN n x) {z : List Int} (h : Cl n (fun y => y ∈ [x]) z) : ∃ m, z = powL n x m := by
  induction h with
  | one => exact ⟨0, rfl⟩
  | mul h1 _ ih =>
    obtain ⟨m, rfl⟩ := ih
    rw [List.mem_singleton.1 h1, powL_comm hx.row hx.len]
    exact ⟨m + 1, rfl⟩
theorem elts_one (hx : RowN n x) (h : EltsOk n [x] E) : E.length = ordL x := by
  have hn := hx.nn
  have hG : ∀ z ∈ [x], RowN n z := fun z hz => by rw [List.mem_singleton.1 hz]; exact hx
  have ho := ordL_pos hx.row
  have h1 := nd_sub (a := E) (b := (List.range (ordL x)).map fun m => powL n x m) h.nd fun z hz => by
    obtain ⟨m, rfl⟩ := cl_one hx ((h.mem z).1 hz)
    exact List.mem_map.2 ⟨m % ordL x, List.mem_range.2 (Nat.mod_lt _ (by omega)), (pow_mod hx m).symm⟩
  have h2 := nd_sub (a := (List.range (ordL x)).map fun m => powL n x m) (b := E) (by
    refine List.pairwise_map.2 (List.Pairwise.imp_of_mem (R := fun a b => a < b) (fun {a b} ha hb hab e => ?_) List.pairwise_lt_range)
    have h3 := Nat.le_of_dvd (by omega) (pow_same hx (Nat.le_of_lt hab) e)
    have := List.mem_range.1 hb
    omega) fun z hz => by
    obtain ⟨m, _, rfl⟩ := List.mem_map.1 hz
    exact (h.mem _).2 ((Cl.gen (S := fun z => z ∈ [x]) hG (by simp)).pow hn hG m)
  rw [List.length_map, List.length_range] at h1 h2
  omega
/-! ### What leads where, as permutations -/
theorem pm_of {N : Nat} {l : List Int} (f : Nat → Nat) (hl : l.length = N) (hN : 1 ≤ N) (hp : PermN N f) (hf : ∀ i, i < N → l.getD i 0 = (f i : Int)) : Pm.IsRow l := by
  refine ⟨by omega, row_all ?_ fun x hx => ?_⟩
  · rw [List.nodup_iff_pairwise_ne, List.pairwise_iff_getElem]
    intro i j hi hj hij e
    rw [gd l i hi, gd l j hj, hf i (by omega), hf j (by omega)] at e
    have := hp.inj i j (by omega) (by omega) (by omega)
    omega
  · obtain ⟨i, hi, rfl⟩ := List.getElem_of_mem hx
    rw [gd l i hi, hf i (by omega)]
    have := hp.lt i (by omega)
    omega
theorem actL_at (hn : 1 ≤ n ∧ n ≤ 12) (hG : ∀ x ∈ gens, RowN n x) (h : EltsOk n gens E) (hc : Cl n (fun y => y ∈ gens) c) {i : Nat} (hi : i < E.length) : (actL E c E.length).getD i 0 = (actN E c i : Int) := (h.actB hn hG hc hi).1
theorem actN_perm (hn : 1 ≤ n ∧ n ≤ 12) (hG : ∀ x ∈ gens, RowN n x) (h : EltsOk n gens E) (hc : Cl n (fun y => y ∈ gens) c) : PermN E.length (actN E c) := ⟨fun _ hi => (h.actB hn hG hc hi).2, fun _ _ hi hj e => h.inj hn hG hc hi hj e⟩
theorem elts_pos (h : EltsOk n gens E) : 1 ≤ E.length := List.length_pos_of_mem ((h.mem _).2 Cl.one)
theorem actL_pm (hn : 1 ≤ n ∧ n ≤ 12) (hG : ∀ x ∈ gens, RowN n x) (h : EltsOk n gens E) (hc : Cl n (fun y => y ∈ gens) c) : Pm.IsRow (actL E c E.length) :=
  pm_of (actN E c) (actL_len (Nat.le_refl _)) (elts_pos h) (actN_perm hn hG h hc) fun _ hi => actL_at hn hG h hc hi
theorem act_itr (hn : 1 ≤ n ∧ n ≤ 12) (hG : ∀ x ∈ gens, RowN n x) (h : EltsOk n gens E) (hc : Cl n (fun y => y ∈ gens) c) {i : Nat} (hi : i < E.length) : ∀ m, itN (actN E c) m i < E.length ∧ E.getD (itN (actN E c) m i) [] = byL (E.getD i []) (powL n c m)
  | 0 => ⟨hi, by show E.getD i [] = _; rw [powL, byL_rounds_right ((h.rows hn hG) _ (mem_atD [] hi)).len]⟩
  | m + 1 => by
    obtain ⟨h1, h2⟩ := act_itr hn hG h hc hi m
    obtain ⟨h3, _, h5⟩ := h.act hn hG hc h1
    refine ⟨h3, ?_⟩
    show E.getD (actN E c (itN (actN E c) m i)) [] = _
    rw [h5, h2, powL, by_as _ (pow_rowN' (hc.row hn hG) m) (hc.row hn hG)]
theorem itr_itN {N : Nat} {l : List Int} {f : Nat → Nat} (hp : PermN N f) (hf : ∀ i, i < N → l.getD i 0 = (f i : Int)) {i : Nat} (hi : i < N) : ∀ m, itr l i m = itN f m i
  | 0 => rfl
  | m + 1 => by
    rw [itr, itr_itN hp hf hi m, itN]
    unfold nxt
    rw [hf _ (itN_lt hp hi m)]; omega
theorem act_back (hn : 1 ≤ n ∧ n ≤ 12) (hG : ∀ x ∈ gens, RowN n x) (h : EltsOk n gens E) (hc : Cl n (fun y => y ∈ gens) c) {i : Nat} (hi : i < E.length) (m : Nat) : itN (actN E c) m i = i ↔ ordL c ∣ m := by
  have hcr := hc.row hn hG
  obtain ⟨h1, h2⟩ := act_itr hn hG h hc hi m
  have hr := h.rows hn hG _ (mem_atD [] hi)
  constructor
  · intro e
    rw [e] at h2
    have h3 : byL (undoL (E.getD i [])) (E.getD i []) = byL (undoL (E.getD i [])) (byL (E.getD i []) (powL n c m)) := by rw [← h2]
    rw [by_as _ hr (pow_rowN' hcr m), undo_left hr, byL_rounds_left (pow_rowN' hcr m).bd] at h3
    exact pow_rounds hcr.row hcr.len h3.symm
  · rintro ⟨q, rfl⟩
    have h3 : powL n c (ordL c * q) = roundsL n := by
      rw [pow_mod hcr, Nat.mul_mod_right]; rfl
    rw [h3, byL_rounds_right hr.len] at h2
    exact nd_inj h.nd h1 hi h2
theorem act_per (hn : 1 ≤ n ∧ n ≤ 12) (hG : ∀ x ∈ gens, RowN n x) (h : EltsOk n gens E) (hc : Cl n (fun y => y ∈ gens) c) {i : Nat} (hi : i < E.length) : per (actL E c E.length) i = ordL c := by
  have hP := actL_pm hn hG h hc
  have hl : (actL E c E.length).length = E.length := actL_len (Nat.le_refl _)
  obtain ⟨p1, p2, p3, p4⟩ := Pm.per_spec hP (b := i) (by omega)
  have key := fun m => itr_itN (actN_perm hn hG h hc) (fun _ hi => actL_at hn hG h hc hi) hi m
  rw [key, act_back hn hG h hc hi] at p3
  have h1 := Nat.le_of_dvd (by omega) p3
  have ho := ordL_pos (hc.row hn hG).row
  refine Nat.le_antisymm (Classical.byContradiction fun hlt => ?_) h1
  refine p4 (ordL c) ho (by omega) ?_
  rw [key, act_back hn hG h hc hi]
  exact Nat.dvd_refl _
end
/-! ### Circuits are cycles -/
def cycN (r : List Int) : Nat := (List.range r.length).countP (least r)
section
variable {N i m f : Nat} {r : List Int}
theorem vis_run (h : Pm.IsRow r) (hi : i < r.length) (hl : least r i = true) : ∀ f m, m ≤ per r i → per r i - m < f → visF r f (doneL r i m) (itr r i m) = doneL r i (per r i)
  | 0, m, _, h2 => by omega
  | f + 1, m, h1, h2 => by
    rw [visF]
    have h3 := Pm.done_mid h hi hl h1
    by_cases hm : m < per r i
    · rw [if_pos (h3.2 hm), Pm.doneL_step h hi (h3.2 hm)]
      exact vis_run h hi hl f (m + 1) (by omega) (by omega)
    · rw [if_neg (fun e => hm (h3.1 e)), show m = per r i by omega]
theorem cir_done (h : Pm.IsRow r) : ∀ i, i ≤ r.length → cirS r r.length i = (doneL r i 0, (List.range i).countP (least r))
  | 0, _ => by rw [cirS, doneL_zero]; rfl
  | i + 1, hi => by
    have ih := cir_done h i (by omega)
    have h0 := Pm.done_start h (i := i) (by omega)
    have h01 := doneL_01 r i 0 i
    rw [cirS, ih, List.range_succ, List.countP_append]
    by_cases hl : least r i = true
    · have e0 := h0.2 hl
      have hp := (Pm.per_spec h (b := i) (by omega)).2.1
      rw [if_neg (by simp only [e0]; omega)]
      have hv := vis_run h (by omega) hl (r.length + 1) 0 (by omega) (by omega)
      have hv' : visF r (r.length + 1) (doneL r i 0) i = doneL r i (per r i) := hv
      simp only [hv', Pm.done_next h (i := i) (by omega)]
      simp [hl]
    · have e0 : (doneL r i 0).getD i 0 ≠ 0 := fun e => hl (h0.1 e)
      rw [if_pos (by simp only; omega)]
      have hf : least r i = false := by cases e : least r i <;> simp_all
      rw [Pm.done_skip h (by omega) hf]
      simp [hf]
theorem cir_cyc (h : Pm.IsRow r) (hN : r.length = N) : cirN r N = cycN r := by
  subst hN
  unfold cirN cycN
  rw [cir_done h _ (Nat.le_refl _)]
theorem cyc_pos (h : Pm.IsRow r) : 1 ≤ cycN r := by
  have hl : least r 0 = true := (Pm.least_iff h h.pos).2 fun k _ => Nat.zero_le _
  exact List.countP_pos_iff.2 ⟨0, List.mem_range.2 h.pos, hl⟩
theorem len_all {l : List (List Int)} {o : Nat} (h : ∀ c ∈ l, c.length = o) : l.flatten.length = l.length * o := by
  induction l with
  | nil => simp
  | cons c l ih =>
    rw [List.flatten_cons, List.length_append, ih fun d hd => h d (by simp [hd]), h c (by simp), List.length_cons, Nat.succ_mul]; omega
theorem cyc_mul (h : Pm.IsRow r) {o : Nat} (ho : ∀ i, i < r.length → per r i = o) : cycN r * o = r.length := by
  have h1 := (Pm.cycles_perm h).length_eq
  rw [roundsL_len, len_all (o := o) fun c hc => by
    obtain ⟨b, hb, _, rfl⟩ := cyc_mem hc
    rw [orb_len]; exact ho b hb] at h1
  have h2 : (cyclesL r).length = cycN r := by
    unfold cyclesL cyclesTo cycN
    rw [List.length_map, List.countP_eq_length_filter]
  rw [← h2]; exact h1
theorem cyc_par {a b : List Int} (ha : Pm.IsRow a) (hb : Pm.IsRow b) (hl : a.length = b.length) (ho : oddL a = oddL b) : cycN a % 2 = cycN b % 2 := by
  rw [Pm.oddL_count ha, Pm.oddL_count hb, decide_eq_decide] at ho
  unfold cycN
  omega
theorem odd_none {o : Nat} (h : Pm.IsRow r) (hb : ∀ i, i < r.length → itr r i o = i) (ho : o % 2 = 1) : oddL r = false := by
  have key : ∀ m, ∃ p : List Int, Pm.IsRow p ∧ p.length = r.length ∧ (∀ i, i < r.length → p.getD i 0 = (itr r i m : Nat)) ∧ oddL p = (decide (m % 2 = 1) && oddL r) := by
    intro m
    induction m with
    | zero =>
      refine ⟨roundsL r.length, Pm.roundsL_row h.pos, roundsL_len _, fun i hi => by rw [roundsL_get hi]; rfl, ?_⟩
      rw [Pm.oddL_inv (Pm.roundsL_row h.pos), invB_rounds]; rfl
    | succ m ih =>
      obtain ⟨p, p1, p2, p3, p4⟩ := ih
      refine ⟨byL r p, Pm.byL_row h p1 p2.symm, by rw [byL_len, p2], fun i hi => ?_, ?_⟩
      · rw [byL_get r p i (by omega), p3 i hi, Int.toNat_natCast]
        exact (Pm.nxt_int h (Pm.itr_lt h hi m)).symm
      · rw [Pm.oddL_by h p1 p2.symm, p4]
        have : decide ((m + 1) % 2 = 1) = !decide (m % 2 = 1) := by
          rw [Bool.eq_iff_iff]; simp only [decide_eq_true_eq, Bool.not_eq_true', decide_eq_false_iff_not]; omega
        rw [this]
        generalize decide (m % 2 = 1) = q
        generalize oddL r = s
        revert q s; decide
  obtain ⟨p, p1, p2, p3, p4⟩ := key o
  have e : p = roundsL r.length := by
    refine ext0 (by rw [p2, roundsL_len]) fun i hi => ?_
    rw [p3 i (by omega), hb i (by omega), roundsL_get (by omega)]
  rw [e, Pm.oddL_inv (Pm.roundsL_row h.pos), invB_rounds, ho] at p4
  simpa using p4.symm
end
end Go.KL

/- RANKIN: the sets, left one way or the other. -/
namespace Go.KL
open Go.RowKit
section
variable {N i j k m c : Nat} {l to ch : List Int} {V : Nat → Nat → Int} {v : Nat → Int} {p : Nat → Nat} {Q : List (List Int)}
theorem setA_len : ∀ (js : List Int) {to : List Int}, (setA v to js).length = to.length
  | [], to => rfl
  | z :: js, to => by
    show (setA v (to.set z.toNat (v z.toNat)) js).length = _
    rw [setA_len js, List.length_set]
theorem setA_get (hN : to.length = N) (hj : j < N) : ∀ i, i ≤ N → (setA v to (idxs l c i)).getD j 0 = if j < i ∧ l.getD j 0 = (c : Int) + 1 then v j else to.getD j 0
  | 0, _ => by
    have : idxs l c 0 = [] := rfl
    rw [this, if_neg (by omega)]; rfl
  | i + 1, hi => by
    have ih := setA_get hN hj i (by omega)
    rw [idxs_succ]
    by_cases h : l.getD i 0 = (c : Int) + 1
    · rw [if_pos h, setA_snoc, Int.toNat_natCast]
      by_cases e : i = j
      · subst e
        rw [getD_set_self (by rw [setA_len, hN]; exact hj), if_pos ⟨by omega, h⟩]
      · rw [getD_set_ne e, ih]
        by_cases h2 : j < i ∧ l.getD j 0 = (c : Int) + 1
        · rw [if_pos h2, if_pos ⟨by omega, h2.2⟩]
        · rw [if_neg h2, if_neg (fun h3 => h2 ⟨by omega, h3.2⟩)]
    · rw [if_neg h, ih]
      by_cases h2 : j < i ∧ l.getD j 0 = (c : Int) + 1
      · rw [if_pos h2, if_pos ⟨by omega, h2.2⟩]
      · rw [if_neg h2, if_neg (fun h3 => h2 ⟨by
          rcases Nat.lt_or_ge j i with h4 | h4
          · exact h4
          · have : j = i := by omega
            subst this; exact absurd h3.2 h, h3.2⟩)]
theorem toK_len : ∀ k, (toK Q V N k).length = N
  | 0 => by simp [toK]
  | k + 1 => by rw [toK, setA_len, toK_len k]
theorem toK_get (hj : j < N) (h1 : 1 ≤ l.getD j 0) : ∀ k, k ≤ m → (toK (grpTo l m N) V N k).getD j 0 = if l.getD j 0 ≤ k then V (l.getD j 0 - 1).toNat j else 0
  | 0, _ => by
    rw [if_neg (by omega), toK]; simp [hj]
  | k + 1, hk => by
    rw [toK, grpTo_get (by omega), setA_get (toK_len k) hj N (Nat.le_refl _), toK_get hj h1 k (by omega)]
    by_cases e : l.getD j 0 = (k : Int) + 1
    · rw [if_pos ⟨hj, e⟩, if_pos (by omega), show (l.getD j 0 - 1).toNat = k by omega]
    · rw [if_neg (fun h => e h.2)]
      by_cases h2 : l.getD j 0 ≤ k
      · rw [if_pos h2, if_pos (by omega)]
      · rw [if_neg h2, if_neg (by omega)]
theorem sum_idx (h1 : 1 ≤ l.getD i 0) : ∀ m, ((List.range m).map fun c => (idxs l c (i + 1)).length).sum = ((List.range m).map fun c => (idxs l c i).length).sum + if l.getD i 0 ≤ m then 1 else 0
  | 0 => by rw [if_neg (by omega)]; rfl
  | m + 1 => by
    rw [List.range_succ, List.map_append, List.sum_append, List.map_append, List.sum_append, sum_idx h1 m]
    simp only [List.map_cons, List.map_nil, List.sum_cons, List.sum_nil, idxs_succ]
    by_cases e : l.getD i 0 = (m : Int) + 1
    · rw [if_neg (by omega), if_pos e, if_pos (by omega), List.length_append, List.length_singleton]; omega
    · rw [if_neg e]
      by_cases h2 : l.getD i 0 ≤ m
      · rw [if_pos h2, if_pos (by omega)]; omega
      · rw [if_neg h2, if_neg (by omega)]; omega
def sumL (Q : List (List Int)) (i : Nat) : Nat := ((Q.take i).map List.length).sum
theorem sumL_succ (hi : i < Q.length) : sumL Q (i + 1) = sumL Q i + (Q.getD i []).length := by
  unfold sumL; rw [take_snoc Q [] i hi, List.map_append, List.sum_append]; simp
theorem sumL_mono : ∀ {d i : Nat}, sumL Q i ≤ sumL Q (i + d)
  | 0, i => Nat.le_refl _
  | d + 1, i => by
    refine Nat.le_trans (sumL_mono (d := d)) ?_
    show sumL Q (i + d) ≤ sumL Q ((i + d) + 1)
    rcases Nat.lt_or_ge (i + d) Q.length with hi | hi
    · rw [sumL_succ hi]; omega
    · have : sumL Q (i + d + 1) = sumL Q (i + d) := by unfold sumL; rw [List.take_of_length_le hi, List.take_of_length_le (by omega)]
      omega
theorem QsP.all (h : QsP p N Q) : sumL Q Q.length = N := by
  obtain ⟨l, m, h1, h2, h3, rfl⟩ := h
  have key : ∀ i, i ≤ N → ((List.range m).map fun c => (idxs l c i).length).sum = i := by
    intro i
    induction i with
    | zero =>
      intro _
      have : (fun c => (idxs l c 0).length) = fun _ => 0 := rfl
      rw [this]; clear h2 h3
      induction m with
      | zero => rfl
      | succ m ih => rw [List.range_succ, List.map_append, List.sum_append, ih]; rfl
    | succ i ih =>
      intro hi
      rw [sum_idx (h2.lo i (by omega)), ih (by omega), if_pos (h2.hi i (by omega))]
  unfold sumL
  rw [List.take_length]
  unfold grpTo
  rw [List.map_map]
  exact key N (Nat.le_refl _)
theorem QsP.sum_le (h : QsP p N Q) (hi : i ≤ Q.length) : sumL Q i ≤ N := by
  have h1 := sumL_mono (Q := Q) (d := Q.length - i) (i := i)
  rw [show i + (Q.length - i) = Q.length by omega, h.all] at h1
  exact h1
end
section
variable {n : Nat} {x y ch : List Int} {E gens Q : List (List Int)}
structure ToP (E : List (List Int)) (x y ch : List Int) (Q : List (List Int)) (b : Nat → Bool) : Prop where
  con : ∀ i, i < E.length → b (qN E x y i) = b i
  at' : ∀ i, i < E.length → (toE E x y Q ch).getD i 0 = (actN E (if b i = true then y else x) i : Int)
theorem toE_at (hn : 1 ≤ n ∧ n ≤ 12) (hG : ∀ x ∈ gens, RowN n x) (h : EltsOk n gens E) (hx : Cl n (fun y => y ∈ gens) x) (hy : Cl n (fun y => y ∈ gens) y) (hQ : QsP (qN E x y) E.length Q) (ch : List Int) : ∃ b, ToP E x y ch Q b ∧ ((∀ k, k < Q.length → ch.getD k 0 ≠ 1) → ∀ i, i < E.length → b i = false) := by
  obtain ⟨l, m, h1, h2, h3, rfl⟩ := hQ
  refine ⟨fun i => decide (ch.getD (l.getD i 0 - 1).toNat 0 = 1), ⟨fun i hi => ?_, fun i hi => ?_⟩, fun h0 i hi => ?_⟩
  · show decide _ = decide _
    rw [h1.st i hi]
  · unfold toE
    have := h2.lo i hi
    have := h2.hi i hi
    rw [grpTo_len, toK_get hi (by omega) m (Nat.le_refl _), if_pos (by omega)]
    unfold vK
    by_cases e : ch.getD (l.getD i 0 - 1).toNat 0 = 1
    · rw [if_pos e, if_pos (decide_eq_true e)]; exact (h.actB hn hG hy hi).1
    · rw [if_neg e, if_neg (by rw [decide_eq_true_eq]; exact e)]; exact (h.actB hn hG hx hi).1
  · have := h2.lo i hi
    have := h2.hi i hi
    exact decide_eq_false (h0 _ (by rw [grpTo_len]; omega))
theorem q_act (hn : 1 ≤ n ∧ n ≤ 12) (hG : ∀ x ∈ gens, RowN n x) (h : EltsOk n gens E) (hx : Cl n (fun y => y ∈ gens) x) (hy : Cl n (fun y => y ∈ gens) y) {i : Nat} (hi : i < E.length) : actN E y (qN E x y i) = actN E x i := by
  obtain ⟨q1, _, q3⟩ := h.q hn hG hx hy hi
  obtain ⟨a1, _, a3⟩ := h.act hn hG hy q1
  obtain ⟨b1, _, b3⟩ := h.act hn hG hx hi
  have hyr := hy.row hn hG
  have hr := (h.rows hn hG _ (mem_atD [] hi)).by (hx.row hn hG)
  refine nd_inj (d := []) h.nd a1 b1 ?_
  rw [a3, q3, b3, ← by_as _ hyr.undo hyr, undo_left hyr, byL_rounds_right hr.len]
theorem toE_pm (hn : 1 ≤ n ∧ n ≤ 12) (hG : ∀ x ∈ gens, RowN n x) (h : EltsOk n gens E) (hx : Cl n (fun y => y ∈ gens) x) (hy : Cl n (fun y => y ∈ gens) y) {b : Nat → Bool} (hb : ToP E x y ch Q b) : Pm.IsRow (toE E x y Q ch) ∧ (toE E x y Q ch).length = E.length := by
  have hl : (toE E x y Q ch).length = E.length := toK_len _
  have hqp := h.qPerm hn hG hx hy
  have key : ∀ i j, i < E.length → j < E.length → b i = true → b j = false → actN E y i = actN E x j → False := fun i j hi hj b1 b2 e => by
    rw [← q_act hn hG h hx hy hj] at e
    have e2 := h.inj hn hG hy hi (hqp.lt j hj) e
    rw [e2, hb.con j hj, b2] at b1; cases b1
  refine ⟨pm_of _ hl (elts_pos h) ⟨fun i hi => ?_, fun i j hi hj e => ?_⟩ hb.at', hl⟩
  · split
    · exact (h.actB hn hG hy hi).2
    · exact (h.actB hn hG hx hi).2
  · cases b1 : b i <;> cases b2 : b j <;> simp only [b1, b2, if_true, if_false, Bool.false_eq_true] at e
    · exact h.inj hn hG hx hi hj e
    · exact (key j i hj hi b2 b1 e.symm).elim
    · exact (key i j hi hj b1 b2 e).elim
    · exact h.inj hn hG hy hi hj e
theorem q_itr (hn : 1 ≤ n ∧ n ≤ 12) (hG : ∀ x ∈ gens, RowN n x) (h : EltsOk n gens E) (hx : Cl n (fun y => y ∈ gens) x) (hy : Cl n (fun y => y ∈ gens) y) : qN E x y = actN E (byL x (undoL y)) ∨ ∀ i, i < E.length → qN E x y i = actN E (byL x (undoL y)) i := .inr fun i hi => by
  obtain ⟨q1, _, q3⟩ := h.q hn hG hx hy hi
  have hyr := hy.row hn hG
  have hxr := hx.row hn hG
  obtain ⟨a1, _, a3⟩ := h.act hn hG (hx.prod hn hG (hy.undo hn hG)) hi
  refine nd_inj (d := []) h.nd q1 a1 ?_
  rw [q3, a3, by_as _ hxr hyr.undo]
theorem toE_odd (hn : 1 ≤ n ∧ n ≤ 12) (hG : ∀ x ∈ gens, RowN n x) (h : EltsOk n gens E) (hx : Cl n (fun y => y ∈ gens) x) (hy : Cl n (fun y => y ∈ gens) y) {b : Nat → Bool} (hb : ToP E x y ch Q b) (ho : ordL (byL x (undoL y)) % 2 = 1) : oddL (toE E x y Q ch) = oddL (actL E x E.length) := by
  obtain ⟨hT, hl⟩ := toE_pm hn hG h hx hy hb
  have hqp := h.qPerm hn hG hx hy
  have hz := hx.prod hn hG (hy.undo hn hG)
  have hw : PermN E.length (fun i => if b i = true then qN E x y i else i) := by
    refine ⟨fun i hi => ?_, fun i j hi hj e => ?_⟩
    · split
      · exact hqp.lt i hi
      · exact hi
    · cases b1 : b i <;> cases b2 : b j <;> simp only [b1, b2, if_true, if_false, Bool.false_eq_true] at e
      · exact e
      · rw [e, hb.con j hj, b2] at b1; cases b1
      · rw [← e, hb.con i hi, b1] at b2; cases b2
      · exact hqp.inj i j hi hj e
  have hwl : ((List.range E.length).map fun i => (((if b i = true then qN E x y i else i : Nat)) : Int)).length = E.length := by simp
  have hwg : ∀ i, i < E.length → ((List.range E.length).map fun i => (((if b i = true then qN E x y i else i : Nat)) : Int)).getD i 0 = ((if b i = true then qN E x y i else i : Nat) : Int) := fun i hi => by simp [List.getD_eq_getElem?_getD, hi]
  generalize ((List.range E.length).map fun i => (((if b i = true then qN E x y i else i : Nat)) : Int)) = w at hwl hwg
  have hW : Pm.IsRow w := pm_of _ hwl (elts_pos h) hw hwg
  have e1 : byL (toE E x y Q ch) w = actL E x E.length := by
    refine ext0 (by rw [byL_len, hwl, actL_len (Nat.le_refl _)]) fun i hi => ?_
    rw [byL_len, hwl] at hi
    rw [byL_get _ _ i (by omega), hwg i hi, Int.toNat_natCast, (h.actB hn hG hx hi).1]
    cases b1 : b i
    · rw [if_neg (by decide), hb.at' i hi, b1, if_neg (by decide)]
    · rw [if_pos rfl, hb.at' _ (hqp.lt i hi), hb.con i hi, b1, if_pos rfl, q_act hn hG h hx hy hi]
  have hqi : ∀ i, i < E.length → qN E x y i = actN E (byL x (undoL y)) i := by
    rcases q_itr hn hG h hx hy with e | e
    · exact fun i _ => by rw [e]
    · exact e
  have hwo : ∀ i, i < w.length → itr w i (ordL (byL x (undoL y))) = i := fun i hi => by
    rw [hwl] at hi
    rw [itr_itN hw hwg hi]
    have e2 : ∀ m, itN (fun i => if b i = true then qN E x y i else i) m i = if b i = true then itN (actN E (byL x (undoL y))) m i else i := by
      intro m
      induction m with
      | zero => simp [itN]
      | succ m ih =>
        rw [itN, ih]
        cases b1 : b i
        · simp [b1]
        · have hlt := itN_lt (actN_perm hn hG h hz) hi m
          have hb2 : b (itN (actN E (byL x (undoL y))) m i) = true := by
            clear ih e1 hlt
            induction m with
            | zero => exact b1
            | succ m ih =>
              have hlt := itN_lt (actN_perm hn hG h hz) hi m
              rw [itN, ← hqi _ hlt, hb.con _ hlt]; exact ih
          simp only [if_true, hb2, itN]
          exact hqi _ hlt
    rw [e2]
    split
    · exact (act_back hn hG h hz hi _).2 (Nat.dvd_refl _)
    · rfl
  have h2 := Pm.oddL_by hT hW (by rw [hl, hwl])
  rw [e1, odd_none hW hwo ho] at h2
  rw [h2]; simp
theorem cir_of (hn : 1 ≤ n ∧ n ≤ 12) (hG : ∀ x ∈ gens, RowN n x) (h : EltsOk n gens E) (hx : Cl n (fun y => y ∈ gens) x) (hy : Cl n (fun y => y ∈ gens) y) (hQ : QsP (qN E x y) E.length Q) : 1 ≤ cirN (toE E x y Q ch) E.length ∧ cirN (toE E x y Q ch) E.length ≤ E.length := by
  obtain ⟨b, hb, _⟩ := toE_at hn hG h hx hy hQ ch
  obtain ⟨hT, hl⟩ := toE_pm hn hG h hx hy hb
  have h1 := cyc_pos hT
  rw [cir_cyc hT hl]
  refine ⟨h1, ?_⟩
  unfold cycN
  have := List.countP_le_length (p := least (toE E x y Q ch)) (l := List.range (toE E x y Q ch).length)
  rw [List.length_range, hl] at this
  rw [hl]; exact this
theorem cir_plain (hn : 1 ≤ n ∧ n ≤ 12) (hG : ∀ x ∈ gens, RowN n x) (h : EltsOk n gens E) (hx : Cl n (fun y => y ∈ gens) x) (hy : Cl n (fun y => y ∈ gens) y) (hQ : QsP (qN E x y) E.length Q) (h0 : ∀ k, k < Q.length → ch.getD k 0 ≠ 1) : cirN (toE E x y Q ch) E.length = cycN (actL E x E.length) := by
  obtain ⟨b, hb, hz⟩ := toE_at hn hG h hx hy hQ ch
  obtain ⟨hT, hl⟩ := toE_pm hn hG h hx hy hb
  have e : toE E x y Q ch = actL E x E.length := by
    refine ext0 (by rw [hl, actL_len (Nat.le_refl _)]) fun i hi => ?_
    rw [hl] at hi
    rw [hb.at' i hi, hz h0 i hi, if_neg (by decide), (h.actB hn hG hx hi).1]
  rw [e, cir_cyc (actL_pm hn hG h hx) (actL_len (Nat.le_refl _))]
theorem rankin_par (hn : 1 ≤ n ∧ n ≤ 12) (hG : ∀ x ∈ gens, RowN n x) (h : EltsOk n gens E) (hx : Cl n (fun y => y ∈ gens) x) (hy : Cl n (fun y => y ∈ gens) y) (hQ : QsP (qN E x y) E.length Q) (ho : ordL (byL x (undoL y)) % 2 = 1) : cirN (toE E x y Q ch) E.length % 2 = cycN (actL E x E.length) % 2 := by
  obtain ⟨b, hb, hz⟩ := toE_at hn hG h hx hy hQ ch
  obtain ⟨hT, hl⟩ := toE_pm hn hG h hx hy hb
  rw [cir_cyc hT hl]
  exact cyc_par hT (actL_pm hn hG h hx) (by rw [hl, actL_len (Nat.le_refl _)]) (toE_odd hn hG h hx hy hb ho)
theorem rankin_size (hn : 1 ≤ n ∧ n ≤ 12) (hG : ∀ x ∈ gens, RowN n x) (h : EltsOk n gens E) (hx : Cl n (fun y => y ∈ gens) x) {F : List (List Int)} (hF : EltsOk n [x] F) : cycN (actL E x E.length) * F.length = E.length := by
  rw [elts_one (hx.row hn hG) hF]
  have := cyc_mul (actL_pm hn hG h hx) (o := ordL x) fun i hi => act_per hn hG h hx (by rwa [actL_len (Nat.le_refl _)] at hi)
  rwa [actL_len (Nat.le_refl _)] at this
end
/-! ### The law's numbers -/
theorem szTo_pow {n : Nat} {S : List Int → Prop} : ∀ k, szTo n S k ≤ n ^ k
  | 0 => Nat.le_refl _
  | k + 1 => by rw [szTo, Nat.pow_succ]; exact Nat.mul_le_mul (szTo_pow k) osz_le
theorem szTo_5 {n : Nat} {S : List Int → Prop} (hn : 1 ≤ n) (h : n ≤ 5) : szTo n S n ≤ 5040 := by
  have h1 := szTo_pow (n := n) (S := S) n
  have h2 : n ^ n ≤ 5 ^ n := Nat.pow_le_pow_left h n
  have h3 : 5 ^ n ≤ 5 ^ 5 := Nat.pow_le_pow_right (by omega) h
  have h4 : (5 : Nat) ^ 5 = 3125 := rfl
  omega
theorem badC_01 {ch : List Int} (h : ∀ j, 0 ≤ ch.getD j 0 ∧ ch.getD j 0 ≤ 1) : ∀ k, badC ch k = false
  | 0 => rfl
  | k + 1 => badC_succ (badC_01 h k) (h k).1 (h k).2
theorem leads_01 (raw : List Int) (m : Nat) : ∀ j, 0 ≤ (leadsOf raw m 2).getD j 0 ∧ (leadsOf raw m 2).getD j 0 ≤ 1 := fun j => by
  rcases Nat.lt_or_ge j m with h | h
  · have e : (leadsOf raw m 2).getD j 0 = ((pick (rawAt raw j) 2 : Nat) : Int) := by simp [leadsOf, List.getD_eq_getElem?_getD, h]
    have := pick_lt (rawAt raw j) (n := 2) (by omega)
    rw [e]; omega
  · have e : (leadsOf raw m 2).getD j 0 = 0 := by
      rw [List.getD_eq_getElem?_getD, List.getElem?_eq_none (by rw [leadsOf_len]; exact h)]; rfl
    rw [e]; omega
theorem zeros_0 (m : Nat) : ∀ j, (List.replicate m (0 : Int)).getD j 0 = 0 := fun j => by
  rw [List.getD_eq_getElem?_getD, List.getElem?_replicate]
  split <;> rfl
theorem rnd_ok {E Q : List (List Int)} {x y ch : List Int} (hl : ch.length = Q.length) (h : ∀ j, 0 ≤ ch.getD j 0 ∧ ch.getD j 0 ≤ 1) : rndE Q ch = 0 ∧ rndN E x y Q ch = cirN (toE E x y Q ch) E.length := by
  have h0 := rndE_ok hl (badC_01 h Q.length)
  exact ⟨h0, by unfold rndN; rw [if_pos h0]⟩
theorem rankin_law {n : Nat} {E Q : List (List Int)} {x y ch zs : List Int} {c : Nat → Lev} (hT : TwoP n x y) (h : EltsOk n [x, y] E) (hQ : QsP (qN E x y) E.length Q) (hc : ChnOf n [x] c)
    (hl : ch.length = Q.length) (h1 : ∀ j, 0 ≤ ch.getD j 0 ∧ ch.getD j 0 ≤ 1) (hz : zs.length = Q.length) (h0 : ∀ j, zs.getD j 0 = 0) :
    rndE Q ch = 0 ∧ rndE Q zs = 0 ∧ sumL Q Q.length = E.length ∧ E.length = szTo n (fun z => z ∈ [x, y]) n ∧ rndN E x y Q zs * szTo n (fun z => z ∈ [x]) n = E.length ∧ 1 ≤ rndN E x y Q ch ∧ rndN E x y Q ch ≤ E.length ∧
    (ordL (byL x (undoL y)) % 2 = 1 → rndN E x y Q ch % 2 = rndN E x y Q zs % 2) := by
  have hn := hT.hn
  have hG := hT.g
  obtain ⟨a1, a2⟩ := rnd_ok (E := E) (x := x) (y := y) hl h1
  obtain ⟨b1, b2⟩ := rnd_ok (E := E) (x := x) (y := y) hz (fun j => by rw [h0 j]; omega)
  have hG1 : ∀ z ∈ [x], RowN n z := fun z hz => by rw [List.mem_singleton.1 hz]; exact hT.rx
  obtain ⟨F, hF⟩ := hc.elts hG1
  have hp := cir_plain (ch := zs) hn hG h hT.cx hT.cy hQ fun k _ => by rw [h0 k]; omega
  have hs := rankin_size hn hG h hT.cx hF
  obtain ⟨k1, k2⟩ := cir_of (ch := ch) hn hG h hT.cx hT.cy hQ
  refine ⟨a1, b1, hQ.all, h.len, ?_, by rw [a2]; exact k1, by rw [a2]; exact k2, fun ho => ?_⟩
  · rw [b2, hp, ← hF.len]; exact hs
  · rw [a2, b2, hp]; exact rankin_par hn hG h hT.cx hT.cy hQ ho
end Go.KL

