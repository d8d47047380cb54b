/- The cycles of a row. Plain mathematics. -/
import Derived.Test.YtlhnpkaohfoicaaKlSpec
namespace Go.KL

def nxt (r : List Int) (k : Nat) : Nat := (r.getD k 0).toNat
def itr (r : List Int) (b : Nat) : Nat → Nat
  | 0 => b
  | m + 1 => nxt r (itr r b m)

theorem nxt_lt {r : List Int} (h : IsRow r) {k : Nat} (hk : k < r.length) : nxt r k < r.length := by
  have := h.at hk; unfold nxt; omega
theorem nxt_int {r : List Int} (h : IsRow r) {k : Nat} (hk : k < r.length) : ((nxt r k : Nat) : Int) = r.getD k 0 := by
  have := h.at hk; unfold nxt; omega
theorem nxt_inj {r : List Int} (h : IsRow r) {j k : Nat} (hj : j < r.length) (hk : k < r.length) (e : nxt r j = nxt r k) : j = k := by
  have e' : r.getD j 0 = r.getD k 0 := by rw [← nxt_int h hj, ← nxt_int h hk, e]
  rw [← idxOf_at h.nodup hj, ← idxOf_at h.nodup hk, e']
theorem itr_lt {r : List Int} (h : IsRow r) {b : Nat} (hb : b < r.length) : ∀ m, itr r b m < r.length
  | 0 => hb
  | m + 1 => nxt_lt h (itr_lt h hb m)
theorem itr_add (r : List Int) (b m : Nat) : ∀ n, itr r b (m + n) = itr r (itr r b m) n
  | 0 => rfl
  | n + 1 => by rw [Nat.add_succ]; simp only [itr]; rw [itr_add r b m n]
theorem itr_cancel {r : List Int} (h : IsRow r) {b : Nat} (hb : b < r.length) : ∀ (i d : Nat), itr r b i = itr r b (i + d) → b = itr r b d
  | 0, d, e => by simpa [itr] using e
  | i + 1, d, e => by
    refine itr_cancel h hb i d ?_
    rw [show i + 1 + d = (i + d) + 1 by omega] at e
    exact nxt_inj h (itr_lt h hb i) (itr_lt h hb (i + d)) e

theorem collide {n : Nat} (f : Nat → Nat) (hf : ∀ i, f i < n) : ∃ i j, i < j ∧ j ≤ n ∧ f i = f j := by
  refine Classical.byContradiction fun hn => ?_
  have hl := nodup_len n ((List.range (n + 1)).map fun (i : Nat) => ((f i : Nat) : Int)) ?_ ?_
  · simp at hl; omega
  · refine List.Pairwise.map _ (R := fun a b => a < b ∧ b ≤ n) (fun a b hab e => hn ⟨a, b, hab.1, hab.2, by omega⟩) ?_
    rw [List.pairwise_iff_getElem]
    intro i j hi hj hij
    simp at hi hj ⊢
    omega
  · intro x hx
    simp only [List.mem_map, List.mem_range] at hx
    obtain ⟨i, _, rfl⟩ := hx
    have := hf i; omega

theorem back_exists {r : List Int} (h : IsRow r) {b : Nat} (hb : b < r.length) : ∃ m, m < r.length ∧ itr r b (m + 1) = b := by
  obtain ⟨i, j, hij, hj, e⟩ := collide (itr r b) (itr_lt h hb)
  refine ⟨j - i - 1, by omega, ?_⟩
  have := itr_cancel h hb i (j - i) (by rw [show i + (j - i) = j by omega]; exact e)
  rw [show j - i - 1 + 1 = j - i by omega]; exact this.symm

/-- How many steps till b comes again. -/
def per (r : List Int) (b : Nat) : Nat := (List.range r.length).findIdx (fun m => itr r b (m + 1) == b) + 1
theorem per_spec {r : List Int} (h : IsRow r) {b : Nat} (hb : b < r.length) : 1 ≤ per r b ∧ per r b ≤ r.length ∧ itr r b (per r b) = b ∧ ∀ m, 0 < m → m < per r b → itr r b m ≠ b := by
  obtain ⟨m, hm, e⟩ := back_exists h hb
  have hx : (List.range r.length).findIdx (fun m => itr r b (m + 1) == b) < (List.range r.length).length := List.findIdx_lt_length_of_exists ⟨m, List.mem_range.2 hm, by simp [e]⟩
  have hx' : (List.range r.length).findIdx (fun m => itr r b (m + 1) == b) < r.length := by simpa using hx
  refine ⟨by unfold per; omega, by unfold per; omega, ?_, fun m h0 hm => ?_⟩
  · have := List.findIdx_getElem (w := hx)
    simp only [List.getElem_range, beq_iff_eq] at this
    exact this
  · have := List.not_of_lt_findIdx (p := fun m => itr r b (m + 1) == b) (xs := List.range r.length) (i := m - 1) (by unfold per at hm; omega)
    simp only [List.getElem_range, beq_eq_false_iff_ne] at this
    rwa [show m - 1 + 1 = m by omega] at this

/-- b, and where it leads, till it comes again. -/
def orb (r : List Int) (b : Nat) : List Int := (List.range (per r b)).map fun (m : Nat) => ((itr r b m : Nat) : Int)
def orbTo (r : List Int) (b m : Nat) : List Int := (List.range m).map fun (m : Nat) => ((itr r b m : Nat) : Int)
theorem orbTo_succ (r : List Int) (b m : Nat) : orbTo r b (m + 1) = orbTo r b m ++ [((itr r b m : Nat) : Int)] := by simp [orbTo, List.range_succ]
theorem orbTo_len (r : List Int) (b m : Nat) : (orbTo r b m).length = m := by simp [orbTo]

theorem itr_inj {r : List Int} (h : IsRow r) {b : Nat} (hb : b < r.length) {i j : Nat} (hij : i < j) (hj : j < per r b) : itr r b i ≠ itr r b j := by
  intro e
  have := itr_cancel h hb i (j - i) (by rw [show i + (j - i) = j by omega]; exact e)
  exact (per_spec h hb).2.2.2 (j - i) (by omega) (by omega) this.symm

/-- Is b the least of its cycle? -/
def least (r : List Int) (b : Nat) : Bool := (List.range (per r b)).all fun m => decide (b ≤ itr r b m)
def cyclesTo (r : List Int) (k : Nat) : List (List Int) := ((List.range k).filter (least r)).map (orb r)
def cyclesL (r : List Int) : List (List Int) := cyclesTo r r.length
theorem cyclesTo_len (r : List Int) (k : Nat) : (cyclesTo r k).length ≤ k := by
  unfold cyclesTo; rw [List.length_map]; exact Nat.le_trans (List.length_filter_le _ _) (by simp)
theorem cyclesTo_yes (r : List Int) (k : Nat) (h : least r k = true) : cyclesTo r (k + 1) = cyclesTo r k ++ [orb r k] := by simp [cyclesTo, List.range_succ, h]
theorem cyclesTo_no (r : List Int) (k : Nat) (h : least r k = false) : cyclesTo r (k + 1) = cyclesTo r k := by simp [cyclesTo, List.range_succ, h]

/-- b leads to k. -/
def Leads (r : List Int) (b k : Nat) : Prop := ∃ m, itr r b m = k
theorem Leads.small {r : List Int} (h : IsRow r) {b k : Nat} (hb : b < r.length) (hl : Leads r b k) : ∃ m, m < per r b ∧ itr r b m = k := by
  obtain ⟨m, e⟩ := hl
  induction m using Nat.strongRecOn generalizing k with
  | _ m ih =>
  by_cases hm : m < per r b
  · exact ⟨m, hm, e⟩
  · have hp := per_spec h hb
    refine ih (m - per r b) (by omega) ?_
    have := itr_add r b (per r b) (m - per r b)
    rw [hp.2.2.1, show per r b + (m - per r b) = m by omega] at this
    rw [← this]; exact e
theorem Leads.symm {r : List Int} (h : IsRow r) {b k : Nat} (hb : b < r.length) (hl : Leads r b k) : Leads r k b := by
  obtain ⟨m, hm, e⟩ := hl.small h hb
  have hp := per_spec h hb
  refine ⟨per r b - m, ?_⟩
  have := itr_add r b m (per r b - m)
  rw [show m + (per r b - m) = per r b by omega, hp.2.2.1, e] at this
  exact this.symm
theorem Leads.trans {r : List Int} {a b c : Nat} (h : Leads r a b) (k : Leads r b c) : Leads r a c := by
  obtain ⟨m, rfl⟩ := h
  obtain ⟨n, rfl⟩ := k
  exact ⟨m + n, itr_add r a m n⟩
theorem Leads.lt {r : List Int} (h : IsRow r) {b k : Nat} (hb : b < r.length) (hl : Leads r b k) : k < r.length := by
  obtain ⟨m, rfl⟩ := hl; exact itr_lt h hb m
theorem least_iff {r : List Int} (h : IsRow r) {b : Nat} (hb : b < r.length) : least r b = true ↔ ∀ k, Leads r b k → b ≤ k := by
  unfold least
  rw [List.all_eq_true]
  constructor
  · intro hh k hk
    obtain ⟨m, hm, rfl⟩ := hk.small h hb
    exact of_decide_eq_true (hh m (List.mem_range.2 hm))
  · intro hh m _
    exact decide_eq_true (hh _ ⟨m, rfl⟩)

/-- What stands in 'done': all whose cycle has a bell below i, and the first m from i on. -/
def doneL (r : List Int) (i m : Nat) : List Int := (List.range r.length).map fun (k : Nat) => if (List.range i).any (fun j => (List.range (per r j)).any fun x => itr r j x == k) || (List.range m).any (fun x => itr r i x == k) then 1 else 0
theorem doneL_len (r : List Int) (i m : Nat) : (doneL r i m).length = r.length := by simp [doneL]
theorem doneL_iff {r : List Int} (h : IsRow r) {i m k : Nat} (hi : i ≤ r.length) (hk : k < r.length) : (doneL r i m).getD k 0 ≠ 0 ↔ (∃ j, j < i ∧ Leads r j k) ∨ ∃ x, x < m ∧ itr r i x = k := by
  rw [← gd _ k (by rw [doneL_len]; exact hk)]
  simp only [doneL, List.getElem_map, List.getElem_range]
  have key : ((List.range i).any (fun j => (List.range (per r j)).any fun x => itr r j x == k) || (List.range m).any (fun x => itr r i x == k)) = true ↔ ((∃ j, j < i ∧ Leads r j k) ∨ ∃ x, x < m ∧ itr r i x = k) := by
    simp only [Bool.or_eq_true, List.any_eq_true, List.mem_range, beq_iff_eq]
    constructor
    · rintro (⟨j, hj, x, _, e⟩ | ⟨x, hx, e⟩)
      · exact .inl ⟨j, hj, x, e⟩
      · exact .inr ⟨x, hx, e⟩
    · rintro (⟨j, hj, hl⟩ | ⟨x, hx, e⟩)
      · obtain ⟨x, hx, e⟩ := hl.small h (by omega)
        exact .inl ⟨j, hj, x, hx, e⟩
      · exact .inr ⟨x, hx, e⟩
  rw [← key]
  split <;> simp_all
theorem doneL_zero (r : List Int) : doneL r 0 0 = List.replicate r.length 0 := by
  refine List.ext_getElem (by simp [doneL]) fun j h1 h2 => by simp [doneL]
theorem doneL_01 (r : List Int) (i m k : Nat) : 0 ≤ (doneL r i m).getD k 0 ∧ (doneL r i m).getD k 0 ≤ 1 := by
  by_cases hk : k < r.length
  · rw [← gd _ k (by rw [doneL_len]; exact hk)]
    simp only [doneL, List.getElem_map, List.getElem_range]
    split <;> omega
  · rw [List.getD_eq_getElem?_getD, List.getElem?_eq_none (by rw [doneL_len]; omega)]; simp
theorem eq_of_01 {a b : List Int} (hl : a.length = b.length) (ha : ∀ k, 0 ≤ a.getD k 0 ∧ a.getD k 0 ≤ 1) (hb : ∀ k, 0 ≤ b.getD k 0 ∧ b.getD k 0 ≤ 1) (h : ∀ k, k < a.length → (a.getD k 0 ≠ 0 ↔ b.getD k 0 ≠ 0)) : a = b :=
  ext0 hl fun k hk => by have h1 := ha k; have h2 := hb k; have h3 := h k hk; omega

/-- One more of i's cycle is done. -/
theorem doneL_step {r : List Int} (h : IsRow r) {i m : Nat} (hi : i < r.length) (h0 : (doneL r i m).getD (itr r i m) 0 = 0) : (doneL r i m).set (itr r i m) 1 = doneL r i (m + 1) := by
  have hlt := itr_lt h hi m
  have hget : ∀ k, k < r.length → ((doneL r i m).set (itr r i m) 1).getD k 0 = if itr r i m = k then 1 else (doneL r i m).getD k 0 := fun k hk => by
    rw [← gd _ k (by simp [doneL_len, hk]), List.getElem_set]
    split
    · rfl
    · rw [gd]
  refine eq_of_01 (by simp [doneL_len]) (fun k => ?_) (doneL_01 _ _ _) fun k hk => ?_
  · by_cases hk : k < r.length
    · rw [hget k hk]; have := doneL_01 r i m k; split <;> omega
    · rw [List.getD_eq_getElem?_getD, List.getElem?_eq_none (by simp [doneL_len]; omega)]; simp
  · have hk' : k < r.length := by simpa [doneL_len] using hk
    rw [hget k hk', doneL_iff h (by omega) hk']
    by_cases e : itr r i m = k
    · rw [if_pos e]
      exact ⟨fun _ => .inr ⟨m, by omega, e⟩, fun _ => by omega⟩
    · rw [if_neg e, doneL_iff h (by omega) hk']
      constructor
      · rintro (h1 | ⟨x, hx, e'⟩)
        · exact .inl h1
        · exact .inr ⟨x, by omega, e'⟩
      · rintro (h1 | ⟨x, hx, e'⟩)
        · exact .inl h1
        · by_cases hxm : x = m
          · subst hxm; exact absurd e' e
          · exact .inr ⟨x, by omega, e'⟩

/-- At the start of i's turn: i is done just if it isn't the least of its cycle. -/
theorem done_start {r : List Int} (h : IsRow r) {i : Nat} (hi : i < r.length) : (doneL r i 0).getD i 0 = 0 ↔ least r i = true := by
  have h1 := doneL_iff h (m := 0) (Nat.le_of_lt hi) hi
  rw [least_iff h hi]
  constructor
  · intro h0 k hk
    refine Nat.le_of_not_lt fun hlt => ?_
    exact h1.2 (.inl ⟨k, hlt, hk.symm h hi⟩) h0
  · intro hh
    refine Classical.byContradiction fun hne => ?_
    rcases h1.1 hne with ⟨j, hj, hl⟩ | ⟨x, hx, _⟩
    · have := hh j (hl.symm h (by omega)); omega
    · omega
/-- While i's cycle is walked: what comes is not done till i comes again. -/
theorem done_mid {r : List Int} (h : IsRow r) {i m : Nat} (hi : i < r.length) (hl : least r i = true) (hm : m ≤ per r i) : (doneL r i m).getD (itr r i m) 0 = 0 ↔ m < per r i := by
  have hp := per_spec h hi
  have h1 := doneL_iff h (i := i) (m := m) (Nat.le_of_lt hi) (itr_lt h hi m)
  constructor
  · intro h0
    refine Classical.byContradiction fun hge => ?_
    have : m = per r i := by omega
    subst this
    exact h1.2 (.inr ⟨0, by omega, by rw [hp.2.2.1]; rfl⟩) h0
  · intro hlt
    refine Classical.byContradiction fun hne => ?_
    rcases h1.1 hne with ⟨j, hj, hl'⟩ | ⟨x, hx, e⟩
    · have := (least_iff h hi).1 hl j (Leads.trans ⟨m, rfl⟩ (hl'.symm h (by omega))); omega
    · exact itr_inj h hi hx hlt e
/-- i's turn is over. -/
theorem done_next {r : List Int} (h : IsRow r) {i : Nat} (hi : i < r.length) : doneL r i (per r i) = doneL r (i + 1) 0 := by
  refine eq_of_01 (by simp [doneL_len]) (doneL_01 _ _ _) (doneL_01 _ _ _) fun k hk => ?_
  have hk' : k < r.length := by simpa [doneL_len] using hk
  rw [doneL_iff h (by omega) hk', doneL_iff h (by omega) hk']
  constructor
  · rintro (⟨j, hj, hl⟩ | ⟨x, hx, e⟩)
    · exact .inl ⟨j, by omega, hl⟩
    · exact .inl ⟨i, by omega, x, e⟩
  · rintro (⟨j, hj, hl2⟩ | ⟨x, hx, e⟩)
    · by_cases hji : j = i
      · subst hji
        obtain ⟨x, hx, e⟩ := hl2.small h hi
        exact .inr ⟨x, hx, e⟩
      · exact .inl ⟨j, by omega, hl2⟩
    · omega
theorem done_skip {r : List Int} (h : IsRow r) {i : Nat} (hi : i < r.length) (hl : least r i = false) : doneL r i 0 = doneL r (i + 1) 0 := by
  refine eq_of_01 (by simp [doneL_len]) (doneL_01 _ _ _) (doneL_01 _ _ _) fun k hk => ?_
  have hk' : k < r.length := by simpa [doneL_len] using hk
  have hex : ∃ j, j < i ∧ Leads r i j := by
    refine Classical.byContradiction fun hn => ?_
    have : least r i = true := (least_iff h hi).2 fun k hk => Nat.le_of_not_lt fun hlt => hn ⟨k, hlt, hk⟩
    rw [hl] at this; cases this
  obtain ⟨j0, hj0, hl0⟩ := hex
  rw [doneL_iff h (by omega) hk', doneL_iff h (by omega) hk']
  constructor
  · rintro (⟨j, hj, hl⟩ | ⟨x, hx, e⟩)
    · exact .inl ⟨j, by omega, hl⟩
    · omega
  · rintro (⟨j, hj, hl2⟩ | ⟨x, hx, e⟩)
    · by_cases hji : j = i
      · subst hji
        exact .inl ⟨j0, hj0, (hl0.symm h hi).trans hl2⟩
      · exact .inl ⟨j, by omega, hl2⟩
    · omega
theorem orb_eq (r : List Int) (b : Nat) : orb r b = orbTo r b (per r b) := rfl
theorem orb_len (r : List Int) (b : Nat) : (orb r b).length = per r b := by simp [orb]
theorem cyc_least {r : List Int} (h : IsRow r) {i m : Nat} (hi : i < r.length) (hml : m = 0 ∨ least r i = true) (h0 : (doneL r i m).getD (itr r i m) 0 = 0) : least r i = true := by
  rcases hml with rfl | hl
  · exact (done_start h hi).1 h0
  · exact hl
theorem cyc_some {r : List Int} (h : IsRow r) {i m : Nat} (hi : i < r.length) (hm : m ≤ per r i) (hml : m = 0 ∨ least r i = true) (h0 : ¬ (doneL r i m).getD (itr r i m) 0 = 0) (hp : 0 < m) : least r i = true ∧ m = per r i := by
  have hl := hml.resolve_left (by omega)
  refine ⟨hl, ?_⟩
  have : ¬ m < per r i := fun hlt => h0 ((done_mid h hi hl hm).2 hlt)
  omega
theorem cyc_none {r : List Int} (h : IsRow r) {i m : Nat} (hi : i < r.length) (_hm : m ≤ per r i) (h0 : ¬ (doneL r i m).getD (itr r i m) 0 = 0) (hp : m = 0) : least r i = false ∧ m = 0 := by
  subst hp
  refine ⟨?_, rfl⟩
  cases hl : least r i with
  | false => rfl
  | true => exact absurd ((done_start h hi).2 hl) h0
end Go.KL
