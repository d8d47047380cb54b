/- The cycles of a row. Plain mathematics. -/
import Derived.Test.YtbilebfnanlgfaaKlSpec
namespace Go.KL

def nxt (r : List Int) (k : Nat) : Nat := (r.getD k 0).toNat
def itr (r : List Int) (b : Nat) : Nat → Nat
  | 0 => b
  | m + 1 => nxt r (itr r b m)

theorem nxt_lt {r : List Int} (h : IsRow r) {k : Nat} (hk : k < r.length) : nxt r k < r.length := by
  have := h.at hk; unfold nxt; omega
theorem nxt_int {r : List Int} (h : IsRow r) {k : Nat} (hk : k < r.length) : ((nxt r k : Nat) : Int) = r.getD k 0 := by
  have := h.at hk; unfold nxt; omega
theorem nxt_inj {r : List Int} (h : IsRow r) {j k : Nat} (hj : j < r.length) (hk : k < r.length) (e : nxt r j = nxt r k) : j = k := by
  have e' : r.getD j 0 = r.getD k 0 := by rw [← nxt_int h hj, ← nxt_int h hk, e]
  rw [← idxOf_at h.nodup hj, ← idxOf_at h.nodup hk, e']
theorem itr_lt {r : List Int} (h : IsRow r) {b : Nat} (hb : b < r.length) : ∀ m, itr r b m < r.length
  | 0 => hb
  | m + 1 => nxt_lt h (itr_lt h hb m)
theorem itr_add (r : List Int) (b m : Nat) : ∀ n, itr r b (m + n) = itr r (itr r b m) n
  | 0 => rfl
  | n + 1 => by rw [Nat.add_succ]; simp only [itr]; rw [itr_add r b m n]
theorem itr_cancel {r : List Int} (h : IsRow r) {b : Nat} (hb : b < r.length) : ∀ (i d : Nat), itr r b i = itr r b (i + d) → b = itr r b d
  | 0, d, e => by simpa [itr] using e
  | i + 1, d, e => by
    refine itr_cancel h hb i d ?_
    rw [show i + 1 + d = (i + d) + 1 by omega] at e
    exact nxt_inj h (itr_lt h hb i) (itr_lt h hb (i + d)) e

theorem collide {n : Nat} (f : Nat → Nat) (hf : ∀ i, f i < n) : ∃ i j, i < j ∧ j ≤ n ∧ f i = f j := by
  refine Classical.byContradiction fun hn => ?_
  have hl := nodup_len n ((List.range (n + 1)).map fun (i : Nat) => ((f i : Nat) : Int)) ?_ ?_
  · simp at hl; omega
  · refine List.Pairwise.map _ (R := fun a b => a < b ∧ b ≤ n) (fun a b hab e => hn ⟨a, b, hab.1, hab.2, by omega⟩) ?_
    rw [List.pairwise_iff_getElem]
    intro i j hi hj hij
    simp at hi hj ⊢
    omega
  · intro x hx
    simp only [List.mem_map, List.mem_range] at hx
    obtain ⟨i, _, rfl⟩ := hx
    have := hf i; omega

theorem back_exists {r : List Int} (h : IsRow r) {b : Nat} (hb : b < r.length) : ∃ m, m < r.length ∧ itr r b (m + 1) = b := by
  obtain ⟨i, j, hij, hj, e⟩ := collide (itr r b) (itr_lt h hb)
  refine ⟨j - i - 1, by omega, ?_⟩
  have := itr_cancel h hb i (j - i) (by rw [show i + (j - i) = j by omega]; exact e)
  rw [show j - i - 1 + 1 = j - i by omega]; exact this.symm

def per (r : List Int) (b : Nat) : Nat := (List.range r.length).findIdx (fun m => itr r b (m + 1) == b) + 1
theorem per_spec {r : List Int} (h : IsRow r) {b : Nat} (hb : b < r.length) : 1 ≤ per r b ∧ per r b ≤ r.length ∧ itr r b (per r b) = b ∧ ∀ m, 0 < m → m < per r b → itr r b m ≠ b := by
  obtain ⟨m, hm, e⟩ := back_exists h hb
  have hx : (List.range r.length).findIdx (fun m => itr r b (m + 1) == b) < (List.range r.length).length := List.findIdx_lt_length_of_exists ⟨m, List.mem_range.2 hm, by simp [e]⟩
  have hx' : (List.range r.length).findIdx (fun m => itr r b (m + 1) == b) < r.length := by simpa using hx
  refine ⟨by unfold per; omega, by unfold per; omega, ?_, fun m h0 hm => ?_⟩
  · have := List.findIdx_getElem (w := hx)
    simp only [List.getElem_range, beq_iff_eq] at this
    exact this
  · have := List.not_of_lt_findIdx (p := fun m => itr r b (m + 1) == b) (xs := List.range r.length) (i := m - 1) (by unfold per at hm; omega)
    simp only [List.getElem_range, beq_eq_false_iff_ne] at this
    rwa [show m - 1 + 1 = m by omega] at this

def orb (r : List Int) (b : Nat) : List Int := (List.range (per r b)).map fun (m : Nat) => ((itr r b m : Nat) : Int)
theorem itr_inj {r : List Int} (h : IsRow r) {b : Nat} (hb : b < r.length) {i j : Nat} (hij : i < j) (hj : j < per r b) : itr r b i ≠ itr r b j := by
  intro e
  have := itr_cancel h hb i (j - i) (by rw [show i + (j - i) = j by omega]; exact e)
  exact (per_spec h hb).2.2.2 (j - i) (by omega) (by omega) this.symm

def least (r : List Int) (b : Nat) : Bool := (List.range (per r b)).all fun m => decide (b ≤ itr r b m)
def cyclesTo (r : List Int) (k : Nat) : List (List Int) := ((List.range k).filter (least r)).map (orb r)
def cyclesL (r : List Int) : List (List Int) := cyclesTo r r.length
theorem cyclesTo_yes (r : List Int) (k : Nat) (h : least r k = true) : cyclesTo r (k + 1) = cyclesTo r k ++ [orb r k] := by simp [cyclesTo, List.range_succ, h]
theorem cyclesTo_no (r : List Int) (k : Nat) (h : least r k = false) : cyclesTo r (k + 1) = cyclesTo r k := by simp [cyclesTo, List.range_succ, h]

def Leads (r : List Int) (b k : Nat) : Prop := ∃ m, itr r b m = k
theorem Leads.small {r : List Int} (h : IsRow r) {b k : Nat} (hb : b < r.length) (hl : Leads r b k) : ∃ m, m < per r b ∧ itr r b m = k := by
  obtain ⟨m, e⟩ := hl
  induction m using Nat.strongRecOn generalizing k with
  | _ m ih =>
  by_cases hm : m < per r b
  · exact ⟨m, hm, e⟩
  · have hp := per_spec h hb
    refine ih (m - per r b) (by omega) ?_
    have := itr_add r b (per r b) (m - per r b)
    rw [hp.2.2.1, show per r b + (m - per r b) = m by omega] at this
    rw [← this]; exact e
theorem Leads.symm {r : List Int} (h : IsRow r) {b k : Nat} (hb : b < r.length) (hl : Leads r b k) : Leads r k b := by
  obtain ⟨m, hm, e⟩ := hl.small h hb
  have hp := per_spec h hb
  refine ⟨per r b - m, ?_⟩
  have := itr_add r b m (per r b - m)
  rw [show m + (per r b - m) = per r b by omega, hp.2.2.1, e] at this
  exact this.symm
theorem Leads.trans {r : List Int} {a b c : Nat} (h : Leads r a b) (k : Leads r b c) : Leads r a c := by
  obtain ⟨m, rfl⟩ := h
  obtain ⟨n, rfl⟩ := k
  exact ⟨m + n, itr_add r a m n⟩
theorem Leads.lt {r : List Int} (h : IsRow r) {b k : Nat} (hb : b < r.length) (hl : Leads r b k) : k < r.length := by
  obtain ⟨m, rfl⟩ := hl; exact itr_lt h hb m
theorem least_iff {r : List Int} (h : IsRow r) {b : Nat} (hb : b < r.length) : least r b = true ↔ ∀ k, Leads r b k → b ≤ k := by
  unfold least
  rw [List.all_eq_true]
  constructor
  · intro hh k hk
    obtain ⟨m, hm, rfl⟩ := hk.small h hb
    exact of_decide_eq_true (hh m (List.mem_range.2 hm))
  · intro hh m _
    exact decide_eq_true (hh _ ⟨m, rfl⟩)

theorem orb_len (r : List Int) (b : Nat) : (orb r b).length = per r b := by simp [orb]
end Go.KL
