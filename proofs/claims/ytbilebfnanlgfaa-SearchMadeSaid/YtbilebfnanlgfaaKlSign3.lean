/- Plain maths: the largest bell is taken out; the sign by cycles is that by inversions. -/
import Derived.Test.YtbilebfnanlgfaaKlSign2
namespace Go.KL

def cutR (r : List Int) (n p : Nat) : List Int := (r.take n).set p (r.getD n 0)
structure Cut (r : List Int) (n p : Nat) : Prop where
  row : IsRow r
  len : r.length = n + 1
  pos : 1 ≤ n
  at' : r.getD p 0 = n
  le : p ≤ n
theorem Cut.len' {r : List Int} {n p : Nat} (h : Cut r n p) : (cutR r n p).length = n := by
  have := h.len
  simp [cutR]; omega
theorem Cut.get {r : List Int} {n p : Nat} (h : Cut r n p) {k : Nat} (hk : k < n) : (cutR r n p).getD k 0 = if k = p then r.getD n 0 else r.getD k 0 := by
  have hl := h.len
  unfold cutR
  rw [List.getD_eq_getElem?_getD, List.getElem?_set]
  by_cases e : p = k
  · subst e
    rw [if_pos rfl, if_pos rfl, if_pos (by simp; omega)]; rfl
  · rw [if_neg e, if_neg (fun q => e q.symm), List.getElem?_take, if_pos hk, ← List.getD_eq_getElem?_getD]
theorem Cut.only {r : List Int} {n p : Nat} (h : Cut r n p) {k : Nat} (hk : k ≤ n) : r.getD k 0 = n ↔ k = p := by
  have hl := h.len
  constructor
  · intro e
    have h1 := idxOf_at h.row.nodup (k := k) (by omega)
    have h2 := idxOf_at h.row.nodup (k := p) (by have := h.le; omega)
    rw [e] at h1; rw [h.at'] at h2; omega
  · rintro rfl; exact h.at'
theorem Cut.nxt {r : List Int} {n p : Nat} (h : Cut r n p) {k : Nat} (hk : k < n) : nxt (cutR r n p) k = if nxt r k = n then nxt r n else nxt r k := by
  have hl := h.len
  have hb := h.row.at (i := k) (by omega)
  have ho := h.only (k := k) (by omega)
  unfold Go.KL.nxt
  rw [h.get hk]
  by_cases e : k = p
  · have := ho.2 e
    rw [if_pos e, if_pos (by omega)]
  · have : r.getD k 0 ≠ n := fun q => e (ho.1 q)
    rw [if_neg e, if_neg (by omega)]
theorem Cut.row' {r : List Int} {n p : Nat} (h : Cut r n p) : IsRow (cutR r n p) := by
  have hl := h.len
  have hl' := h.len'
  have hle := h.row.le
  have hpos := h.pos
  have hbd : ∀ k, k < n → 0 ≤ (cutR r n p).getD k 0 ∧ (cutR r n p).getD k 0 < n := by
    intro k hk
    rw [h.get hk]
    have hb := h.row.at (i := k) (by omega)
    have hbn := h.row.at (i := n) (by omega)
    have ho := h.only (k := k) (by omega)
    have hon := h.only (k := n) (Nat.le_refl _)
    split
    · rename_i e
      have : ¬ r.getD n 0 = n := fun q => by have := hon.1 q; omega
      omega
    · rename_i e
      have : ¬ r.getD k 0 = n := fun q => e (ho.1 q)
      omega
  apply rowMay_ok.1
  refine rowMay_of (by omega) (by omega) ?_ ?_
  · rw [List.nodup_iff_pairwise_ne, List.pairwise_iff_getElem]
    intro i j hi hj hij
    rw [gd _ i hi, gd _ j hj, h.get (by omega), h.get (by omega)]
    have inj : ∀ a b, a < n + 1 → b < n + 1 → r.getD a 0 = r.getD b 0 → a = b := fun a b ha hb e => by
      have h1 := idxOf_at h.row.nodup (k := a) (by omega)
      have h2 := idxOf_at h.row.nodup (k := b) (by omega)
      rw [e] at h1; omega
    intro e
    split at e <;> split at e
    · omega
    · have := inj _ _ (by omega) (by omega) e; omega
    · have := inj _ _ (by omega) (by omega) e; omega
    · have := inj _ _ (by omega) (by omega) e; omega
  · intro x hx
    obtain ⟨k, hk, e⟩ := List.getElem_of_mem hx
    rw [gd _ k hk] at e
    have := hbd k (by omega)
    omega
theorem itr_one (r : List Int) (b : Nat) : itr r b 1 = nxt r b := rfl
theorem itr_step (r : List Int) (b m : Nat) : itr r b (m + 1) = nxt r (itr r b m) := rfl
theorem Cut.leads {r : List Int} {n p : Nat} (h : Cut r n p) {b : Nat} (hb : b < n) : ∀ m, Leads r b (itr (cutR r n p) b m)
  | 0 => ⟨0, rfl⟩
  | m + 1 => by
    have hi := itr_lt h.row' (b := b) (by rw [h.len']; exact hb) m
    rw [h.len'] at hi
    have ih := h.leads hb m
    rw [itr_step, h.nxt hi]
    split
    · rename_i e
      refine Leads.trans ih ⟨2, ?_⟩
      rw [itr_step, itr_one, e]
    · exact Leads.trans ih ⟨1, rfl⟩
theorem Cut.back {r : List Int} {n p : Nat} (h : Cut r n p) {b : Nat} (hb : b < n) : ∀ m, (itr r b m < n → Leads (cutR r n p) b (itr r b m)) ∧ (itr r b m = n → Go.KL.nxt r n < n → Leads (cutR r n p) b (Go.KL.nxt r n))
  | 0 => ⟨fun _ => ⟨0, rfl⟩, fun e => by have : itr r b 0 = b := rfl; omega⟩
  | m + 1 => by
    obtain ⟨i1, i2⟩ := h.back hb m
    have hl := h.len
    have hlt := itr_lt h.row (b := b) (by omega) m
    rw [itr_step]
    by_cases e : itr r b m = n
    · rw [e]
      refine ⟨fun hn => i2 e hn, fun e2 hn => by omega⟩
    · have hm : itr r b m < n := by omega
      have hx := h.nxt hm
      refine ⟨fun hn => ?_, fun e2 hn => ?_⟩
      · rw [if_neg (by omega)] at hx
        exact Leads.trans (i1 hm) ⟨1, hx⟩
      · rw [if_pos e2] at hx
        exact Leads.trans (i1 hm) ⟨1, hx⟩
theorem Cut.least {r : List Int} {n p : Nat} (h : Cut r n p) {b : Nat} (hb : b < n) : least (cutR r n p) b = Go.KL.least r b := by
  have hl := h.len
  have hl' := h.len'
  rw [Bool.eq_iff_iff, least_iff h.row' (by omega), least_iff h.row (by omega)]
  constructor
  · rintro hc k ⟨m, rfl⟩
    by_cases e : itr r b m < n
    · exact hc _ ((h.back hb m).1 e)
    · omega
  · rintro hc k ⟨m, rfl⟩
    exact hc _ (h.leads hb m)
theorem Cut.top {r : List Int} {n p : Nat} (h : Cut r n p) : Go.KL.least r n = decide (p = n) := by
  have hl := h.len
  have hle := h.le
  rw [Bool.eq_iff_iff, least_iff h.row (by omega), decide_eq_true_iff]
  have hon := h.only (k := n) (Nat.le_refl _)
  have hb := h.row.at (i := n) (by omega)
  constructor
  · intro hc
    have h1 := hc _ ⟨1, rfl⟩
    rw [itr_one] at h1
    unfold Go.KL.nxt at h1
    exact (hon.1 (by omega)).symm
  · rintro rfl k ⟨m, rfl⟩
    have : ∀ m, itr r p m = p := by
      intro m
      induction m with
      | zero => rfl
      | succ m ih => rw [itr_step, ih]; unfold Go.KL.nxt; rw [h.at']; rfl
    rw [this m]; exact Nat.le_refl _
theorem Cut.oddL {r : List Int} {n p : Nat} (h : Cut r n p) : Go.KL.oddL r = (Go.KL.oddL (cutR r n p) != decide (p ≠ n)) := by
  rw [oddL_count h.row, oddL_count h.row', h.len, h.len', List.range_succ, List.countP_append, List.countP_cons, List.countP_nil, h.top]
  have e : (List.range n).countP (Go.KL.least (cutR r n p)) = (List.range n).countP (Go.KL.least r) := by
    apply List.countP_congr
    intro b hb
    rw [h.least (List.mem_range.1 hb)]
  rw [e]
  generalize (List.range n).countP (Go.KL.least r) = c
  by_cases e : p = n
  · have e1 : (n + 1 + (c + (0 + if decide (p = n) = true then 1 else 0))) = (n + c) + 2 := by rw [decide_eq_true e, if_pos rfl]; omega
    rw [e1, Nat.add_mod_right, decide_eq_false (Classical.not_not.2 e)]
    simp
  · have e1 : (n + 1 + (c + (0 + if decide (p = n) = true then 1 else 0))) = (n + c) + 1 := by rw [decide_eq_false e, if_neg (by simp)]; omega
    rw [e1, decide_eq_true e, par_add]
    simp
end Go.KL
