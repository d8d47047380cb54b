/- Plain maths: the largest bell is taken out; the sign by cycles is that by inversions. -/
import Derived.Test.YtlhnpkaohfoicaaKlSign2
namespace Go.KL

/-- The largest bell taken out of a row of n + 1. -/
def cutR (r : List Int) (n p : Nat) : List Int := (r.take n).set p (r.getD n 0)
structure Cut (r : List Int) (n p : Nat) : Prop where
  row : IsRow r
  len : r.length = n + 1
  pos : 1 ≤ n
  at' : r.getD p 0 = n
  le : p ≤ n
theorem cut_exists {r : List Int} {n : Nat} (hr : IsRow r) (hl : r.length = n + 1) (hn : 1 ≤ n) : ∃ p, Cut r n p := by
  have hm := hr.mem (b := n) (by omega)
  obtain ⟨p, hp, e⟩ := List.getElem_of_mem hm
  exact ⟨p, hr, hl, hn, by rw [← gd r p hp]; exact e, by omega⟩
theorem Cut.len' {r : List Int} {n p : Nat} (h : Cut r n p) : (cutR r n p).length = n := by
  have := h.len
  simp [cutR]; omega
theorem Cut.get {r : List Int} {n p : Nat} (h : Cut r n p) {k : Nat} (hk : k < n) : (cutR r n p).getD k 0 = if k = p then r.getD n 0 else r.getD k 0 := by
  have hl := h.len
  unfold cutR
  rw [List.getD_eq_getElem?_getD, List.getElem?_set]
  by_cases e : p = k
  · subst e
    rw [if_pos rfl, if_pos rfl, if_pos (by simp; omega)]; rfl
  · rw [if_neg e, if_neg (fun q => e q.symm), List.getElem?_take, if_pos hk, ← List.getD_eq_getElem?_getD]
theorem Cut.only {r : List Int} {n p : Nat} (h : Cut r n p) {k : Nat} (hk : k ≤ n) : r.getD k 0 = n ↔ k = p := by
  have hl := h.len
  constructor
  · intro e
    have h1 := idxOf_at h.row.nodup (k := k) (by omega)
    have h2 := idxOf_at h.row.nodup (k := p) (by have := h.le; omega)
    rw [e] at h1; rw [h.at'] at h2; omega
  · rintro rfl; exact h.at'
theorem Cut.nxt {r : List Int} {n p : Nat} (h : Cut r n p) {k : Nat} (hk : k < n) : nxt (cutR r n p) k = if nxt r k = n then nxt r n else nxt r k := by
  have hl := h.len
  have hb := h.row.at (i := k) (by omega)
  have ho := h.only (k := k) (by omega)
  unfold Go.KL.nxt
  rw [h.get hk]
  by_cases e : k = p
  · have := ho.2 e
    rw [if_pos e, if_pos (by omega)]
  · have : r.getD k 0 ≠ n := fun q => e (ho.1 q)
    rw [if_neg e, if_neg (by omega)]
theorem Cut.row' {r : List Int} {n p : Nat} (h : Cut r n p) : IsRow (cutR r n p) := by
  have hl := h.len
  have hl' := h.len'
  have hle := h.row.le
  have hpos := h.pos
  have hbd : ∀ k, k < n → 0 ≤ (cutR r n p).getD k 0 ∧ (cutR r n p).getD k 0 < n := by
    intro k hk
    rw [h.get hk]
    have hb := h.row.at (i := k) (by omega)
    have hbn := h.row.at (i := n) (by omega)
    have ho := h.only (k := k) (by omega)
    have hon := h.only (k := n) (Nat.le_refl _)
    split
    · rename_i e
      have : ¬ r.getD n 0 = n := fun q => by have := hon.1 q; omega
      omega
    · rename_i e
      have : ¬ r.getD k 0 = n := fun q => e (ho.1 q)
      omega
  apply rowMay_ok.1
  refine rowMay_of (by omega) (by omega) ?_ ?_
  · rw [List.nodup_iff_pairwise_ne, List.pairwise_iff_getElem]
    intro i j hi hj hij
    rw [gd _ i hi, gd _ j hj, h.get (by omega), h.get (by omega)]
    have inj : ∀ a b, a < n + 1 → b < n + 1 → r.getD a 0 = r.getD b 0 → a = b := fun a b ha hb e => by
      have h1 := idxOf_at h.row.nodup (k := a) (by omega)
      have h2 := idxOf_at h.row.nodup (k := b) (by omega)
      rw [e] at h1; omega
    intro e
    split at e <;> split at e
    · omega
    · have := inj _ _ (by omega) (by omega) e; omega
    · have := inj _ _ (by omega) (by omega) e; omega
    · have := inj _ _ (by omega) (by omega) e; omega
  · intro x hx
    obtain ⟨k, hk, e⟩ := List.getElem_of_mem hx
    rw [gd _ k hk] at e
    have := hbd k (by omega)
    omega
theorem itr_one (r : List Int) (b : Nat) : itr r b 1 = nxt r b := rfl
theorem itr_step (r : List Int) (b m : Nat) : itr r b (m + 1) = nxt r (itr r b m) := rfl
theorem Cut.leads {r : List Int} {n p : Nat} (h : Cut r n p) {b : Nat} (hb : b < n) : ∀ m, Leads r b (itr (cutR r n p) b m)
  | 0 => ⟨0, rfl⟩
  | m + 1 => by
    have hi := itr_lt h.row' (b := b) (by rw [h.len']; exact hb) m
    rw [h.len'] at hi
    have ih := h.leads hb m
    rw [itr_step, h.nxt hi]
    split
    · rename_i e
      refine Leads.trans ih ⟨2, ?_⟩
      rw [itr_step, itr_one, e]
    · exact Leads.trans ih ⟨1, rfl⟩
theorem Cut.back {r : List Int} {n p : Nat} (h : Cut r n p) {b : Nat} (hb : b < n) : ∀ m, (itr r b m < n → Leads (cutR r n p) b (itr r b m)) ∧ (itr r b m = n → Go.KL.nxt r n < n → Leads (cutR r n p) b (Go.KL.nxt r n))
  | 0 => ⟨fun _ => ⟨0, rfl⟩, fun e => by have : itr r b 0 = b := rfl; omega⟩
  | m + 1 => by
    obtain ⟨i1, i2⟩ := h.back hb m
    have hl := h.len
    have hlt := itr_lt h.row (b := b) (by omega) m
    rw [itr_step]
    by_cases e : itr r b m = n
    · rw [e]
      refine ⟨fun hn => i2 e hn, fun e2 hn => by omega⟩
    · have hm : itr r b m < n := by omega
      have hx := h.nxt hm
      refine ⟨fun hn => ?_, fun e2 hn => ?_⟩
      · rw [if_neg (by omega)] at hx
        exact Leads.trans (i1 hm) ⟨1, hx⟩
      · rw [if_pos e2] at hx
        exact Leads.trans (i1 hm) ⟨1, hx⟩
theorem Cut.least {r : List Int} {n p : Nat} (h : Cut r n p) {b : Nat} (hb : b < n) : least (cutR r n p) b = Go.KL.least r b := by
  have hl := h.len
  have hl' := h.len'
  rw [Bool.eq_iff_iff, least_iff h.row' (by omega), least_iff h.row (by omega)]
  constructor
  · rintro hc k ⟨m, rfl⟩
    by_cases e : itr r b m < n
    · exact hc _ ((h.back hb m).1 e)
    · omega
  · rintro hc k ⟨m, rfl⟩
    exact hc _ (h.leads hb m)
theorem Cut.top {r : List Int} {n p : Nat} (h : Cut r n p) : Go.KL.least r n = decide (p = n) := by
  have hl := h.len
  have hle := h.le
  rw [Bool.eq_iff_iff, least_iff h.row (by omega), decide_eq_true_iff]
  have hon := h.only (k := n) (Nat.le_refl _)
  have hb := h.row.at (i := n) (by omega)
  constructor
  · intro hc
    have h1 := hc _ ⟨1, rfl⟩
    rw [itr_one] at h1
    unfold Go.KL.nxt at h1
    exact (hon.1 (by omega)).symm
  · rintro rfl k ⟨m, rfl⟩
    have : ∀ m, itr r p m = p := by
      intro m
      induction m with
      | zero => rfl
      | succ m ih => rw [itr_step, ih]; unfold Go.KL.nxt; rw [h.at']; rfl
    rw [this m]; exact Nat.le_refl _
theorem Cut.oddL {r : List Int} {n p : Nat} (h : Cut r n p) : Go.KL.oddL r = (Go.KL.oddL (cutR r n p) != decide (p ≠ n)) := by
  rw [oddL_count h.row, oddL_count h.row', h.len, h.len', List.range_succ, List.countP_append, List.countP_cons, List.countP_nil, h.top]
  have e : (List.range n).countP (Go.KL.least (cutR r n p)) = (List.range n).countP (Go.KL.least r) := by
    apply List.countP_congr
    intro b hb
    rw [h.least (List.mem_range.1 hb)]
  rw [e]
  generalize (List.range n).countP (Go.KL.least r) = c
  by_cases e : p = n
  · have e1 : (n + 1 + (c + (0 + if decide (p = n) = true then 1 else 0))) = (n + c) + 2 := by rw [decide_eq_true e, if_pos rfl]; omega
    rw [e1, Nat.add_mod_right, decide_eq_false (Classical.not_not.2 e)]
    simp
  · have e1 : (n + 1 + (c + (0 + if decide (p = n) = true then 1 else 0))) = (n + c) + 1 := by rw [decide_eq_false e, if_neg (by simp)]; omega
    rw [e1, decide_eq_true e, par_add]
    simp
/-- THE SIGN BY CYCLES IS THAT BY INVERSIONS. -/
theorem Cut.invB {r : List Int} {n p : Nat} (h : Cut r n p) : Go.KL.invB r = (Go.KL.invB (cutR r n p) != decide (p ≠ n)) := by
  have hl := h.len
  have hl' := h.len'
  have hnd := h.row.nodup
  have hsplit : r = r.take n ++ [r.getD n 0] := by
    rw [← take_snoc r 0 n (by omega), List.take_of_length_le (by omega)]
  by_cases e : p = n
  · have h1 : cutR r n p = r.take n := by
      unfold cutR; rw [List.set_eq_of_length_le (by simp; omega)]
    have h2 : r.getD n 0 = (n : Int) := by have := h.at'; rwa [e] at this
    have h3 : Go.KL.invB r = Go.KL.invB (r.take n) := by
      conv => lhs; rw [hsplit, h2]
      refine invB_max _ _ fun x hx => ?_
      obtain ⟨k, hk, rfl⟩ := List.getElem_of_mem hx
      simp only [List.length_take] at hk
      rw [List.getElem_take, gd r k (by omega)]
      have hb := h.row.at (i := k) (by omega)
      have ho := h.only (k := k) (by omega)
      have : ¬ r.getD k 0 = n := fun q => by have := ho.1 q; omega
      omega
    rw [h1, h3, decide_eq_false (Classical.not_not.2 e)]; simp
  · have hp : p < n := by have := h.le; omega
    have h1 := List.take_append_drop p (r.take n)
    have h2 : (r.take n).drop p = (n : Int) :: (r.take n).drop (p + 1) := by
      rw [List.drop_eq_getElem_cons (by simp; omega)]
      congr 1
      rw [List.getElem_take, gd r p (by omega), h.at']
    rw [h2] at h1
    have hAl : ((r.take n).take p).length = p := by simp; omega
    have hcut : cutR r n p = (r.take n).take p ++ r.getD n 0 :: (r.take n).drop (p + 1) := by
      unfold cutR
      conv => lhs; rw [← h1]
      rw [List.set_append_right _ _ (by omega), hAl, Nat.sub_self]; rfl
    have hr : r = (r.take n).take p ++ (n : Int) :: ((r.take n).drop (p + 1) ++ [r.getD n 0]) := by
      conv => lhs; rw [hsplit, ← h1]
      simp
    revert hcut hr
    generalize (r.take n).take p = A
    generalize (r.take n).drop (p + 1) = B
    generalize r.getD n 0 = v
    intro hcut hr
    rw [hr] at hnd
    have hnd2 := (List.nodup_append.1 hnd).2.1
    have hn1 := List.nodup_cons.1 hnd2
    have hnB : (n : Int) ∉ B := fun hm => hn1.1 (List.mem_append_left _ hm)
    have hnv : (n : Int) ≠ v := fun hm => hn1.1 (by rw [hm]; simp)
    have hvB : v ∉ B := fun hm => (List.nodup_append.1 hn1.2).2.2 v hm v (by simp) rfl
    have hmax := invB_max (A ++ v :: B) (n : Int) (fun x hx => by
      rw [← hcut] at hx
      have := h.row'.bound x hx
      omega)
    have hsw := invB_swap A B [] (n : Int) v hnB hvB hnv
    rw [hcut, decide_eq_true e]
    conv => lhs; rw [hr]
    rw [hsw]
    have e3 : A ++ v :: (B ++ [(n : Int)]) = (A ++ v :: B) ++ [(n : Int)] := by simp
    rw [e3, hmax]; simp
theorem sign_eq : ∀ (n : Nat) (r : List Int), IsRow r → r.length = n + 1 → oddL r = invB r
  | 0, r, hr, hl => by
    obtain ⟨x, rfl⟩ : ∃ x, r = [x] := by
      cases r with
      | nil => simp at hl
      | cons x l => simp at hl; exact ⟨x, by rw [hl]⟩
    have hb := hr.at (i := 0) (by simp)
    simp only [List.length_cons, List.length_nil] at hb
    have hx : x = 0 := by
      have h1 : ([x] : List Int).getD 0 0 = x := rfl
      rw [h1] at hb; omega
    subst hx
    rw [oddL_count hr]
    decide
  | n + 1, r, hr, hl => by
    obtain ⟨p, hc⟩ := cut_exists hr hl (by omega)
    rw [hc.oddL, hc.invB, sign_eq n _ hc.row' hc.len']
theorem oddL_inv {r : List Int} (hr : IsRow r) : oddL r = invB r := sign_eq (r.length - 1) r hr (by have := hr.pos; omega)
theorem oddL_by {a b : List Int} (ha : IsRow a) (hb : IsRow b) (hl : a.length = b.length) : oddL (byL a b) = (oddL a != oddL b) := by
  rw [oddL_inv ha, oddL_inv hb, oddL_inv (byL_row ha hb hl), invB_by ha hb hl]
end Go.KL
