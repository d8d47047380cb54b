/- How many rows are like a pattern: as many as there are ways to place the other bells. -/
import Derived.Test.YtlhnpkaohfoicaaKlCells
import Derived.Test.YtlhnpkaohfoicaaKlArr
namespace Go.KL
def mat : List Int → List Int → Bool
  | [], [] => true
  | x :: c, y :: r => (decide (x < 0) || decide (y = x)) && mat c r
  | _, _ => false
def sumN (f : Nat → Nat) : Nat → Nat
  | 0 => 0
  | a + 1 => sumN f a + f a
theorem count_mul (p : Nat → Bool) (b : Nat) : ∀ a : Nat, (List.range (a * b)).countP p = sumN (fun q => (List.range b).countP fun k => p (q * b + k)) a
  | 0 => by simp [sumN]
  | a + 1 => by
    rw [Nat.succ_mul, List.range_add, List.countP_append, count_mul p b a, List.countP_map]
    rfl
def freeL (c : List Int) : Nat := c.countP fun x => decide (x < 0)
def nWays (m : Nat) (left c : List Int) : Nat := (List.range (fct m)).countP fun k => mat c (atF m left k)
theorem nWays_succ (m : Nat) (left : List Int) (x : Int) (c : List Int) : nWays (m + 1) left (x :: c) = sumN (fun q => if x < 0 ∨ left.getD q 0 = x then nWays m (left.eraseIdx q) c else 0) (m + 1) := by
  unfold nWays
  rw [show fct (m + 1) = (m + 1) * fct m from rfl, count_mul]
  congr 1
  funext q
  have hp := fct_pos m
  have key : ∀ k, k ∈ List.range (fct m) → mat (x :: c) (atF (m + 1) left (q * fct m + k)) = ((decide (x < 0) || decide (left.getD q 0 = x)) && mat c (atF m (left.eraseIdx q) k)) := fun k hk => by
    have hk := List.mem_range.1 hk
    have e1 : (q * fct m + k) / fct m = q := by rw [Nat.mul_comm, Nat.mul_add_div hp, Nat.div_eq_of_lt hk, Nat.add_zero]
    have e2 : (q * fct m + k) % fct m = k := by rw [Nat.mul_comm, Nat.mul_add_mod, Nat.mod_eq_of_lt hk]
    rw [atF, e1, e2, mat]
  rw [List.countP_congr (q := fun k => (decide (x < 0) || decide (left.getD q 0 = x)) && mat c (atF m (left.eraseIdx q) k)) (fun k hk => by rw [key k hk])]
  by_cases h : x < 0 ∨ left.getD q 0 = x
  · rw [if_pos h]
    have : (decide (x < 0) || decide (left.getD q 0 = x)) = true := by simpa using h
    simp only [this, Bool.true_and]
  · rw [if_neg h]
    have : (decide (x < 0) || decide (left.getD q 0 = x)) = false := by simpa using h
    simp only [this, Bool.false_and]
    simp
theorem sumN_zero {f : Nat → Nat} : ∀ {a : Nat}, (∀ q, q < a → f q = 0) → sumN f a = 0
  | 0, _ => rfl
  | a + 1, h => by rw [sumN, sumN_zero (fun q hq => h q (by omega)), h a (by omega)]
theorem sumN_one {f : Nat → Nat} {q0 : Nat} : ∀ {a : Nat}, q0 < a → (∀ q, q < a → q ≠ q0 → f q = 0) → sumN f a = f q0
  | 0, h, _ => by omega
  | a + 1, h, hz => by
    rw [sumN]
    by_cases e : q0 = a
    · rw [← e, sumN_zero (fun q hq => hz q (by omega) (by omega)), Nat.zero_add]
    · rw [sumN_one (a := a) (by omega) (fun q hq hn => hz q (by omega) hn), hz a (by omega) (fun e' => e e'.symm), Nat.add_zero]
theorem sumN_if {p : Nat → Bool} {w : Nat} : ∀ a : Nat, sumN (fun q => if p q = true then w else 0) a = (List.range a).countP p * w
  | 0 => by simp [sumN]
  | a + 1 => by
    rw [sumN, sumN_if a, List.range_succ, List.countP_append, List.countP_singleton, Nat.add_mul]
    by_cases h : p a = true
    · simp [h]
    · simp [h]
theorem sumN_congr {f g : Nat → Nat} : ∀ {a : Nat}, (∀ q, q < a → f q = g q) → sumN f a = sumN g a
  | 0, _ => rfl
  | a + 1, h => by rw [sumN, sumN, sumN_congr (fun q hq => h q (by omega)), h a (by omega)]
/-- The bells of a pattern among a row's. -/
theorem bells_count {left c : List Int} (hl : left.Nodup) (h0 : ∀ x ∈ left, 0 ≤ x) (hc : (c.filter fun x => decide (0 ≤ x)).Nodup) (hs : ∀ x ∈ c, 0 ≤ x → x ∈ left) : left.countP (fun x => decide (x ∈ c)) = c.countP fun x => decide (0 ≤ x) := by
  rw [List.countP_eq_length_filter, List.countP_eq_length_filter]
  refine List.Perm.length_eq ((List.perm_ext_iff_of_nodup (hl.sublist List.filter_sublist) hc).2 fun x => ?_)
  simp only [List.mem_filter, decide_eq_true_eq]
  exact ⟨fun h => ⟨h.2, h0 x h.1⟩, fun h => ⟨hs x h.1 h.2, h.1⟩⟩
theorem erase_facts {left : List Int} {q : Nat} (hq : q < left.length) (hl : left.Nodup) : (left.eraseIdx q).Nodup ∧ (left.eraseIdx q).length + 1 = left.length ∧ ∀ x, x ∈ left.eraseIdx q ↔ x ∈ left ∧ x ≠ left.getD q 0 := by
  have hp := eraseIdx_perm left q hq
  have hn := hp.nodup_iff.1 hl
  rw [List.nodup_cons] at hn
  refine ⟨hn.2, by rw [hp.length_eq, List.length_cons], fun x => ?_⟩
  rw [hp.mem_iff, List.mem_cons]
  constructor
  · intro h; exact ⟨.inr h, fun e => hn.1 (e ▸ h)⟩
  · rintro ⟨h | h, e⟩
    · exact absurd h e
    · exact h
theorem nWays_eq : ∀ (m : Nat) (left c : List Int), left.length = m → c.length = m → left.Nodup → (∀ x ∈ left, 0 ≤ x) → (c.filter fun x => decide (0 ≤ x)).Nodup →
    ((∀ x ∈ c, 0 ≤ x → x ∈ left) → nWays m left c = fct (freeL c)) ∧ (¬ (∀ x ∈ c, 0 ≤ x → x ∈ left) → nWays m left c = 0)
  | 0, left, c, h1, h2, _, _, _ => by
    have e1 := List.eq_nil_of_length_eq_zero h1
    have e2 := List.eq_nil_of_length_eq_zero h2
    subst e1; subst e2
    exact ⟨fun _ => rfl, fun h => absurd (fun x hx => by simp at hx) h⟩
  | m + 1, left, [], _, h2, _, _, _ => by simp at h2
  | m + 1, left, x :: c, h1, h2, hl, h0, hc => by
    have h2' : c.length = m := by simpa using h2
    have hc' : (c.filter fun x => decide (0 ≤ x)).Nodup := by
      rw [List.filter_cons] at hc
      split at hc
      · exact (List.nodup_cons.1 hc).2
      · exact hc
    have ih : ∀ q, q < m + 1 → ((∀ y ∈ c, 0 ≤ y → y ∈ left.eraseIdx q) → nWays m (left.eraseIdx q) c = fct (freeL c)) ∧ (¬ (∀ y ∈ c, 0 ≤ y → y ∈ left.eraseIdx q) → nWays m (left.eraseIdx q) c = 0) := fun q hq => by
      have he := erase_facts (q := q) (by omega) hl
      exact nWays_eq m _ c (by omega) h2' he.1 (fun y hy => h0 y ((he.2.2 y).1 hy).1) hc'
    rw [nWays_succ]
    by_cases hx : 0 ≤ x
    · have hf : freeL (x :: c) = freeL c := by unfold freeL; rw [List.countP_cons_of_neg (by simp; omega)]
      have hxc : x ∉ c := fun hm => by
        rw [List.filter_cons, if_pos (decide_eq_true hx)] at hc
        exact (List.nodup_cons.1 hc).1 (List.mem_filter.2 ⟨hm, decide_eq_true hx⟩)
      by_cases hm : x ∈ left
      · obtain ⟨q0, hq0, e0⟩ := List.getElem_of_mem hm
        have e0' : left.getD q0 0 = x := by simp [hq0, e0]
        rw [sumN_one (q0 := q0) (by omega) (fun q hq hn => by
          rw [if_neg]
          rintro (h | h)
          · omega
          · refine hn ?_
            rw [← idxOf_at hl (show q < left.length by omega), ← idxOf_at hl hq0, h, e0']), if_pos (.inr e0'), hf]
        have he := erase_facts hq0 hl
        have hiff : (∀ y ∈ c, 0 ≤ y → y ∈ left.eraseIdx q0) ↔ ∀ y ∈ x :: c, 0 ≤ y → y ∈ left := by
          constructor
          · intro h y hy hy0
            rcases List.mem_cons.1 hy with rfl | hy
            · exact hm
            · exact ((he.2.2 y).1 (h y hy hy0)).1
          · intro h y hy hy0
            exact (he.2.2 y).2 ⟨h y (List.mem_cons_of_mem _ hy) hy0, fun e => hxc (by rw [e0'] at e; exact e ▸ hy)⟩
        have := ih q0 (by omega)
        rw [hiff] at this
        exact this
      · rw [sumN_zero (fun q hq => by
          rw [if_neg]
          rintro (h | h)
          · omega
          · refine hm ?_
            rw [← h, show left.getD q 0 = left[q]'(by omega) by simp [show q < left.length by omega]]
            exact List.getElem_mem _)]
        exact ⟨fun h => absurd (h x (by simp) hx) hm, fun _ => rfl⟩
    · have hx' : x < 0 := by omega
      have hf : freeL (x :: c) = freeL c + 1 := by unfold freeL; rw [List.countP_cons_of_pos (by simp; omega)]
      have hall : (∀ y ∈ x :: c, 0 ≤ y → y ∈ left) ↔ ∀ y ∈ c, 0 ≤ y → y ∈ left := by
        constructor
        · intro h y hy; exact h y (List.mem_cons_of_mem _ hy)
        · intro h y hy hy0
          rcases List.mem_cons.1 hy with rfl | hy
          · omega
          · exact h y hy hy0
      rw [hall]
      constructor
      · intro hs
        rw [sumN_congr (g := fun q => if decide (left.getD q 0 ∉ c) = true then fct (freeL c) else 0) (fun q hq => by
          rw [if_pos (.inl hx')]
          have he := erase_facts (q := q) (by omega) hl
          by_cases hm : left.getD q 0 ∈ c
          · rw [if_neg (by simpa using hm)]
            refine (ih q hq).2 fun hh => ?_
            have h0q : 0 ≤ left.getD q 0 := h0 _ (mem_getD 0 (by omega))
            exact ((he.2.2 _).1 (hh _ hm h0q)).2 rfl
          · rw [if_pos (by simpa using hm)]
            exact (ih q hq).1 fun y hy hy0 => (he.2.2 y).2 ⟨hs y hy hy0, fun e => hm (e ▸ hy)⟩), sumN_if, hf]
        have hr : (List.range (m + 1)).countP (fun q => decide (left.getD q 0 ∉ c)) = left.countP fun y => decide (y ∉ c) := by
          rw [← h1]
          conv => rhs; rw [show left = (List.range left.length).map (fun q => left.getD q 0) from (List.ext_getElem (by simp) fun i h3 h4 => by simp [h3])]
          rw [List.countP_map]; rfl
        have hb := bells_count hl h0 hc' hs
        have hs1 : left.countP (fun y => decide (y ∈ c)) + left.countP (fun y => decide (y ∉ c)) = left.length := by
          have := List.length_eq_countP_add_countP (fun y => decide (y ∈ c)) (l := left)
          rw [this]; congr 1
          refine List.countP_congr fun y _ => ?_
          simp
        have hs2 : c.countP (fun y => decide (0 ≤ y)) + freeL c = c.length := by
          have := List.length_eq_countP_add_countP (fun y => decide (0 ≤ y)) (l := c)
          rw [this]; unfold freeL; congr 1
          refine List.countP_congr fun y _ => ?_
          simp
        rw [hr, show left.countP (fun y => decide (y ∉ c)) = freeL c + 1 by omega]; rfl
      · intro hs
        refine sumN_zero fun q hq => ?_
        rw [if_pos (.inl hx')]
        have he := erase_facts (q := q) (by omega) hl
        exact (ih q hq).2 fun hh => hs fun y hy hy0 => ((he.2.2 y).1 (hh y hy hy0)).1
/-! ### A pattern as one list -/
theorem mat_iff : ∀ {c r : List Int}, c.length = r.length → (mat c r = true ↔ ∀ i, i < c.length → c.getD i 0 < 0 ∨ r.getD i 0 = c.getD i 0)
  | [], [], _ => by simp [mat]
  | [], _ :: _, h => by simp at h
  | _ :: _, [], h => by simp at h
  | x :: c, y :: r, h => by
    have ih := mat_iff (c := c) (r := r) (by simpa using h)
    rw [mat, Bool.and_eq_true, ih, Bool.or_eq_true, decide_eq_true_eq, decide_eq_true_eq]
    constructor
    · rintro ⟨h1, h2⟩ i hi
      cases i with
      | zero => simpa using h1
      | succ i => simpa using h2 i (by simpa using hi)
    · intro hh
      refine ⟨by simpa using hh 0 (by simp), fun i hi => ?_⟩
      simpa using hh (i + 1) (by simpa using hi)
def padC (f b : List Int) (n : Nat) : List Int := f ++ (List.replicate (n - f.length - b.length) (-1) ++ b)
theorem padC_len {f b : List Int} {n : Nat} (h : f.length + b.length ≤ n) : (padC f b n).length = n := by
  unfold padC; rw [List.length_append, List.length_append, List.length_replicate]; omega
theorem padC_1 {f b : List Int} {n i : Nat} (hi : i < f.length) : (padC f b n).getD i 0 = f.getD i 0 := by
  unfold padC; rw [List.getD_eq_getElem?_getD, List.getD_eq_getElem?_getD, List.getElem?_append_left hi]
theorem padC_2 {f b : List Int} {n i : Nat} (h1 : f.length ≤ i) (h2 : i < n - b.length) : (padC f b n).getD i 0 = -1 := by
  unfold padC
  rw [List.getD_eq_getElem?_getD, List.getElem?_append_right h1, List.getElem?_append_left (by rw [List.length_replicate]; omega), List.getElem?_replicate, if_pos (by omega)]
  rfl
theorem padC_3 {f b : List Int} {n i : Nat} (h : f.length + b.length ≤ n) (hi : i < b.length) : (padC f b n).getD (n - b.length + i) 0 = b.getD i 0 := by
  unfold padC
  rw [List.getD_eq_getElem?_getD, List.getD_eq_getElem?_getD, List.getElem?_append_right (by omega), List.getElem?_append_right (by rw [List.length_replicate]; omega), List.length_replicate]
  congr 2
  omega
theorem like_mat {f b r : List Int} {n : Nat} (h : f.length + b.length ≤ n) (hr : r.length = n) : likeB f b r = mat (padC f b n) r := by
  have hl := padC_len h
  rw [Bool.eq_iff_iff, mat_iff (by omega), hl]
  constructor
  · intro hh i hi
    unfold likeB at hh
    rw [Bool.and_eq_true, List.all_eq_true, List.all_eq_true] at hh
    by_cases h1 : i < f.length
    · rw [padC_1 h1]; exact of_decide_eq_true (hh.1 i (List.mem_range.2 h1))
    · by_cases h2 : i < n - b.length
      · rw [padC_2 (by omega) h2]; exact .inl (by decide)
      · have := of_decide_eq_true (hh.2 (i - (n - b.length)) (List.mem_range.2 (by omega)))
        rw [hr, show n - b.length + (i - (n - b.length)) = i by omega] at this
        have e := padC_3 (f := f) (b := b) (n := n) (i := i - (n - b.length)) h (by omega)
        rw [show n - b.length + (i - (n - b.length)) = i by omega] at e
        rw [e]; exact this
  · intro hh
    refine like_yes (fun i hi => ?_) (fun i hi => ?_)
    · have := hh i (by omega); rw [padC_1 hi] at this; exact this
    · have := hh (n - b.length + i) (by omega); rw [padC_3 h hi] at this; rw [hr]; exact this
/-- The bells of a pattern that may be. -/
theorem pe_bells {n : Int} : ∀ (r xs : List Int), peF n xs r = 0 → (∀ c ∈ r, 0 ≤ signIdx c → signIdx c < n ∧ c ∉ xs) ∧ (r.filter fun c => decide (0 ≤ signIdx c)).Nodup
  | [], _, _ => ⟨fun c hc => by simp at hc, by simp⟩
  | x :: r, xs, h => by
    rw [peF] at h
    by_cases h0 : okStep n xs x = 0
    · rw [if_neg (by simp [h0])] at h
      obtain ⟨a, b⟩ := pe_bells r _ h
      have hx : 0 ≤ signIdx x → signIdx x < n ∧ x ∉ xs := fun hs => by
        unfold okStep at h0
        have h42 := ne_42 hs
        have h63 : x ≠ 63 := fun e => by rw [e, sign_63] at hs; omega
        rw [if_neg (by simp [h42]), if_neg h63] at h0
        split at h0
        · omega
        · split at h0
          · omega
          · rename_i h1 h2; exact ⟨by omega, h2⟩
      refine ⟨fun c hc hs => ?_, ?_⟩
      · rcases List.mem_cons.1 hc with rfl | hc
        · exact hx hs
        · have := a c hc hs
          exact ⟨this.1, fun hm => this.2 (List.mem_append_left _ hm)⟩
      · rw [List.filter_cons]
        split
        · rename_i hs
          rw [List.nodup_cons]
          refine ⟨fun hm => ?_, b⟩
          have hm := List.mem_filter.1 hm
          exact (a x hm.1 (by simpa using hs)).2 (by simp)
        · exact b
    · rw [if_pos h0] at h; exact absurd h h0
theorem frbk_filter {p : Int → Bool} (hp : p 42 = false) : ∀ l : List Int, (frR l ++ bkR l).filter p = l.filter p
  | [] => rfl
  | x :: l => by
    by_cases hx : x = 42
    · rw [frR, bkR, if_pos hx, if_pos hx, List.nil_append, List.filter_cons, hx, hp]; rfl
    · rw [frR, bkR, if_neg hx, if_neg hx, List.cons_append, List.filter_cons, List.filter_cons, frbk_filter hp l]
theorem bellQ_nonneg (c : Int) : 0 ≤ bellQ c ↔ 0 ≤ signIdx c := by
  by_cases h : c = 63
  · rw [h, bellQ_63, sign_63]
  · rw [bellQ_ne h]
theorem bellQ_eq {c : Int} (h : 0 ≤ signIdx c) : bellQ c = signIdx c := bellQ_ne fun e => by rw [e, sign_63] at h; omega
theorem padC_filter (f b : List Int) (n : Nat) : (padC f b n).filter (fun x => decide (0 ≤ x)) = (f ++ b).filter fun x => decide (0 ≤ x) := by
  unfold padC
  rw [List.filter_append, List.filter_append, List.filter_append, List.filter_replicate]
  simp
theorem nodup_map_on {f : Int → Int} : ∀ {l : List Int}, l.Nodup → (∀ x ∈ l, ∀ y ∈ l, f x = f y → x = y) → (l.map f).Nodup
  | [], _, _ => by simp
  | x :: l, h, hi => by
    rw [List.nodup_cons] at h
    rw [List.map_cons, List.nodup_cons]
    refine ⟨fun hm => ?_, nodup_map_on h.2 fun a ha b hb => hi a (List.mem_cons_of_mem _ ha) b (List.mem_cons_of_mem _ hb)⟩
    obtain ⟨y, hy, e⟩ := List.mem_map.1 hm
    have := hi x (by simp) y (List.mem_cons_of_mem _ hy) e.symm
    exact h.1 (this ▸ hy)
/-- The bells of the one list. -/
theorem pad_bells {n : Int} {l : List Int} (hp : peF n [] l = 0) (N : Nat) :
    ((padC (List.map bellQ (frR l)) (List.map bellQ (bkR l)) N).filter fun x => decide (0 ≤ x)).Nodup ∧ ∀ x ∈ padC (List.map bellQ (frR l)) (List.map bellQ (bkR l)) N, 0 ≤ x → x < n := by
  obtain ⟨ha, hb⟩ := pe_bells l [] hp
  have e1 : (padC (List.map bellQ (frR l)) (List.map bellQ (bkR l)) N).filter (fun x => decide (0 ≤ x)) = (l.filter fun c => decide (0 ≤ signIdx c)).map bellQ := by
    rw [padC_filter, ← List.map_append, List.filter_map]
    congr 1
    rw [← frbk_filter (p := fun c => decide (0 ≤ signIdx c)) (by rw [sign_42]; rfl) l]
    refine List.filter_congr fun c _ => ?_
    simp only [Function.comp, decide_eq_decide]; exact bellQ_nonneg c
  constructor
  · rw [e1]
    refine nodup_map_on hb fun x hx y hy e => ?_
    have hx := of_decide_eq_true (List.mem_filter.1 hx).2
    have hy := of_decide_eq_true (List.mem_filter.1 hy).2
    rw [bellQ_eq hx, bellQ_eq hy] at e
    exact sign_inj hx e
  · intro x hx h0
    have : x ∈ (l.filter fun c => decide (0 ≤ signIdx c)).map bellQ := by rw [← e1]; exact List.mem_filter.2 ⟨hx, decide_eq_true h0⟩
    obtain ⟨c, hc, e⟩ := List.mem_map.1 this
    have hc := List.mem_filter.1 hc
    have hs := of_decide_eq_true hc.2
    rw [← e, bellQ_eq hs]
    exact (ha c hc.1 hs).1
theorem rounds_mem {n : Nat} {x : Int} : x ∈ roundsL n ↔ 0 ≤ x ∧ x < n := by
  unfold roundsL
  simp only [List.mem_map, List.mem_range]
  constructor
  · rintro ⟨k, hk, rfl⟩; omega
  · rintro ⟨h0, h1⟩; exact ⟨x.toNat, by omega, by omega⟩
theorem rounds_nodup (n : Nat) : (roundsL n).Nodup := by
  have := rounds_lt n
  rw [List.nodup_iff_pairwise_ne]
  exact this.imp fun h => by omega
/-- AS MANY ROWS ARE LIKE A PATTERN AS THERE ARE WAYS TO PLACE THE OTHER BELLS. -/
theorem like_count {n : Nat} {l : List Int} (h : patMay ((n : Nat) : Int) l = 0) :
    (List.range (fct n)).countP (fun k => likeB (List.map bellQ (frR l)) (List.map bellQ (bkR l)) (atL n k)) = fct (n - (fixL (List.map bellQ (frR l)) + fixL (List.map bellQ (bkR l)))) := by
  obtain ⟨_, hp, hlen, _⟩ := pat_facts h
  have hl : (List.map bellQ (frR l)).length + (List.map bellQ (bkR l)).length ≤ n := by rw [List.length_map, List.length_map]; omega
  obtain ⟨hn, hb⟩ := pad_bells hp n
  have hw := (nWays_eq n (roundsL n) (padC (List.map bellQ (frR l)) (List.map bellQ (bkR l)) n) (roundsL_len n) (padC_len hl) (rounds_nodup n) (fun x hx => (rounds_mem.1 hx).1) hn).1 (fun x hx h0 => rounds_mem.2 ⟨h0, hb x hx h0⟩)
  have e : (List.range (fct n)).countP (fun k => likeB (List.map bellQ (frR l)) (List.map bellQ (bkR l)) (atL n k)) = nWays n (roundsL n) (padC (List.map bellQ (frR l)) (List.map bellQ (bkR l)) n) := by
    unfold nWays
    refine List.countP_congr fun k _ => ?_
    rw [like_mat hl (at_len n k)]; rfl
  rw [e, hw]
  congr 1
  have h1 : (padC (List.map bellQ (frR l)) (List.map bellQ (bkR l)) n).countP (fun y => decide (0 ≤ y)) = fixL (List.map bellQ (frR l)) + fixL (List.map bellQ (bkR l)) := by
    rw [List.countP_eq_length_filter, padC_filter, ← List.countP_eq_length_filter, List.countP_append]; rfl
  have h2 : (padC (List.map bellQ (frR l)) (List.map bellQ (bkR l)) n).countP (fun y => decide (0 ≤ y)) + freeL (padC (List.map bellQ (frR l)) (List.map bellQ (bkR l)) n) = n := by
    have := List.length_eq_countP_add_countP (fun y => decide (0 ≤ y)) (l := padC (List.map bellQ (frR l)) (List.map bellQ (bkR l)) n)
    rw [padC_len hl] at this
    have h3 : (padC (List.map bellQ (frR l)) (List.map bellQ (bkR l)) n).countP (fun y => decide ¬decide (0 ≤ y) = true) = freeL (padC (List.map bellQ (frR l)) (List.map bellQ (bkR l)) n) := by
      unfold freeL
      refine List.countP_congr fun y _ => ?_
      simp
    omega
  omega
end Go.KL
