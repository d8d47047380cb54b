/- Plain maths: a row's sign, by its cycles and by its inversions. -/
import Derived.Test.YtbilebfnanlgfaaTopFalseK1
import Derived.Lib.Builder
import Derived.Lib.UnsafeStr
import Derived.Lib.SliceRun
import Derived.Lib.DecodeN
import Derived.Shelf.GgSortFunc.Insertion
import Derived.Shelf.SlSortCmp.Whole1
import Derived.ProofKit
import Derived.JoinedCond
import Derived.SizedLaws
import Derived.Deep.Slices
import Derived.Deep.CondSized
namespace Go.KL

/-! ### Inversions -/
/-! ### Cycles -/
theorem oddF (l : List (List Int)) : oddTo l l.length = decide ((l.flatten.length + l.length) % 2 = 1) := by
  have key : ∀ (l : List (List Int)) (b : Bool), l.foldl (fun b c => b != decide (((c.length % 2 : Nat) : Int) = (0 : Int))) b = (b != decide ((l.flatten.length + l.length) % 2 = 1)) := by
    intro l
    induction l with
    | nil => intro b; simp
    | cons c l ih =>
      intro b
      rw [List.foldl_cons, ih, List.flatten_cons, List.length_append, List.length_cons]
      rw [show c.length + l.flatten.length + (l.length + 1) = (c.length + 1) + (l.flatten.length + l.length) by omega, par_add (c.length + 1) (l.flatten.length + l.length)]
      have e : decide (((c.length % 2 : Nat) : Int) = (0 : Int)) = decide ((c.length + 1) % 2 = 1) := by rw [decide_eq_decide]; omega
      rw [e]
      generalize decide ((c.length + 1) % 2 = 1) = p
      generalize decide ((l.flatten.length + l.length) % 2 = 1) = q
      revert b p q; decide
  unfold oddTo
  rw [List.take_length, key]
  simp
theorem orb_mem {r : List Int} {b : Nat} {x : Int} : x ∈ orb r b ↔ ∃ m, m < per r b ∧ ((itr r b m : Nat) : Int) = x := by
  unfold orb; simp
theorem orb_nodup {r : List Int} (hr : IsRow r) {b : Nat} (hb : b < r.length) : (orb r b).Nodup := by
  unfold orb
  rw [List.nodup_iff_pairwise_ne, List.pairwise_map]
  refine List.Pairwise.imp_of_mem ?_ List.pairwise_lt_range
  intro i j hi hj hij e
  exact itr_inj hr hb hij (List.mem_range.1 hj) (by omega)
theorem cycles_perm {r : List Int} (hr : IsRow r) : (cyclesL r).flatten.Perm (roundsL r.length) := by
  rw [List.perm_ext_iff_of_nodup ?_ (roundsL_row hr.pos hr.le).nodup]
  · intro x
    rw [List.mem_flatten]
    constructor
    · rintro ⟨c, hc, hx⟩
      obtain ⟨b, hb, _, rfl⟩ := cyc_mem hc
      obtain ⟨m, _, rfl⟩ := orb_mem.1 hx
      exact List.mem_map.2 ⟨itr r b m, List.mem_range.2 (itr_lt hr hb m), rfl⟩
    · intro hx
      obtain ⟨k, hk, rfl⟩ := List.mem_map.1 hx
      have hk := List.mem_range.1 hk
      obtain ⟨b, hb, hl, hle⟩ := least_of hr k hk
      obtain ⟨m, hm, e⟩ := hle.small hr hb
      exact ⟨orb r b, List.mem_map.2 ⟨b, List.mem_filter.2 ⟨List.mem_range.2 hb, hl⟩, rfl⟩, orb_mem.2 ⟨m, hm, by rw [e]⟩⟩
  · rw [List.nodup_iff_pairwise_ne, List.pairwise_flatten]
    constructor
    · intro c hc
      obtain ⟨b, hb, _, rfl⟩ := cyc_mem hc
      exact List.nodup_iff_pairwise_ne.1 (orb_nodup hr hb)
    · unfold cyclesL cyclesTo
      rw [List.pairwise_map]
      refine List.Pairwise.imp_of_mem ?_ (List.Pairwise.filter _ List.pairwise_lt_range)
      intro b c hb hc hbc x hx y hy e
      subst e
      obtain ⟨hb1, hb2⟩ := List.mem_filter.1 hb
      obtain ⟨hc1, hc2⟩ := List.mem_filter.1 hc
      have hb1 := List.mem_range.1 hb1
      have hc1 := List.mem_range.1 hc1
      obtain ⟨m, _, e1⟩ := orb_mem.1 hx
      obtain ⟨m', _, e2⟩ := orb_mem.1 hy
      have e3 : itr r b m = itr r c m' := by omega
      have h1 : Leads r b (itr r c m') := ⟨m, e3⟩
      have h2 : Leads r c b := Leads.trans ⟨m', rfl⟩ (h1.symm hr hb1)
      have := (least_iff hr hc1).1 hc2 b h2
      omega
theorem oddL_count {r : List Int} (hr : IsRow r) : oddL r = decide ((r.length + (List.range r.length).countP (least r)) % 2 = 1) := by
  unfold oddL
  rw [oddF]
  have h1 := (cycles_perm hr).length_eq
  rw [roundsL_len] at h1
  have h2 : (cyclesL r).length = (List.range r.length).countP (least r) := by
    unfold cyclesL cyclesTo
    rw [List.length_map, List.countP_eq_length_filter]
  rw [h1, h2]
end Go.KL

/- Plain maths: the largest bell is taken out; the sign by cycles is that by inversions. -/
namespace Go.KL

def cutR (r : List Int) (n p : Nat) : List Int := (r.take n).set p (r.getD n 0)
structure Cut (r : List Int) (n p : Nat) : Prop where
  row : IsRow r
  len : r.length = n + 1
  pos : 1 ≤ n
  at' : r.getD p 0 = n
  le : p ≤ n
theorem Cut.len' {r : List Int} {n p : Nat} (h : Cut r n p) : (cutR r n p).length = n := by
  have := h.len
  simp [cutR]; omega
theorem Cut.get {r : List Int} {n p : Nat} (h : Cut r n p) {k : Nat} (hk : k < n) : (cutR r n p).getD k 0 = if k = p then r.getD n 0 else r.getD k 0 := by
  have hl := h.len
  unfold cutR
  rw [List.getD_eq_getElem?_getD, List.getElem?_set]
  by_cases e : p = k
  · subst e
    rw [if_pos rfl, if_pos rfl, if_pos (by simp; omega)]; rfl
  · rw [if_neg e, if_neg (fun q => e q.symm), List.getElem?_take, if_pos hk, ← List.getD_eq_getElem?_getD]
theorem Cut.only {r : List Int} {n p : Nat} (h : Cut r n p) {k : Nat} (hk : k ≤ n) : r.getD k 0 = n ↔ k = p := by
  have hl := h.len
  constructor
  · intro e
    have h1 := idxOf_at h.row.nodup (k := k) (by omega)
    have h2 := idxOf_at h.row.nodup (k := p) (by have := h.le; omega)
    rw [e] at h1; rw [h.at'] at h2; omega
  · rintro rfl; exact h.at'
theorem Cut.nxt {r : List Int} {n p : Nat} (h : Cut r n p) {k : Nat} (hk : k < n) : nxt (cutR r n p) k = if nxt r k = n then nxt r n else nxt r k := by
  have hl := h.len
  have hb := h.row.at (i := k) (by omega)
  have ho := h.only (k := k) (by omega)
  unfold Go.KL.nxt
  rw [h.get hk]
  by_cases e : k = p
  · have := ho.2 e
    rw [if_pos e, if_pos (by omega)]
  · have : r.getD k 0 ≠ n := fun q => e (ho.1 q)
    rw [if_neg e, if_neg (by omega)]
theorem Cut.row' {r : List Int} {n p : Nat} (h : Cut r n p) : IsRow (cutR r n p) := by
  have hl := h.len
  have hl' := h.len'
  have hle := h.row.le
  have hpos := h.pos
  have hbd : ∀ k, k < n → 0 ≤ (cutR r n p).getD k 0 ∧ (cutR r n p).getD k 0 < n := by
    intro k hk
    rw [h.get hk]
    have hb := h.row.at (i := k) (by omega)
    have hbn := h.row.at (i := n) (by omega)
    have ho := h.only (k := k) (by omega)
    have hon := h.only (k := n) (Nat.le_refl _)
    split
    · rename_i e
      have : ¬ r.getD n 0 = n := fun q => by have := hon.1 q; omega
      omega
    · rename_i e
      have : ¬ r.getD k 0 = n := fun q => e (ho.1 q)
      omega
  apply rowMay_ok.1
  refine rowMay_of (by omega) (by omega) ?_ ?_
  · rw [List.nodup_iff_pairwise_ne, List.pairwise_iff_getElem]
    intro i j hi hj hij
    rw [gd _ i hi, gd _ j hj, h.get (by omega), h.get (by omega)]
    have inj : ∀ a b, a < n + 1 → b < n + 1 → r.getD a 0 = r.getD b 0 → a = b := fun a b ha hb e => by
      have h1 := idxOf_at h.row.nodup (k := a) (by omega)
      have h2 := idxOf_at h.row.nodup (k := b) (by omega)
      rw [e] at h1; omega
    intro e
    split at e <;> split at e
    · omega
    · have := inj _ _ (by omega) (by omega) e; omega
    · have := inj _ _ (by omega) (by omega) e; omega
    · have := inj _ _ (by omega) (by omega) e; omega
  · intro x hx
    obtain ⟨k, hk, e⟩ := List.getElem_of_mem hx
    rw [gd _ k hk] at e
    have := hbd k (by omega)
    omega
theorem itr_one (r : List Int) (b : Nat) : itr r b 1 = nxt r b := rfl
theorem itr_step (r : List Int) (b m : Nat) : itr r b (m + 1) = nxt r (itr r b m) := rfl
theorem Cut.leads {r : List Int} {n p : Nat} (h : Cut r n p) {b : Nat} (hb : b < n) : ∀ m, Leads r b (itr (cutR r n p) b m)
  | 0 => ⟨0, rfl⟩
  | m + 1 => by
    have hi := itr_lt h.row' (b := b) (by rw [h.len']; exact hb) m
    rw [h.len'] at hi
    have ih := h.leads hb m
    rw [itr_step, h.nxt hi]
    split
    · rename_i e
      refine Leads.trans ih ⟨2, ?_⟩
      rw [itr_step, itr_one, e]
    · exact Leads.trans ih ⟨1, rfl⟩
theorem Cut.back {r : List Int} {n p : Nat} (h : Cut r n p) {b : Nat} (hb : b < n) : ∀ m, (itr r b m < n → Leads (cutR r n p) b (itr r b m)) ∧ (itr r b m = n → Go.KL.nxt r n < n → Leads (cutR r n p) b (Go.KL.nxt r n))
  | 0 => ⟨fun _ => ⟨0, rfl⟩, fun e => by have : itr r b 0 = b := rfl; omega⟩
  | m + 1 => by
    obtain ⟨i1, i2⟩ := h.back hb m
    have hl := h.len
    have hlt := itr_lt h.row (b := b) (by omega) m
    rw [itr_step]
    by_cases e : itr r b m = n
    · rw [e]
      refine ⟨fun hn => i2 e hn, fun e2 hn => by omega⟩
    · have hm : itr r b m < n := by omega
      have hx := h.nxt hm
      refine ⟨fun hn => ?_, fun e2 hn => ?_⟩
      · rw [if_neg (by omega)] at hx
        exact Leads.trans (i1 hm) ⟨1, hx⟩
      · rw [if_pos e2] at hx
        exact Leads.trans (i1 hm) ⟨1, hx⟩
theorem Cut.least {r : List Int} {n p : Nat} (h : Cut r n p) {b : Nat} (hb : b < n) : least (cutR r n p) b = Go.KL.least r b := by
  have hl := h.len
  have hl' := h.len'
  rw [Bool.eq_iff_iff, least_iff h.row' (by omega), least_iff h.row (by omega)]
  constructor
  · rintro hc k ⟨m, rfl⟩
    by_cases e : itr r b m < n
    · exact hc _ ((h.back hb m).1 e)
    · omega
  · rintro hc k ⟨m, rfl⟩
    exact hc _ (h.leads hb m)
theorem Cut.top {r : List Int} {n p : Nat} (h : Cut r n p) : Go.KL.least r n = decide (p = n) := by
  have hl := h.len
  have hle := h.le
  rw [Bool.eq_iff_iff, least_iff h.row (by omega), decide_eq_true_iff]
  have hon := h.only (k := n) (Nat.le_refl _)
  have hb := h.row.at (i := n) (by omega)
  constructor
  · intro hc
    have h1 := hc _ ⟨1, rfl⟩
    rw [itr_one] at h1
    unfold Go.KL.nxt at h1
    exact (hon.1 (by omega)).symm
  · rintro rfl k ⟨m, rfl⟩
    have : ∀ m, itr r p m = p := by
      intro m
      induction m with
      | zero => rfl
      | succ m ih => rw [itr_step, ih]; unfold Go.KL.nxt; rw [h.at']; rfl
    rw [this m]; exact Nat.le_refl _
theorem Cut.oddL {r : List Int} {n p : Nat} (h : Cut r n p) : Go.KL.oddL r = (Go.KL.oddL (cutR r n p) != decide (p ≠ n)) := by
  rw [oddL_count h.row, oddL_count h.row', h.len, h.len', List.range_succ, List.countP_append, List.countP_cons, List.countP_nil, h.top]
  have e : (List.range n).countP (Go.KL.least (cutR r n p)) = (List.range n).countP (Go.KL.least r) := by
    apply List.countP_congr
    intro b hb
    rw [h.least (List.mem_range.1 hb)]
  rw [e]
  generalize (List.range n).countP (Go.KL.least r) = c
  by_cases e : p = n
  · have e1 : (n + 1 + (c + (0 + if decide (p = n) = true then 1 else 0))) = (n + c) + 2 := by rw [decide_eq_true e, if_pos rfl]; omega
    rw [e1, Nat.add_mod_right, decide_eq_false (Classical.not_not.2 e)]
    simp
  · have e1 : (n + 1 + (c + (0 + if decide (p = n) = true then 1 else 0))) = (n + c) + 1 := by rw [decide_eq_false e, if_neg (by simp)]; omega
    rw [e1, decide_eq_true e, par_add]
    simp
end Go.KL

/- The place of a row among all of its bells, counted in two ways; the row at a place. -/
namespace Go.KL
def fct : Nat → Nat
  | 0 => 1
  | n + 1 => (n + 1) * fct n
theorem fct_pos : ∀ n, 1 ≤ fct n
  | 0 => by decide
  | n + 1 => Nat.mul_pos (by omega) (fct_pos n)
theorem fct_le_succ (n : Nat) : fct n ≤ fct (n + 1) := by
  have := fct_pos n
  rw [fct, Nat.succ_mul]; omega
theorem fct_mono {m n : Nat} (h : m ≤ n) : fct m ≤ fct n := by
  induction h with
  | refl => exact Nat.le_refl _
  | step _ ih => exact Nat.le_trans ih (fct_le_succ _)
theorem fct_12 : fct 12 = 479001600 := by decide
theorem fct_le12 {n : Nat} (h : n ≤ 12) : fct n ≤ 479001600 := by rw [← fct_12]; exact fct_mono h
def lessN (b : Int) (r : List Int) : Nat := r.countP fun c => decide (c < b)
theorem lessN_le (b : Int) (r : List Int) : lessN b r ≤ r.length := List.countP_le_length
def rankL : List Int → Nat
  | [] => 0
  | b :: r => lessN b r * fct r.length + rankL r
theorem rankL_lt : ∀ r : List Int, rankL r < fct r.length
  | [] => by decide
  | b :: r => by
    have h1 := rankL_lt r
    have h2 : lessN b r * fct r.length ≤ r.length * fct r.length := Nat.mul_le_mul_right _ (lessN_le b r)
    rw [rankL, List.length_cons, fct, Nat.succ_mul]; omega
theorem rank_step {r : List Int} {i : Nat} (h : i < r.length) : rankL (r.drop i) = lessN (r.getD i 0) (r.drop (i + 1)) * fct (r.length - i - 1) + rankL (r.drop (i + 1)) := by
  rw [List.drop_eq_getElem_cons h, rankL]
  have e : r[i] = r.getD i 0 := by simp [h]
  rw [e, List.length_drop, Nat.sub_add_eq]
theorem place_step {r : List Int} {i k : Nat} (h : i < r.length) (hk : k * fct (r.length - i) + rankL (r.drop i) = rankL r) :
    (k * (r.length - i) + lessN (r.getD i 0) (r.drop (i + 1))) * fct (r.length - (i + 1)) + rankL (r.drop (i + 1)) = rankL r := by
  rw [rank_step h] at hk
  obtain ⟨m, hm⟩ : ∃ m, r.length - i = m + 1 := ⟨r.length - i - 1, by omega⟩
  rw [show r.length - (i + 1) = m by omega]
  rw [show r.length - i - 1 = m by omega, hm, fct] at hk
  rw [hm, Nat.add_mul, Nat.mul_assoc]; omega
theorem place_le {r : List Int} {i k : Nat} (hk : k * fct (r.length - i) + rankL (r.drop i) = rankL r) : k ≤ rankL r := by
  have h1 := fct_pos (r.length - i)
  have : k * 1 ≤ k * fct (r.length - i) := Nat.mul_le_mul_left _ h1
  omega
theorem place_end {r : List Int} {k : Nat} (hk : k * fct (r.length - r.length) + rankL (r.drop r.length) = rankL r) : k = rankL r := by
  rw [Nat.sub_self, List.drop_length, fct, Nat.mul_one] at hk
  exact hk
theorem lessN_snoc (b : Int) (r : List Int) (j : Nat) (h : j < r.length) : lessN b (r.take (j + 1)) = lessN b (r.take j) + (if r.getD j 0 < b then 1 else 0) := by
  unfold lessN
  rw [take_snoc r 0 j h, List.countP_append]
  simp
theorem lessN_rounds {n : Nat} (b : Nat) (hb : b ≤ n) : lessN b (roundsL n) = b := by
  unfold lessN roundsL
  rw [List.countP_map]
  have : (List.range n).countP ((fun c : Int => decide (c < (b : Int))) ∘ fun (i : Nat) => (i : Int)) = (List.range n).countP (fun i => decide (i < b)) := List.countP_congr fun i _ => by simp
  rw [this]
  clear this
  induction n with
  | zero => simp; omega
  | succ n ih =>
    rw [List.range_succ, List.countP_append]
    by_cases h : b ≤ n
    · rw [ih h]; simp; omega
    · have : b = n + 1 := by omega
      subst this
      have e : (List.range n).countP (fun i => decide (i < n + 1)) = n := by
        rw [List.countP_eq_length.2 (fun x hx => by have := List.mem_range.1 hx; simp; omega)]; simp
      rw [e]; simp
theorem lessN_perm {b : Int} {r s : List Int} (h : r.Perm s) : lessN b r = lessN b s := h.countP_eq _
theorem lessN_row {r : List Int} (hr : IsRow r) {i : Nat} (hi : i < r.length) : ((lessN (r.getD i 0) r : Nat) : Int) = r.getD i 0 := by
  have hb := hr.at hi
  obtain ⟨b, hb'⟩ : ∃ b : Nat, r.getD i 0 = (b : Int) := ⟨(r.getD i 0).toNat, by omega⟩
  rw [hb', lessN_perm (row_perm hr), lessN_rounds b (by omega)]
theorem lessN_split (b : Int) (r : List Int) (i : Nat) : lessN b r = lessN b (r.take i) + lessN b (r.drop i) := by
  unfold lessN; rw [← List.countP_append, List.take_append_drop]
theorem less_after {r : List Int} (hr : IsRow r) {i : Nat} (hi : i < r.length) : r.getD i 0 - ((lessN (r.getD i 0) (r.take i) : Nat) : Int) = ((lessN (r.getD i 0) (r.drop (i + 1)) : Nat) : Int) := by
  have h1 := lessN_row hr hi
  have h2 := lessN_split (r.getD i 0) r i
  have h3 : lessN (r.getD i 0) (r.drop i) = lessN (r.getD i 0) (r.drop (i + 1)) := by
    rw [List.drop_eq_getElem_cons hi]
    unfold lessN
    rw [List.countP_cons]
    have e : r[i] = r.getD i 0 := by simp [hi]
    rw [e]; simp
  omega
theorem rank_step' {r : List Int} {i k : Nat} (h : i < r.length) (hk : k + rankL (r.drop i) = rankL r) : (k + lessN (r.getD i 0) (r.drop (i + 1)) * fct (r.length - 1 - i)) + rankL (r.drop (i + 1)) = rankL r := by
  rw [rank_step h] at hk
  rw [show r.length - 1 - i = r.length - i - 1 by omega]; omega
theorem rankL_inj : ∀ (r s : List Int), r.Perm s → rankL r = rankL s → r = s
  | [], s, h, _ => by
    have := h.length_eq
    exact (List.eq_nil_of_length_eq_zero (by simpa using this.symm)).symm
  | b :: r, [], h, _ => by have := h.length_eq; simp at this
  | b :: r, c :: s, h, e => by
    have hl : r.length = s.length := by have := h.length_eq; simpa using this
    rw [rankL, rankL, hl] at e
    have h1 := rankL_lt r
    have h2 := rankL_lt s
    rw [hl] at h1
    have hp := fct_pos s.length
    have e1 : lessN b r = lessN c s := by
      have ha : (lessN b r * fct s.length + rankL r) / fct s.length = lessN b r := by rw [Nat.add_comm, Nat.add_mul_div_right _ _ hp, Nat.div_eq_of_lt h1, Nat.zero_add]
      have hb : (lessN c s * fct s.length + rankL s) / fct s.length = lessN c s := by rw [Nat.add_comm, Nat.add_mul_div_right _ _ hp, Nat.div_eq_of_lt h2, Nat.zero_add]
      rw [← ha, e, hb]
    have e2 : rankL r = rankL s := by rw [e1] at e; omega
    have hb : lessN b r = lessN b (b :: r) := by simp [lessN]
    have hc : lessN c s = lessN c (c :: s) := by simp [lessN]
    have e3 : lessN b (b :: r) = lessN c (b :: r) := by rw [← hb, e1, hc]; exact (lessN_perm h).symm
    have lt : ∀ (x y : Int) (l : List Int), x ∈ l → x < y → lessN x l < lessN y l := by
      intro x y l hx hxy
      unfold lessN
      induction l with
      | nil => cases hx
      | cons z l ih =>
        have mono : l.countP (fun c => decide (c < x)) ≤ l.countP (fun c => decide (c < y)) := List.countP_mono_left fun w _ hw => by simp at hw ⊢; omega
        rw [List.countP_cons, List.countP_cons]
        by_cases hz : z = x
        · subst hz
          simp [hxy]; omega
        · have := ih (by simpa [Ne.symm hz] using hx)
          by_cases h1 : z < x
          · have h2 : z < y := by omega
            simp [h1, h2]; omega
          · simp [h1]; split <;> omega
    have hbc : b = c := by
      rcases Int.lt_trichotomy b c with h3 | h3 | h3
      · have := lt b c (b :: r) (by simp) h3; omega
      · exact h3
      · have := lt c b (b :: r) (h.mem_iff.2 (by simp)) h3; omega
    subst hbc
    rw [rankL_inj r s (List.perm_cons b |>.1 h) e2]
theorem rank_row_inj {r s : List Int} (hr : IsRow r) (hs : IsRow s) (hl : r.length = s.length) (e : rankL r = rankL s) : r = s :=
  rankL_inj r s ((row_perm hr).trans (by rw [hl]; exact (row_perm hs).symm)) e
theorem lessN_zero_of {b : Int} {l : List Int} (h : ∀ x ∈ l, b ≤ x) : lessN b l = 0 := by
  unfold lessN
  rw [List.countP_eq_zero]
  intro x hx
  have := h x hx
  simp; omega
theorem rank_sorted : ∀ (l : List Int), l.Pairwise (· ≤ ·) → rankL l = 0
  | [], _ => rfl
  | b :: l, h => by
    rw [List.pairwise_cons] at h
    rw [rankL, lessN_zero_of (fun x hx => h.1 x hx), rank_sorted l h.2]; simp
theorem roundsL_sorted (n : Nat) : (roundsL n).Pairwise (· ≤ ·) := by
  unfold roundsL
  rw [List.pairwise_map]
  exact List.pairwise_le_range.imp (by intro a b h; omega)
theorem rank_rounds (n : Nat) : rankL (roundsL n) = 0 := rank_sorted _ (roundsL_sorted n)
theorem rank_zero_iff {r : List Int} (hr : IsRow r) : rankL r = 0 ↔ r = roundsL r.length := by
  constructor
  · intro h
    exact rankL_inj _ _ (row_perm hr) (by rw [h, rank_rounds])
  · intro h; rw [h]; exact rank_rounds _
/-! ### The row at a place -/
end Go.KL

/- The signs of bells: where a rune stands among them. -/
namespace Go.KL
end Go.KL

/- What package strings' Builder meets: pointers held against each other, a row of bytes that becomes a string. -/
namespace Go.KL
open Go.RowKit
variable {P : Program} {d : Option Tmp} {ty : TypeId} {pos : String} {af : Array Edge} {g : Option (Nat × Bool)} {a : Act} {σ : GW}

abbrev Ty.byte (b : UInt8) : Ty := .val (.int .u8 ((b.toNat : Nat) : Int))
def OwnPT (E : TypeId) (σ : GW) (k : Nat) (v : Value) (ts : List Ty) : Prop :=
  ∃ g cur, v = .pointer (some ⟨g, 0, none⟩) ∧ σ.st g = k ∧ σ.w.heap[g]? = some (.cells cur E (0, 0)) ∧ cur.size = ts.length ∧ ∀ (j : Nat) (T : Ty) (u : Value), ts[j]? = some T → cur[j]? = some u → T.has σ u
theorem OwnPT.toP {E : TypeId} {k : Nat} {v : Value} {ts : List Ty} (h : OwnPT E σ k v ts) : OwnP σ k v ts := by
  obtain ⟨g, cur, h1, h2, h3, h4, h5⟩ := h; exact ⟨g, E, cur, h1, h2, h3, h4, h5⟩
theorem OwnPT.keepL {E : TypeId} {L : List Nat} {k : Nat} {σ τ : GW} {v : Value} {ts : List Ty} (h : OwnPT E σ k v ts) (hs : StpL L σ τ) (h1 : 1 ∉ L) (hk : k ∉ L) : OwnPT E τ k v ts := by
  obtain ⟨g, cur, rfl, r2, r3, r4, r5⟩ := h
  have hg := (Array.getElem?_eq_some_iff.1 r3).1
  have hq : σ.st g ∉ L := by rw [r2]; exact hk
  exact ⟨g, cur, rfl, (hs.st g hg hq).trans r2, (hs.blk g hg hq).trans r3, r4, fun j T u hj hu => T.up (hs.le h1) (r5 j T u hj hu)⟩
theorem OwnPT.k0 {E : TypeId} {k : Nat} {σ τ : GW} {v : Value} {ts : List Ty} (h : OwnPT E σ k v ts) (hs : Stp 0 σ τ) : OwnPT E τ k v ts := h.keepL (L := []) hs.toL0 (by simp) (by simp)
theorem OwnPT.one {E : TypeId} {k : Nat} {v : Value} {ts : List Ty} (h : OwnPT E σ k v ts) : v.oneCell' = true := h.toP.one
end Go.KL
namespace Go.KL
end Go.KL

/- Cutting one out of a row that is owned: its two ends, joined in place, and the rest made zero. -/
namespace Go.KL
open Go.RowKit
variable {P : Program} {d : Option Tmp} {ty : TypeId} {pos : String} {af : Array Edge} {g : Option (Nat × Bool)} {a : Act} {σ : GW}
def capGe (v : Value) (n : Nat) : Prop := match v with | .slice _ _ cap => n ≤ cap | _ => False

theorem Own.form {k : Nat} {e : TypeId} {n : Nat} {v : Value} {ts : List Ty} (h : Own σ k e 1 v n ts) : ∃ ad cap, v = .slice ad n cap ∧ n ≤ cap ∧ cap ≤ 9223372036854775807 := by
  obtain ⟨us, r1, _⟩ := h
  rcases r1.2 with ⟨rfl, rfl⟩ | ⟨gg, cap, cur, rfl, _, _, hn, hm, _⟩
  · exact ⟨none, 0, rfl, Nat.le_refl _, by decide⟩
  · exact ⟨_, cap, rfl, hn, hm⟩
theorem Own.cap {k : Nat} {e : TypeId} {n : Nat} {v : Value} {ts : List Ty} (h : Own σ k e 1 v n ts) : capGe v n := by
  obtain ⟨ad, cap, rfl, hn, _⟩ := h.form; exact hn
section
variable {k : Nat} {x y y' y'' : Operand} {n : Nat} {ts : List Ty} {t e e' : TypeId} {z v : Value} {b : Nat} {ki kj kk : IntKind} (ht : P.underlying t = some (.slice e')) (he : Info P e' z 1 b) (ho : Own σ k e 1 v n ts) (hx : a.eval x = v)
include ht he ho hx
end
end Go.KL

/- All rows, each once: the way that is looked for; what rows may generate. -/
namespace Go.KL
theorem place_mul {r : List Int} {i k : Nat} (h12 : r.length ≤ 12) (h : i < r.length) (hk : k * fct (r.length - i) + rankL (r.drop i) = rankL r) :
    0 ≤ ((k : Nat) : Int) * (((r.length - i : Nat)) : Int) ∧ ((k : Nat) : Int) * (((r.length - i : Nat)) : Int) ≤ 479001600 ∧ k * (r.length - i) ≤ 479001600 := by
  have h1 := place_step h hk
  have h2 := fct_pos (r.length - (i + 1))
  have h3 := rankL_lt r
  have h4 := fct_le12 h12
  have h5 : (k * (r.length - i) + lessN (r.getD i 0) (r.drop (i + 1))) * 1 ≤ (k * (r.length - i) + lessN (r.getD i 0) (r.drop (i + 1))) * fct (r.length - (i + 1)) := Nat.mul_le_mul_left _ h2
  rw [← Int.natCast_mul]
  omega
theorem rank_mul {r : List Int} {i k : Nat} (h12 : r.length ≤ 12) (h : i < r.length) (hk : k + rankL (r.drop i) = rankL r) :
    lessN (r.getD i 0) (r.drop (i + 1)) * fct (r.length - 1 - i) ≤ 479001600 ∧ ((lessN (r.getD i 0) (r.drop (i + 1)) : Nat) : Int) * ((fct (r.length - 1 - i) : Nat) : Int) ≤ 479001600 ∧ 0 ≤ ((lessN (r.getD i 0) (r.drop (i + 1)) : Nat) : Int) * ((fct (r.length - 1 - i) : Nat) : Int) := by
  have h1 := rank_step' h hk
  have h3 := rankL_lt r
  have h4 := fct_le12 h12
  rw [← Int.natCast_mul]
  omega
theorem fct_small {n : Nat} (h : n < 2) : fct n = 1 := by
  match n, h with
  | 0, _ => rfl
  | 1, _ => rfl
theorem fct_rec {n : Nat} (h : ¬ n < 2) : n * fct (n - 1) = fct n := by
  obtain ⟨q, rfl⟩ : ∃ q, n = q + 1 := ⟨n - 1, by omega⟩
  rfl
theorem rank_le12 {r : List Int} (h : r.length ≤ 12) : rankL r < 479001600 := Nat.lt_of_lt_of_le (rankL_lt r) (fct_le12 h)

/-! ### What may generate -/
def gensTo (n : Int) : List (List Int) → Int
  | [] => 0
  | g :: l => if rowMay g ≠ 0 then rowMay g else if ((g.length : Nat) : Int) ≠ n then 1 else gensTo n l
def gensMay (n : Int) (l : List (List Int)) : Int := if n < 1 ∨ 12 < n ∨ 8 < l.length then 1 else gensTo n l
theorem gensTo_ok {n : Int} : ∀ {l : List (List Int)}, gensTo n l = 0 → ∀ g ∈ l, IsRow g ∧ ((g.length : Nat) : Int) = n
  | [], _, g, hg => by cases hg
  | x :: l, h, g, hg => by
    rw [gensTo] at h
    split at h
    · contradiction
    · rename_i h1
      split at h
      · cases h
      · rename_i h2
        rcases List.mem_cons.1 hg with rfl | hg
        · exact ⟨rowMay_ok.1 (Classical.not_not.1 h1), Classical.not_not.1 h2⟩
        · exact gensTo_ok h g hg
theorem gensMay_ok {n : Int} {l : List (List Int)} (h : gensMay n l = 0) : (1 ≤ n ∧ n ≤ 12 ∧ l.length ≤ 8) ∧ ∀ k, k < l.length → IsRow (l.getD k []) ∧ (((l.getD k []).length : Nat) : Int) = n := by
  unfold gensMay at h
  split at h
  · cases h
  · rename_i hc
    refine ⟨by omega, fun k hk => gensTo_ok h _ ?_⟩
    simp [hk]

/-! ### The order of a row, taken again and again -/
/-! ### The way -/
structure Tour (n : Nat) (cs : List (List Int)) (rows : List (List Int)) (path : List Int) (r : List Int) : Prop where
  len : rows.length = path.length + 1
  row : ∀ x ∈ rows, IsRow x ∧ x.length = n
  nd : rows.Nodup
  last : rows.getD (rows.length - 1) [] = r
  csr : ∀ k, k < cs.length → IsRow (cs.getD k []) ∧ (cs.getD k []).length = n
  nn : 1 ≤ n ∧ n ≤ 4
  cl : cs.length ≤ 8
theorem Tour.rr {n : Nat} {cs rows : List (List Int)} {path r : List Int} (h : Tour n cs rows path r) : IsRow r ∧ r.length = n := by
  refine h.row r ?_
  have hl : rows.length - 1 < rows.length := by have := h.len; omega
  rw [← h.last]
  have e : rows.getD (rows.length - 1) [] = rows[rows.length - 1] := by simp [hl]
  rw [e]; exact List.getElem_mem hl
theorem Tour.x {n : Nat} {cs rows : List (List Int)} {path r : List Int} (h : Tour n cs rows path r) {k : Nat} (hk : k < cs.length) : IsRow (byL r (cs.getD k [])) ∧ (byL r (cs.getD k [])).length = n := by
  have h1 := h.rr
  have h2 := h.csr k hk
  exact ⟨byL_row h1.1 h2.1 (by omega), by rw [byL_len]; exact h2.2⟩
theorem rows_le {n : Nat} {rows : List (List Int)} (h : ∀ x ∈ rows, IsRow x ∧ x.length = n) (hn : rows.Nodup) : rows.length ≤ fct n := by
  have := nodup_len (fct n) (rows.map fun x => ((rankL x : Nat) : Int)) (by
    refine List.pairwise_map.2 (hn.imp_of_mem ?_)
    intro a b ha hb hab e
    refine hab (rank_row_inj (h a ha).1 (h b hb).1 (by rw [(h a ha).2, (h b hb).2]) (by omega))) (fun x hx => by
    obtain ⟨y, hy, rfl⟩ := List.mem_map.1 hx
    have := rankL_lt y
    rw [(h y hy).2] at this
    omega)
  simpa using this
theorem Tour.next {n : Nat} {cs rows : List (List Int)} {path r : List Int} (h : Tour n cs rows path r) {k : Nat} (hk : k < cs.length) (hx : byL r (cs.getD k []) ∉ rows) : Tour n cs (rows ++ [byL r (cs.getD k [])]) (path ++ [(k : Int)]) (byL r (cs.getD k [])) := by
  refine ⟨by simp [h.len], fun x hxm => ?_, ?_, by simp, h.csr, h.nn, h.cl⟩
  · rcases List.mem_append.1 hxm with hm | hm
    · exact h.row x hm
    · simp at hm; subst hm; exact h.x hk
  · refine List.nodup_append.2 ⟨h.nd, by simp, fun a ha b hb => ?_⟩
    simp at hb; subst hb
    rintro rfl; exact hx ha
theorem Tour.full {n : Nat} {cs rows : List (List Int)} {path r : List Int} (h : Tour n cs rows path r) {x : List Int} (hx : IsRow x ∧ x.length = n) (hn : x ∉ rows) : path.length + 1 < fct n := by
  have := rows_le (n := n) (rows := rows ++ [x]) (fun y hy => by
    rcases List.mem_append.1 hy with hm | hm
    · exact h.row y hm
    · simp at hm; subst hm; exact hx) (List.nodup_append.2 ⟨h.nd, by simp, fun a ha b hb => by simp at hb; subst hb; rintro rfl; exact hn ha⟩)
  simp at this
  have := h.len
  omega
theorem Tour.lt {n : Nat} {cs rows : List (List Int)} {path r : List Int} (h : Tour n cs rows path r) : path.length < fct n ∧ fct n ≤ 24 := by
  have h1 := rows_le h.row h.nd
  have h2 := h.len
  have h3 : fct n ≤ fct 4 := fct_mono h.nn.2
  have h4 : fct 4 = 24 := by decide
  omega
def SeenT (n : Nat) (rows : List (List Int)) (f : Int → Option Int) : Prop := ∀ x, IsRow x → x.length = n → (f ((rankL x : Nat) : Int)).getD 0 = if x ∈ rows then 1 else 0
theorem SeenT.put {n : Nat} {rows : List (List Int)} {f : Int → Option Int} (h : SeenT n rows f) {x : List Int} (hx : IsRow x ∧ x.length = n) : SeenT n (rows ++ [x]) (fun p => if p = ((rankL x : Nat) : Int) then some 1 else f p) := by
  intro y hy hl
  by_cases e : y = x
  · subst e; simp
  · have hne : rankL y ≠ rankL x := fun hh => e (rank_row_inj hy hx.1 (by omega) hh)
    simp only [Int.natCast_inj, if_neg hne]
    rw [h y hy hl]
    simp [e]
theorem SeenT.drop {n : Nat} {rows : List (List Int)} {f : Int → Option Int} {x : List Int} (h : SeenT n (rows ++ [x]) f) (hx : IsRow x ∧ x.length = n) (hn : x ∉ rows) : SeenT n rows (fun p => if p = ((rankL x : Nat) : Int) then some 0 else f p) := by
  intro y hy hl
  by_cases e : y = x
  · subst e; simp [hn]
  · have hne : rankL y ≠ rankL x := fun hh => e (rank_row_inj hy hx.1 (by omega) hh)
    simp only [Int.natCast_inj, if_neg hne]
    rw [h y hy hl]
    simp [e]
end Go.KL
namespace Go.KL
section
variable {F : List (List Int) → List Int → Option (List Int)} {cs : List (List Int)} {N : Nat} {rows : List (List Int)} {path r : List Int} {k : Nat} (hl : rows.getD (rows.length - 1) [] = r)
include hl
end
theorem Tour.start {n : Int} {cs : List (List Int)} (h : ¬ (n < 1 ∨ 4 < n ∨ 8 < cs.length)) (h2 : ¬ gensMay n cs ≠ 0) : Tour n.toNat cs [roundsL n.toNat] [] (roundsL n.toNat) := by
  have hg := gensMay_ok (Classical.not_not.1 h2)
  refine ⟨rfl, fun x hx => ?_, by simp, rfl, fun k hk => ⟨(hg.2 k hk).1, by have := (hg.2 k hk).2; omega⟩, ⟨by omega, by omega⟩, by omega⟩
  simp at hx; subst hx
  exact ⟨roundsL_row (by omega) (by omega), roundsL_len _⟩
end Go.KL
namespace Go.KL
end Go.KL

/- All rows, each once: what is found rings, and nothing ahead of it does. -/
namespace Go.KL
def belowL : List Int → List Int → Bool
  | [], b => decide (0 < b.length)
  | _ :: _, [] => false
  | x :: a, y :: b => if x = y then belowL a b else decide (x < y)
theorem below_irr : ∀ a : List Int, belowL a a = false
  | [] => rfl
  | x :: a => by rw [belowL, if_pos rfl]; exact below_irr a
def SeenB (n : Nat) (vis : List (List Int)) (f : Int → Option Bool) : Prop := ∀ x, IsRow x → x.length = n → (f ((rankL x : Nat) : Int)).getD false = decide (x ∈ vis)
theorem SeenB.put {n : Nat} {vis : List (List Int)} {f : Int → Option Bool} (h : SeenB n vis f) {x : List Int} (hx : IsRow x) (hl : x.length = n) : SeenB n (vis ++ [x]) (fun p => if p = ((rankL x : Nat) : Int) then some true else f p) := by
  intro y hy hly
  by_cases e : y = x
  · subst e; simp
  · have hne : rankL y ≠ rankL x := fun hh => e (rank_row_inj hy hx (by omega) hh)
    simp only [Int.natCast_inj, if_neg hne]
    rw [h y hy hly]
    simp [e]
end Go.KL

/- Rows read and written as text; the row at a place; the laws of rows. -/
namespace Go.KL
theorem IsRow.lt12 {r : List Int} (h : IsRow r) {i : Nat} (hi : i < r.length) : 0 ≤ r.getD i 0 ∧ r.getD i 0 < 12 := by
  have := h.at hi; have := h.le; omega
theorem undo_row {r : List Int} (h : IsRow r) : IsRow (undoL r) ∧ byL r (undoL r) = roundsL r.length := by
  have hget : ∀ b, b < r.length → (undoL r).getD b 0 = ((r.idxOf (b : Int) : Nat) : Int) := fun b hb => undoL_get hb
  have hidx : ∀ b, b < r.length → r.idxOf (b : Int) < r.length := fun b hb => List.idxOf_lt_length_of_mem (h.mem hb)
  have hat : ∀ b, b < r.length → r.getD (r.idxOf (b : Int)) 0 = (b : Int) := fun b hb => by
    have hlt := hidx b hb
    rw [List.getD_eq_getElem?_getD, List.getElem?_eq_getElem hlt, Option.getD_some]
    exact List.getElem_idxOf hlt
  have hl := undoL_len r
  have hby : byL r (undoL r) = roundsL r.length := by
    refine list_ext (by rw [byL_len, hl, roundsL_len]) (fun j hj => ?_)
    rw [byL_len, hl] at hj
    rw [byL_get _ _ _ (by rw [hl]; exact hj), hget j hj, roundsL_get hj, Int.toNat_natCast, hat j hj]
  refine ⟨?_, hby⟩
  refine rowMay_ok.1 (rowMay_of (by rw [hl]; exact h.pos) (by rw [hl]; exact h.le) ?_ ?_)
  · rw [List.nodup_iff_pairwise_ne, List.pairwise_iff_getElem]
    intro i j hi hj hij e
    rw [hl] at hi hj
    have e1 : (undoL r).getD i 0 = (undoL r).getD j 0 := by simpa [hl, hi, hj] using e
    rw [hget i hi, hget j hj] at e1
    have := hat i hi
    rw [Int.natCast_inj.1 e1, hat j hj] at this
    omega
  · intro x hx
    obtain ⟨i, hi, rfl⟩ := List.getElem_of_mem hx
    rw [hl] at hi
    have e1 : (undoL r)[i] = (undoL r).getD i 0 := by simp [hl, hi]
    rw [e1, hget i hi, hl]
    have := hidx i hi
    omega
end Go.KL
namespace Go.KL
end Go.KL

/- Runes as the document reads them: -1 for a byte that is none. -/
namespace Go.KL
section
variable {s : ByteArray} (h128 : ¬ (s.get! 0).toNat < 128)
include h128 in
end
/-! ### All runes of a text -/
end Go.KL

/- What the law RowSays wants beside: cycles as the document finds them, text by signs. -/
namespace Go.KL
end Go.KL

/- Patterns of bells: the maths. -/
namespace Go.KL
/-! ### Signs -/
/-! ### Ahead of the star and behind it -/
/-! ### What was seen -/
/-! ### Like a pattern -/
/-! ### Steps -/
/-! ### A pattern that may be -/
/-! ### The walks of Like and fits -/
end Go.KL

/- Results of which the first lies in a struct's variable. -/
namespace Go.KL
open Go.RowKit
variable {P : Program} {fn : Func} {σ0 σ : GW} {a : Act} {N d e f : Nat} {L : List Nat} {R : Value → GW → Prop}
theorem run_cell {t k : Nat} {T : TypeId} {fs : Array Field} {z : Value} {by_ : Nat} {ts : List Ty} (hT : P.underlying T = some (.struct fs)) (he : Info P T z ts.length by_) (h : OwnP σ k (a.eval (.tmp t)) ts) :
    ∃ ad cur, a.tmps.getD t undef = .pointer (some ad) ∧ (loadVar T ad).run P σ.w = .ok (.agg cur) σ.w ∧ (Ty.agg ts).has σ (.agg cur) := by
  obtain ⟨gg, e', cur, e1, h2, h3, h4, h5⟩ := h
  have hl := run_loadVar (P := P) hT he (w := σ.w) (ad := ⟨gg, 0, none⟩) (us := cur.toList) (by simp [h4]) (fun j u hj => by
    rw [Addr.add_lit, Nat.zero_add]
    simp at hj
    simp [World.cell?, h3, hj])
  exact ⟨_, cur, e1, by simpa using hl, cur, rfl, h4, h5⟩
theorem retL1c {t k : Nat} {T : TypeId} {fs : Array Field} {z : Value} {by_ : Nat} {ts : List Ty} (hr : fn.results = #[.cell t T]) (ok : Ok N a) (hF : FromL L σ0 σ) (hT : P.underlying T = some (.struct fs)) (he : Info P T z ts.length by_) (h : OwnP σ k (a.eval (.tmp t)) ts)
    (hR : ∀ v, (Ty.agg ts).has σ v → R v σ) : bodyPost P fn (RetL σ0 L R) .ret a σ.w := by
  obtain ⟨ad, cur, e2, hl, hv⟩ := run_cell hT he h
  refine bodyPost_ret (v := .agg cur) ?_ ok.defers ⟨_, σ, rfl, hF, rfl, hR _ hv⟩
  have e3 : a.tmps[t]?.getD undef = .pointer (some ad) := by rw [← e2, Array.getD_eq_getD_getElem?]
  simp [results, hr, e3, asAddr, hl]
theorem nil_has {α : Type} {f : α → Ty} {xs : List α} {σ : GW} (e : xs = []) : (Ty.lst f xs).has σ (.slice none 0 0) := by subst e; exact sl_nil
end Go.KL

/- How many rows are like patterns. -/
namespace Go.KL
abbrev Ty.str (s : ByteArray) : Ty := Ty.val (.string s)
end Go.KL

/- Rows whose elements are structs of c cells. -/
namespace Go.KL
open Go.RowKit
variable {P : Program} {d : Option Tmp} {ty : TypeId} {pos : String} {af : Array Edge} {g : Option (Nat × Bool)} {a : Act} {σ : GW}
/-! ### Patterns -/
end Go.KL

/- Plain maths: calls and touches. -/
namespace Go.KL
abbrev BCall := Int × List (List Int)
/-! ### Which calls may be -/
theorem drop_consD {α : Type} (d : α) {l : List α} {k : Nat} (h : k < l.length) : l.drop k = l.getD k d :: l.drop (k + 1) := by
  rw [List.drop_eq_getElem_cons h]; simp [h]
theorem take_snocD {α : Type} (d : α) {l : List α} {k : Nat} (h : k < l.length) : l.take (k + 1) = l.take k ++ [l.getD k d] := by
  rw [List.take_add_one]; simp [h]
theorem mem_getDD {α : Type} (d : α) {l : List α} {k : Nat} (h : k < l.length) : l.getD k d ∈ l := by
  rw [List.getD_eq_getElem?_getD, List.getElem?_eq_getElem h]; exact List.getElem_mem _
/-! ### The changes of a lead -/
/-! ### The rows of a touch -/
section
variable {nm : ByteArray} {n : Nat} {l : List (List Int)} {cs : List BCall} {leads : List Int}
end
/-! ### Which touches may be -/
end Go.KL

/- Closures over one variable; slices.Grow of nothing; cuts of rows of structs. -/
namespace Go.KL
open Go.RowKit
variable {P : Program} {d : Option Tmp} {ty : TypeId} {pos : String} {af : Array Edge} {g : Option (Nat × Bool)} {a : Act} {σ : GW}
/-! ### slices.Grow of nothing -/
/-! ### Cuts of rows of structs -/
/-! ### Signs of calls -/
end Go.KL

/- Plain maths: is a touch true? -/
namespace Go.KL
end Go.KL
namespace Go.KL
theorem getD_takeD {α : Type} (d : α) {l : List α} {m k : Nat} (h : k < m) : (l.take m).getD k d = l.getD k d := by
  rw [List.getD_eq_getElem?_getD, List.getD_eq_getElem?_getD, List.getElem?_take_of_lt h]
end Go.KL

/- Plain maths: names by their runes. -/
namespace Go.KL
end Go.KL

/- Literals of structs in rows of one's own. -/
namespace Go.KL
open Go.RowKit
variable {P : Program} {d : Option Tmp} {ty : TypeId} {pos : String} {af : Array Edge} {g : Option (Nat × Bool)} {a : Act} {σ : GW}
end Go.KL

/- Structs that are built of structs; 'append' of what is owned. -/
namespace Go.KL
open Go.RowKit
variable {P : Program}
theorem Own.src {σ : GW} {k : Nat} {e : TypeId} {c : Nat} {v : Value} {n : Nat} {ts : List Ty} (h : Own σ k e c v n ts) : ∃ ad cap b o, v = .slice ad n cap ∧ ts.length = n * c ∧ (ts = [] ∨ ad = some (⟨b, o, none⟩ : Addr)) ∧ Cells σ b o ts := by
  have hl := h.len
  obtain ⟨us, h1, h2, h3, h4⟩ := h
  rcases h1.2 with ⟨rfl, rfl⟩ | ⟨g, cap, cur, rfl, _⟩
  · have : ts = [] := List.eq_nil_of_length_eq_zero (by omega)
    subst this
    exact ⟨none, 0, 0, 0, rfl, by simp, .inl rfl, fun j T hj => by simp at hj⟩
  · refine ⟨_, cap, g, 0, rfl, hl, .inr rfl, fun j T hj => ?_⟩
    have hlt := (List.getElem?_eq_some_iff.1 hj).1
    have hu : us[j]? = some us[j] := by simp [show j < us.length by omega]
    refine ⟨us[j], ?_, h3 j T _ hj hu⟩
    have := h1.cells (g := g) rfl j _ hu
    rwa [Addr.add_lit] at this
variable {d : Option Tmp} {ty : TypeId} {pos : String} {af : Array Edge} {g : Option (Nat × Bool)} {a : Act} {σ : GW}
/-! ### Structs of structs -/
end Go.KL

/- Plain maths: touches that are searched. -/
namespace Go.KL
structure Qst where
  met : Nat
  found : List (List Int)
  full : Bool
section
variable (n : Nat) (l : List (List Int)) (cs : List BCall) (leads many : Nat)
end
section
variable {n : Nat} {l : List (List Int)} {cs : List BCall} {leads many : Nat}
/-! ### One lead more -/
/-! ### What was met -/
abbrev rkI (r : List Int) : Int := ((rankL r : Nat) : Int)
variable {nm : ByteArray}
/-! ### What is answered -/
end
end Go.KL
namespace Go.KL
section
variable {n : Nat} {l : List (List Int)} {cs : List BCall} {leads many f k : Nat} {path : List Int} {s0 s : Qst}
end
end Go.KL
namespace Go.KL
section
variable {n : Nat} {l : List (List Int)} {cs : List BCall} {leads many f k : Nat} {path : List Int} {s0 s : Qst} {nm : ByteArray}
end
end Go.KL

/- A callee that answers with what is new, called with what is owned. -/
namespace Go.KL
open Go.RowKit
variable {P : Program}
variable {d : Option Tmp} {ty : TypeId} {pos : String} {af : Array Edge} {g : Option (Nat × Bool)} {a : Act} {σ : GW}
end Go.KL

/- A region in whatever order, one operation of which writes: the others neither read nor write what it writes. -/
namespace Go.KL
open Go.RowKit
variable {P : Program}

def Ty.any : Ty := ⟨fun _ _ => True, fun _ h => h⟩

structure Mid3 (p d N : Nat) (W : List Nat) (B : Pr) (ops : Array Oper) (Φ : Nat → Ty) (a0 : Act) (σ0 : GW) (L : Nat → Bool) (a : Act) (σ : GW) : Prop where
  stp : StpL W σ0 σ
  stp0 : L p = false → Stp 0 σ0 σ
  ok : Ok N a
  done : ∀ j, L j = true → j ≠ p → rd ops (fun i => (Φ i).pr) j a σ
  donep : L p = true → B.has σ (a.eval (.tmp d))
  same : ∀ t, (∀ j, dstOf ops j = some t → L j = false) → a.eval (.tmp t) = a0.eval (.tmp t)

def Obl3 (P : Program) (N : Nat) (W : List Nat) (ops : Array Oper) (Φ : Nat → Ty) (a0 : Act) (σ0 : GW) (i : Nat) (o : Oper) : Prop :=
  ∀ a σ, StpL W σ0 σ → Ok N a → (∀ t, free ops i t = true → a.eval (.tmp t) = a0.eval (.tmp t)) → Deps ops (fun i => (Φ i).pr) a σ o.after.toList (Run P ops o a σ (Φ i).pr)
def OblW (P : Program) (N : Nat) (W : List Nat) (B : Pr) (ops : Array Oper) (Φ : Nat → Ty) (a0 : Act) (σ0 : GW) (i : Nat) (o : Oper) : Prop :=
  ∀ a σ, Stp 0 σ0 σ → Ok N a → (∀ t, free ops i t = true → a.eval (.tmp t) = a0.eval (.tmp t)) → Deps ops (fun i => (Φ i).pr) a σ o.after.toList (YldL W P o a σ (fun v τ => B.has τ v))
def Obls3 (P : Program) (p N : Nat) (W : List Nat) (B : Pr) (ops : Array Oper) (Φ : Nat → Ty) (a0 : Act) (σ0 : GW) : Nat → List Oper → Prop
  | _, [] => True
  | i, o :: l => (if i = p then OblW P N W B ops Φ a0 σ0 i o else Obl3 P N W ops Φ a0 σ0 i o) ∧ Obls3 P p N W B ops Φ a0 σ0 (i + 1) l
theorem Obls3.get {p N : Nat} {W : List Nat} {B : Pr} {ops : Array Oper} {Φ : Nat → Ty} {a0 : Act} {σ0 : GW} : ∀ (l : List Oper) (k : Nat), Obls3 P p N W B ops Φ a0 σ0 k l → ∀ j o, l[j]? = some o → (if k + j = p then OblW P N W B ops Φ a0 σ0 (k + j) o else Obl3 P N W ops Φ a0 σ0 (k + j) o)
  | [], _, _, j, o, h => by simp at h
  | x :: l, k, h, 0, o, hj => by simp at hj; subst hj; exact h.1
  | x :: l, k, h, j + 1, o, hj => by
    have := Obls3.get l (k + 1) h.2 j o (by simpa using hj)
    rwa [show k + 1 + j = k + (j + 1) by omega] at this
theorem Obls3.up {p N : Nat} {W : List Nat} {B : Pr} {ops : Array Oper} {Φ : Nat → Ty} {a0 : Act} {σ0 σ1 : GW} (hs : Stp 0 σ0 σ1) : ∀ (l : List Oper) (k : Nat), Obls3 P p N W B ops Φ a0 σ0 k l → Obls3 P p N W B ops Φ a0 σ1 k l
  | [], _, _ => trivial
  | x :: l, k, h => by
    refine ⟨?_, Obls3.up hs l (k + 1) h.2⟩
    have h1 := h.1
    split at h1
    · rename_i e; rw [if_pos e]; exact fun a σ hs' => h1 a σ (hs.trans hs')
    · rename_i e; rw [if_neg e]; exact fun a σ hs' => h1 a σ (hs.toL0.trans hs')

theorem Mid3.op {p d N : Nat} {W : List Nat} {B : Pr} {ops : Array Oper} {Φ : Nat → Ty} {a0 : Act} {σ0 : GW} {L : Nat → Bool} {a : Act} {σ : GW} {i : Nat} {o : Oper} {Q : Exit → Act → World → Prop} {K : Act → World → Prop}
    (hF : Form N ops) (h1 : 1 ∉ W) (hp : dstOf ops p = some d) (hΦ : ∀ e v, (Φ p).has e v) (hpg : ∀ o, ops[p]? = some o → o.guard = none) (hm : Mid3 p d N W B ops Φ a0 σ0 L a σ) (ho : ops[i]? = some o) (hL : L i = false)
    (hob : if i = p then OblW P N W B ops Φ a0 σ0 i o else Obl3 P N W ops Φ a0 σ0 i o)
    (hall : ∀ e ∈ o.after, Region.binds .any e = true → L e.on = true) (hclosed : ∀ (j : Nat) oj, ops[j]? = some oj → L j = true → ∀ e ∈ oj.after, Region.binds .any e = true → L e.on = true)
    (hK : ∀ a' σ', Mid3 p d N W B ops Φ a0 σ0 (fun j => L j || j == i) a' σ' → K a' σ'.w) : wpOp P ops Q i K a σ.w := by
  have hdi : dstOf ops i = o.dst := by simp [dstOf, ho]
  have hsame : ∀ t, free ops i t = true → a.eval (.tmp t) = a0.eval (.tmp t) := by
    intro t ht
    refine hm.same t fun j hj => ?_
    cases hLj : L j with
    | false => rfl
    | true =>
      exfalso
      unfold dstOf at hj
      obtain ⟨oj, hoj, hd⟩ := Option.bind_eq_some_iff.1 hj
      unfold free at ht
      have := (List.all_eq_true.1 ht) oj (List.mem_of_getElem? hoj)
      simp only [hd, bne_self_eq_false, Bool.false_or, List.any_eq_true, Bool.and_eq_true, beq_iff_eq] at this
      obtain ⟨e, he, hb, hon⟩ := this
      have := hclosed j oj (by simpa using hoj) hLj e (by simpa using he) hb
      rw [hon, hL] at this
      cases this
  have hdeps : ∀ e ∈ o.after.toList, Region.binds .any e = true → rd ops (fun i => (Φ i).pr) e.on a σ := fun e he hb => by
    by_cases hep : e.on = p
    · rw [hep]; unfold rd; rw [hp]; exact hΦ _ _
    · exact hm.done e.on (hall e (by simpa using he) hb) hep
  -- whatever step of whichever kind: what holds behind it
  have done' : ∀ v (τ : GW), σ.Le τ → (i ≠ p → (Φ i).has τ v) → ∀ j, (L j || j == i) = true → j ≠ p → rd ops (fun i => (Φ i).pr) j (a.put o.dst v) τ := by
    intro v τ hle hv j hLj hjp
    by_cases hji : j = i
    · subst hji
      unfold rd
      cases hd : dstOf ops j with
      | none => trivial
      | some d =>
        have : o.dst = some d := by rw [← hdi]; exact hd
        simp only [this]
        rw [eval_put_same hm.ok (hF.lt j d hd)]
        exact hv hjp
    · have hLj' : L j = true := by simpa [hji] using hLj
      have h0 := hm.done j hLj' hjp
      unfold rd at h0 ⊢
      cases hd : dstOf ops j with
      | none => trivial
      | some d =>
        rw [hd] at h0
        simp only at h0 ⊢
        rw [eval_put_ne (fun he => hji (hF.uniq j i d hd (by rw [hdi]; exact he)))]
        exact (Φ j).up hle h0
  have same' : ∀ v t, (∀ j, dstOf ops j = some t → (L j || j == i) = false) → (a.put o.dst v).eval (.tmp t) = a0.eval (.tmp t) := by
    intro v t ht
    have h1 : o.dst ≠ some t := fun he => by
      have := ht i (by rw [hdi]; exact he)
      simp at this
    rw [eval_put_ne h1]
    exact hm.same t fun j hj => by
      have := ht j hj
      simp at this
      exact this.1
  by_cases hip : i = p
  · subst hip
    rw [if_pos rfl] at hob
    have hy := Deps.elim o.after.toList hdeps (hob a σ (hm.stp0 hL) hm.ok hsame)
    unfold wpOp
    simp only [ho]
    have hw : Region.wanted o (yielded ops a.tmps) = true := by simp [Region.wanted, hpg o ho]
    rw [if_pos hw]
    refine .inl (hy K Q fun v τ hs hr => hK _ τ ⟨hm.stp.trans hs, fun h => (by simp at h), hm.ok.put _ _, done' v τ (hs.le h1) (fun h => absurd rfl h), fun _ => ?_, same' v⟩)
    have : o.dst = some d := by rw [← hdi]; exact hp
    rw [this, eval_put_same hm.ok (hF.lt i d hp)]
    exact hr
  · rw [if_neg hip] at hob
    have hrun := Deps.elim o.after.toList hdeps (hob a σ hm.stp hm.ok hsame)
    have next : ∀ v τ, Stp 0 σ τ → (Φ i).has τ v → K (a.put o.dst v) τ.w := by
      intro v τ hs hv
      refine hK _ τ ⟨hm.stp.trans hs.toL0, fun h => ?_, hm.ok.put _ _, done' v τ hs.le0 (fun _ => hv), fun h => ?_, same' v⟩
      · simp at h; exact (hm.stp0 h.1).trans hs
      · have hLp : L p = true := by simpa [Ne.symm hip] using h
        rw [eval_put_ne (fun he => hip (hF.uniq i p d (by rw [hdi]; exact he) hp))]
        exact B.up hs (hm.donep hLp)
    unfold wpOp
    simp only [ho]
    by_cases hw : Region.wanted o (yielded ops a.tmps) = true
    · rw [if_pos hw]
      exact .inl (hrun.1 hw K Q next)
    · rw [if_neg hw]
      exact next undef σ (Stp.refl _ _) (hrun.2 (by simpa using hw))

structure Half3 (m d N : Nat) (W : List Nat) (B : Pr) (ops : Array Oper) (Φ : Nat → Ty) (a0 : Act) (σ0 : GW) (a : Act) (σ : GW) : Prop where
  stp : StpL W σ0 σ
  ok : Ok N a
  done : ∀ j, j < m → rd ops (fun i => (Φ i).pr) j a σ
  donep : B.has σ (a.eval (.tmp d))
  same : ∀ t, ((ops.toList.take m).all fun o => o.dst != some t) = true → a.eval (.tmp t) = a0.eval (.tmp t)

theorem Mid3.half {m p d N : Nat} {W : List Nat} {B : Pr} {ops : Array Oper} {Φ : Nat → Ty} {a0 : Act} {σ0 : GW} {a : Act} {σ : GW} (h : Mid3 p d N W B ops Φ a0 σ0 (fun j => decide (j < m)) a σ) (hpm : p < m) (hp : dstOf ops p = some d) (hΦ : ∀ e v, (Φ p).has e v) : Half3 m d N W B ops Φ a0 σ0 a σ := by
  refine ⟨h.stp, h.ok, fun j hj => ?_, h.donep (by simpa using hpm), fun t ht => h.same t fun j hj => ?_⟩
  · by_cases hjp : j = p
    · rw [hjp]; unfold rd; rw [hp]; exact hΦ _ _
    · exact h.done j (by simpa using hj) hjp
  · by_cases hjm : j < m
    · obtain ⟨o, ho, hd⟩ := Option.bind_eq_some_iff.1 hj
      have := (List.all_eq_true.1 ht) o (List.mem_of_getElem? (i := j) (by rw [List.getElem?_take, if_pos hjm]; exact ho))
      simp [hd] at this
    · simpa using hjm

theorem Half3.kt {m d N : Nat} {W : List Nat} {B : Pr} {ops : Array Oper} {Φ : Nat → Ty} {a0 a : Act} {σ0 σ : GW} {T : Ty} {t : Nat} (h : Half3 m d N W B ops Φ a0 σ0 a σ) (h1 : 1 ∉ W) (k : T.has σ0 (a0.eval (.tmp t))) (ht : ((ops.toList.take m).all fun o => o.dst != some t) = true) : T.has σ (a.eval (.tmp t)) := by
  rw [h.same t ht]; exact T.up (h.stp.le h1) k
end Go.KL

/- A region in whatever order, of which one operation stores into what another one has made. -/
namespace Go.KL
open Go.RowKit
variable {P : Program}

/-! ### The operation that writes is a store into what an operation of the region has made -/
structure Mid4 (p q d N : Nat) (W : List Nat) (A B : Pr) (ops : Array Oper) (Φ : Nat → Ty) (a0 : Act) (σ0 : GW) (L : Nat → Bool) (a : Act) (σ : GW) : Prop where
  stp : StpL W σ0 σ
  stp0 : L p = false → Stp 0 σ0 σ
  ok : Ok N a
  done : ∀ j, L j = true → rd ops (fun i => (Φ i).pr) j a σ
  doneq : L q = true → L p = false → A.has σ (a.eval (.tmp d))
  donep : L p = true → B.has σ (a.eval (.tmp d))
  same : ∀ t, (∀ j, dstOf ops j = some t → L j = false) → a.eval (.tmp t) = a0.eval (.tmp t)

def OblQ (P : Program) (N : Nat) (A : Pr) (ops : Array Oper) (Φ : Nat → Ty) (a0 : Act) (σ0 : GW) (i : Nat) (o : Oper) : Prop :=
  ∀ a σ, Stp 0 σ0 σ → Ok N a → (∀ t, free ops i t = true → a.eval (.tmp t) = a0.eval (.tmp t)) → Deps ops (fun i => (Φ i).pr) a σ o.after.toList (Run P ops o a σ A)
def OblS (P : Program) (N d : Nat) (W : List Nat) (A B : Pr) (ops : Array Oper) (Φ : Nat → Ty) (a0 : Act) (σ0 : GW) (i : Nat) (o : Oper) : Prop :=
  ∀ a σ, Stp 0 σ0 σ → Ok N a → (∀ t, free ops i t = true → a.eval (.tmp t) = a0.eval (.tmp t)) → A.has σ (a.eval (.tmp d)) → Deps ops (fun i => (Φ i).pr) a σ o.after.toList (YldL W P o a σ (fun _ τ => B.has τ (a.eval (.tmp d))))
def Obls4 (P : Program) (p q d N : Nat) (W : List Nat) (A B : Pr) (ops : Array Oper) (Φ : Nat → Ty) (a0 : Act) (σ0 : GW) : Nat → List Oper → Prop
  | _, [] => True
  | i, o :: l => (if i = p then OblS P N d W A B ops Φ a0 σ0 i o else if i = q then OblQ P N A ops Φ a0 σ0 i o else Obl3 P N W ops Φ a0 σ0 i o) ∧ Obls4 P p q d N W A B ops Φ a0 σ0 (i + 1) l
theorem Obls4.get {p q d N : Nat} {W : List Nat} {A B : Pr} {ops : Array Oper} {Φ : Nat → Ty} {a0 : Act} {σ0 : GW} : ∀ (l : List Oper) (k : Nat), Obls4 P p q d N W A B ops Φ a0 σ0 k l → ∀ j o, l[j]? = some o →
    (if k + j = p then OblS P N d W A B ops Φ a0 σ0 (k + j) o else if k + j = q then OblQ P N A ops Φ a0 σ0 (k + j) o else Obl3 P N W ops Φ a0 σ0 (k + j) o)
  | [], _, _, j, o, h => by simp at h
  | x :: l, k, h, 0, o, hj => by simp at hj; subst hj; exact h.1
  | x :: l, k, h, j + 1, o, hj => by
    have := Obls4.get l (k + 1) h.2 j o (by simpa using hj)
    rwa [show k + 1 + j = k + (j + 1) by omega] at this
theorem Obls4.up {p q d N : Nat} {W : List Nat} {A B : Pr} {ops : Array Oper} {Φ : Nat → Ty} {a0 : Act} {σ0 σ1 : GW} (hs : Stp 0 σ0 σ1) : ∀ (l : List Oper) (k : Nat), Obls4 P p q d N W A B ops Φ a0 σ0 k l → Obls4 P p q d N W A B ops Φ a0 σ1 k l
  | [], _, _ => trivial
  | x :: l, k, h => by
    refine ⟨?_, Obls4.up hs l (k + 1) h.2⟩
    have h1 := h.1
    split at h1
    · rename_i e; rw [if_pos e]; exact fun a σ hs' => h1 a σ (hs.trans hs')
    · rename_i e
      rw [if_neg e]
      split at h1
      · rename_i e; rw [if_pos e]; exact fun a σ hs' => h1 a σ (hs.trans hs')
      · rename_i e; rw [if_neg e]; exact fun a σ hs' => h1 a σ (hs.toL0.trans hs')

theorem Mid4.op {p q d N : Nat} {W : List Nat} {A B : Pr} {ops : Array Oper} {Φ : Nat → Ty} {a0 : Act} {σ0 : GW} {L : Nat → Bool} {a : Act} {σ : GW} {i : Nat} {o : Oper} {Q : Exit → Act → World → Prop} {K : Act → World → Prop}
    (hF : Form N ops) (h1 : 1 ∉ W) (hp : dstOf ops p = none) (hq : dstOf ops q = some d) (hpq : p ≠ q) (hΦ : ∀ e v, (Φ q).has e v) (hpg : ∀ o, ops[p]? = some o → o.guard = none ∧ ∃ e ∈ o.after, Region.binds .any e = true ∧ e.on = q) (hm : Mid4 p q d N W A B ops Φ a0 σ0 L a σ) (ho : ops[i]? = some o) (hL : L i = false)
    (hpo : ∃ o, ops[p]? = some o)
    (hob : if i = p then OblS P N d W A B ops Φ a0 σ0 i o else if i = q then OblQ P N A ops Φ a0 σ0 i o else Obl3 P N W ops Φ a0 σ0 i o)
    (hall : ∀ e ∈ o.after, Region.binds .any e = true → L e.on = true) (hclosed : ∀ (j : Nat) oj, ops[j]? = some oj → L j = true → ∀ e ∈ oj.after, Region.binds .any e = true → L e.on = true)
    (hK : ∀ a' σ', Mid4 p q d N W A B ops Φ a0 σ0 (fun j => L j || j == i) a' σ' → K a' σ'.w) : wpOp P ops Q i K a σ.w := by
  have hdi : dstOf ops i = o.dst := by simp [dstOf, ho]
  have hsame : ∀ t, free ops i t = true → a.eval (.tmp t) = a0.eval (.tmp t) := by
    intro t ht
    refine hm.same t fun j hj => ?_
    cases hLj : L j with
    | false => rfl
    | true =>
      exfalso
      unfold dstOf at hj
      obtain ⟨oj, hoj, hd⟩ := Option.bind_eq_some_iff.1 hj
      unfold free at ht
      have := (List.all_eq_true.1 ht) oj (List.mem_of_getElem? hoj)
      simp only [hd, bne_self_eq_false, Bool.false_or, List.any_eq_true, Bool.and_eq_true, beq_iff_eq] at this
      obtain ⟨e, he, hb, hon⟩ := this
      have := hclosed j oj (by simpa using hoj) hLj e (by simpa using he) hb
      rw [hon, hL] at this
      cases this
  have hLpq : L p = true → L q = true := fun h => by
    obtain ⟨op, hop⟩ := hpo
    obtain ⟨_, e, he, hb, hon⟩ := hpg op hop
    rw [← hon]; exact hclosed p op hop h e he hb
  have hdeps : ∀ e ∈ o.after.toList, Region.binds .any e = true → rd ops (fun i => (Φ i).pr) e.on a σ := fun e he hb => hm.done e.on (hall e (by simpa using he) hb)
  have done' : ∀ v (τ : GW), σ.Le τ → ((Φ i).has τ v ∨ dstOf ops i = none) → ∀ j, (L j || j == i) = true → rd ops (fun i => (Φ i).pr) j (a.put o.dst v) τ := by
    intro v τ hle hv j hLj
    by_cases hji : j = i
    · subst hji
      unfold rd
      cases hd : dstOf ops j with
      | none => trivial
      | some d =>
        have : o.dst = some d := by rw [← hdi]; exact hd
        simp only [this]
        rw [eval_put_same hm.ok (hF.lt j d hd)]
        exact hv.resolve_right (by rw [hd]; simp)
    · have hLj' : L j = true := by simpa [hji] using hLj
      have h0 := hm.done j hLj'
      unfold rd at h0 ⊢
      cases hd : dstOf ops j with
      | none => trivial
      | some d =>
        rw [hd] at h0
        simp only at h0 ⊢
        rw [eval_put_ne (fun he => hji (hF.uniq j i d hd (by rw [hdi]; exact he)))]
        exact (Φ j).up hle h0
  have same' : ∀ v t, (∀ j, dstOf ops j = some t → (L j || j == i) = false) → (a.put o.dst v).eval (.tmp t) = a0.eval (.tmp t) := by
    intro v t ht
    have h1 : o.dst ≠ some t := fun he => by
      have := ht i (by rw [hdi]; exact he)
      simp at this
    rw [eval_put_ne h1]
    exact hm.same t fun j hj => by
      have := ht j hj
      simp at this
      exact this.1
  by_cases hip : i = p
  · subst hip
    rw [if_pos rfl] at hob
    obtain ⟨hg, e, he, hb, hon⟩ := hpg o ho
    have hLq : L q = true := by rw [← hon]; exact hall e he hb
    have hy := Deps.elim o.after.toList hdeps (hob a σ (hm.stp0 hL) hm.ok hsame (hm.doneq hLq hL))
    have hdn : o.dst = none := by rw [← hdi]; exact hp
    unfold wpOp
    simp only [ho]
    have hw : Region.wanted o (yielded ops a.tmps) = true := by simp [Region.wanted, hg]
    rw [if_pos hw]
    refine .inl (hy K Q fun v τ hs hr => hK _ τ ⟨hm.stp.trans hs, fun h => (by simp at h), hm.ok.put _ _, done' v τ (hs.le h1) (.inr hp), fun _ h => (by simp at h), fun _ => ?_, same' v⟩)
    rw [hdn]
    exact hr
  · rw [if_neg hip] at hob
    by_cases hiq : i = q
    · subst hiq
      rw [if_pos rfl] at hob
      have hLp : L p = false := by
        cases h : L p with
        | false => rfl
        | true => rw [hLpq h] at hL; cases hL
      have hrun := Deps.elim o.after.toList hdeps (hob a σ (hm.stp0 hLp) hm.ok hsame)
      have next : ∀ v τ, Stp 0 σ τ → A.has τ v → K (a.put o.dst v) τ.w := by
        intro v τ hs hv
        refine hK _ τ ⟨hm.stp.trans hs.toL0, fun _ => (hm.stp0 hLp).trans hs, hm.ok.put _ _, done' v τ hs.le0 (.inl (hΦ _ _)), fun _ _ => ?_, fun h => ?_, same' v⟩
        · have : o.dst = some d := by rw [← hdi]; exact hq
          rw [this, eval_put_same hm.ok (hF.lt i d hq)]
          exact hv
        · rw [hLp] at h
          simp at h; exact absurd h hpq
      unfold wpOp
      simp only [ho]
      by_cases hw : Region.wanted o (yielded ops a.tmps) = true
      · rw [if_pos hw]
        exact .inl (hrun.1 hw K Q next)
      · rw [if_neg hw]
        exact next undef σ (Stp.refl _ _) (hrun.2 (by simpa using hw))
    · rw [if_neg hiq] at hob
      have hrun := Deps.elim o.after.toList hdeps (hob a σ hm.stp hm.ok hsame)
      have hne : o.dst ≠ some d := fun he => hiq (hF.uniq i q d (by rw [hdi]; exact he) hq)
      have next : ∀ v τ, Stp 0 σ τ → (Φ i).has τ v → K (a.put o.dst v) τ.w := by
        intro v τ hs hv
        refine hK _ τ ⟨hm.stp.trans hs.toL0, fun h => ?_, hm.ok.put _ _, done' v τ hs.le0 (.inl hv), fun h h2 => ?_, fun h => ?_, same' v⟩
        · simp at h; exact (hm.stp0 h.1).trans hs
        · have hLq : L q = true := by simpa [Ne.symm hiq] using h
          have hLp : L p = false := by simp at h2; exact h2.1
          rw [eval_put_ne hne]
          exact A.up hs (hm.doneq hLq hLp)
        · have hLp : L p = true := by simpa [Ne.symm hip] using h
          rw [eval_put_ne hne]
          exact B.up hs (hm.donep hLp)
      unfold wpOp
      simp only [ho]
      by_cases hw : Region.wanted o (yielded ops a.tmps) = true
      · rw [if_pos hw]
        exact .inl (hrun.1 hw K Q next)
      · rw [if_neg hw]
        exact next undef σ (Stp.refl _ _) (hrun.2 (by simpa using hw))
end Go.KL

/- What a search finds: all, in order. -/
namespace Go.KL
section
variable {nm : ByteArray} {n : Nat} {l : List (List Int)} {cs : List BCall} {leads many : Nat}
end
theorem pair_getD {L : List (List Int)} {R : List Int → List Int → Prop} (h : L.Pairwise R) {i j : Nat} (hij : i < j) (hj : j < L.length) : R (L.getD i []) (L.getD j []) := by
  have := List.pairwise_iff_getElem.1 h i j (by omega) hj hij
  simpa [show i < L.length by omega, hj] using this
theorem behind {L : List (List Int)} (h : L.Pairwise fun a b => belowL a b = true) {m : Nat} (hm : 1 ≤ m) {g : List Int} (hg : g ∈ L) (hn : g ∉ L.take m) : (L.take m).length = m ∧ belowL ((L.take m).getD (m - 1) []) g = true := by
  have hg2 : g ∈ L.drop m := by
    rw [← List.take_append_drop m L, List.mem_append] at hg
    exact hg.resolve_left hn
  obtain ⟨j, hj, rfl⟩ := List.getElem_of_mem hg2
  rw [List.length_drop] at hj
  have hlen : (L.take m).length = m := by rw [List.length_take]; omega
  refine ⟨hlen, ?_⟩
  have := pair_getD h (i := m - 1) (j := m + j) (by omega) (by omega)
  rw [List.getElem_drop]
  rw [getD_takeD [] (by omega)]
  simpa [show m + j < L.length by omega] using this
/-! ### What is made of raw numbers -/
def bHunt : ByteArray := ByteArray.mk #[80, 108, 97, 105, 110, 32, 72, 117, 110, 116]
abbrev lHunt : List (List Int) := [[], [1, 4]]
end Go.KL

/- Rows that share an array: 'append' leaves alone what is ahead. -/
namespace Go.KL
open Go.RowKit
variable {P : Program}

variable {d : Option Tmp} {ty : TypeId} {pos : String} {af : Array Edge} {g : Option (Nat × Bool)} {a : Act} {σ : GW}

end Go.KL

/- 'append' to a fresh empty row, in any order with what stands beside it. -/
namespace Go.KL
open Go.RowKit
variable {P : Program}

variable {d : Option Tmp} {ty : TypeId} {pos : String} {af : Array Edge} {g : Option (Nat × Bool)} {a : Act} {σ : GW}
end Go.KL

/- Plain maths: lists in order, false heads. -/
namespace Go.KL
/-! ### The order of lists -/
theorem below_trans : ∀ {a b c : List Int}, belowL a b = true → belowL b c = true → belowL a c = true
  | [], b, [], h1, h2 => by cases b <;> simp [belowL] at h1 h2
  | [], _, _ :: _, _, _ => by simp [belowL]
  | x :: a, [], _, h1, _ => by simp [belowL] at h1
  | x :: a, y :: b, [], _, h2 => by simp [belowL] at h2
  | x :: a, y :: b, z :: c, h1, h2 => by
    rw [belowL] at h1 h2 ⊢
    by_cases e1 : x = y
    · subst e1
      rw [if_pos rfl] at h1
      by_cases e2 : x = z
      · rw [if_pos e2] at h2 ⊢; exact below_trans h1 h2
      · rw [if_neg e2] at h2 ⊢; exact h2
    · rw [if_neg e1, decide_eq_true_eq] at h1
      by_cases e2 : y = z
      · subst e2; rw [if_neg e1, decide_eq_true_eq]; exact h1
      · rw [if_neg e2, decide_eq_true_eq] at h2
        rw [if_neg (by omega), decide_eq_true_eq]; omega
theorem below_tri : ∀ {a b : List Int}, a ≠ b → belowL a b = true ∨ belowL b a = true
  | [], [], h => absurd rfl h
  | [], _ :: _, _ => by simp [belowL]
  | _ :: _, [], _ => by simp [belowL]
  | x :: a, y :: b, h => by
    rw [belowL, belowL]
    by_cases e : x = y
    · subst e
      rw [if_pos rfl, if_pos rfl]
      exact below_tri fun e => h (by rw [e])
    · rw [if_neg e, if_neg (Ne.symm e), decide_eq_true_eq, decide_eq_true_eq]; omega
theorem below_asym {a b : List Int} (h : belowL a b = true) : belowL b a = false := by
  cases e : belowL b a with
  | false => rfl
  | true => have := below_trans h e; rw [below_irr] at this; cases this
def leL (a b : List Int) : Bool := !belowL b a
theorem leL_total (a b : List Int) : (leL a b || leL b a) = true := by
  unfold leL
  cases e : belowL b a with
  | false => rfl
  | true => rw [below_asym e]; rfl
theorem leL_cases {a b : List Int} (h : leL a b = true) : a = b ∨ belowL a b = true := by
  by_cases e : a = b
  · exact .inl e
  · rcases below_tri e with h1 | h1
    · exact .inr h1
    · unfold leL at h; rw [h1] at h; cases h
theorem le_lt {a b c : List Int} (h : leL a b = true) (k : belowL b c = true) : belowL a c = true := by
  rcases leL_cases h with rfl | h
  · exact k
  · exact below_trans h k
theorem leL_trans (a b c : List Int) (h : leL a b = true) (k : leL b c = true) : leL a c = true := by
  rcases leL_cases k with rfl | k
  · exact h
  · have := le_lt h k
    unfold leL; rw [below_asym this]; rfl
theorem strict_one : ∀ {a b : List (List Int)}, a.Pairwise (fun x y => belowL x y = true) → b.Pairwise (fun x y => belowL x y = true) → (∀ x, x ∈ a ↔ x ∈ b) → a = b
  | [], b, _, _, h => by
    cases b with
    | nil => rfl
    | cons y b => have := (h y).2 (by simp); simp at this
  | x :: a, [], _, _, h => by have := (h x).1 (by simp); simp at this
  | x :: a, y :: b, h1, h2, h => by
    rw [List.pairwise_cons] at h1 h2
    have e : x = y := by
      rcases List.mem_cons.1 ((h x).1 (by simp)) with e | hx
      · exact e
      · rcases List.mem_cons.1 ((h y).2 (by simp)) with e | hy
        · exact e.symm
        · have := below_trans (h1.1 y hy) (h2.1 x hx)
          rw [below_irr] at this; cases this
    subst e
    rw [strict_one h1.2 h2.2 fun z => ?_]
    constructor
    · intro hz
      rcases List.mem_cons.1 ((h z).1 (by simp [hz])) with e | h3
      · subst e; have := h1.1 z hz; rw [below_irr] at this; cases this
      · exact h3
    · intro hz
      rcases List.mem_cons.1 ((h z).2 (by simp [hz])) with e | h3
      · subst e; have := h2.1 z hz; rw [below_irr] at this; cases this
      · exact h3
/-! ### Lists in order, merged -/
def ordF : Nat → List (List Int) → List (List Int)
  | 0, l => l
  | f + 1, l => if l.length < 2 then l else List.merge (ordF f (l.take (l.length / 2))) (ordF f (l.drop (l.length / 2))) leL
def ordS (l : List (List Int)) : List (List Int) := ordF l.length l
theorem ordF_any : ∀ (f : Nat) (l : List (List Int)) (g : Nat), l.length ≤ f → l.length ≤ g → ordF f l = ordF g l
  | 0, l, g, h1, _ => by
    obtain rfl : l = [] := List.eq_nil_of_length_eq_zero (by omega)
    cases g with
    | zero => rfl
    | succ g => rw [ordF, ordF, if_pos (by simp)]
  | f + 1, l, 0, _, h2 => by
    obtain rfl : l = [] := List.eq_nil_of_length_eq_zero (by omega)
    rw [ordF, ordF, if_pos (by simp)]
  | f + 1, l, g + 1, h1, h2 => by
    rw [ordF, ordF]
    by_cases h : l.length < 2
    · rw [if_pos h, if_pos h]
    · rw [if_neg h, if_neg h, ordF_any f (l.take (l.length / 2)) g (by rw [List.length_take]; omega) (by rw [List.length_take]; omega), ordF_any f (l.drop (l.length / 2)) g (by rw [List.length_drop]; omega) (by rw [List.length_drop]; omega)]
theorem ordS_small {l : List (List Int)} (h : l.length < 2) : ordS l = l := by
  unfold ordS
  cases e : l.length with
  | zero => rfl
  | succ k => rw [ordF, if_pos h]
theorem ordS_big {l : List (List Int)} (h : ¬ l.length < 2) : ordS l = List.merge (ordS (l.take (l.length / 2))) (ordS (l.drop (l.length / 2))) leL := by
  unfold ordS
  rw [ordF_any l.length l ((l.length - 1) + 1) (Nat.le_refl _) (by omega), ordF, if_neg h, ordF_any (l.length - 1) (l.take (l.length / 2)) (l.take (l.length / 2)).length (by rw [List.length_take]; omega) (Nat.le_refl _),
    ordF_any (l.length - 1) (l.drop (l.length / 2)) (l.drop (l.length / 2)).length (by rw [List.length_drop]; omega) (Nat.le_refl _)]
theorem ordS_facts : ∀ (n : Nat) (l : List (List Int)), l.length = n → (ordS l).Perm l ∧ (ordS l).Pairwise (fun x y => leL x y = true) := by
  intro n
  induction n using Nat.strongRecOn with
  | _ n ih =>
  intro l hl
  by_cases h : l.length < 2
  · rw [ordS_small h]
    refine ⟨List.Perm.refl _, ?_⟩
    match l, h with
    | [], _ => exact List.Pairwise.nil
    | [x], _ => exact List.pairwise_singleton _ _
    | _ :: _ :: _, h => simp at h; omega
  · rw [ordS_big h]
    obtain ⟨p1, s1⟩ := ih (l.take (l.length / 2)).length (by rw [List.length_take]; omega) _ rfl
    obtain ⟨p2, s2⟩ := ih (l.drop (l.length / 2)).length (by rw [List.length_drop]; omega) _ rfl
    refine ⟨(List.merge_perm_append leL).trans ?_, List.pairwise_merge leL_trans leL_total _ _ s1 s2⟩
    have := p1.append p2
    rwa [List.take_append_drop] at this
theorem ordS_perm (l : List (List Int)) : (ordS l).Perm l := (ordS_facts _ l rfl).1
theorem ordS_sort (l : List (List Int)) : (ordS l).Pairwise (fun x y => leL x y = true) := (ordS_facts _ l rfl).2
theorem ordS_len (l : List (List Int)) : (ordS l).length = l.length := (ordS_perm l).length_eq
/-! The steps of merging -/
/-! ### Each once -/
def onceTo (l : List (List Int)) : Nat → List (List Int)
  | 0 => []
  | k + 1 => if k = 0 ∨ l.getD k [] ≠ l.getD (k - 1) [] then onceTo l k ++ [l.getD k []] else onceTo l k
theorem mem_takeD {l : List (List Int)} {k : Nat} {x : List Int} : x ∈ l.take k ↔ ∃ j, j < k ∧ j < l.length ∧ l.getD j [] = x := by
  constructor
  · intro h
    obtain ⟨j, hj, rfl⟩ := List.getElem_of_mem h
    rw [List.length_take] at hj
    exact ⟨j, by omega, by omega, by rw [List.getElem_take]; simp [show j < l.length by omega]⟩
  · rintro ⟨j, h1, h2, rfl⟩
    rw [List.mem_take_iff_getElem]
    exact ⟨j, by omega, by simp [h2]⟩
theorem pair_getD' {L : List (List Int)} {R : List Int → List Int → Prop} (h : L.Pairwise R) {i j : Nat} (hij : i < j) (hj : j < L.length) : R (L.getD i []) (L.getD j []) := by
  have := List.pairwise_iff_getElem.1 h i j (by omega) hj hij
  simpa [show i < L.length by omega, hj] using this
theorem once_facts {l : List (List Int)} (h : l.Pairwise (fun x y => leL x y = true)) : ∀ k, k ≤ l.length → (onceTo l k).Pairwise (fun x y => belowL x y = true) ∧ ∀ x, x ∈ onceTo l k ↔ x ∈ l.take k
  | 0, _ => ⟨List.Pairwise.nil, fun x => by simp [onceTo]⟩
  | k + 1, hk => by
    obtain ⟨i1, i2⟩ := once_facts h k (by omega)
    rw [onceTo]
    split
    · rename_i hc
      refine ⟨?_, fun x => ?_⟩
      · rw [List.pairwise_append]
        refine ⟨i1, List.pairwise_singleton _ _, fun x hx y hy => ?_⟩
        rw [List.mem_singleton] at hy
        subst hy
        obtain ⟨j, h1, h2, rfl⟩ := mem_takeD.1 ((i2 x).1 hx)
        have hne := hc.resolve_left (by omega)
        have hle : leL (l.getD (k - 1) []) (l.getD k []) = true := pair_getD' h (by omega) (by omega)
        have hlt := (leL_cases hle).resolve_left (Ne.symm hne)
        by_cases e : j = k - 1
        · rw [e]; exact hlt
        · exact le_lt (pair_getD' h (show j < k - 1 by omega) (by omega)) hlt
      · rw [List.mem_append, List.mem_singleton, i2, take_snocD [] (by omega), List.mem_append, List.mem_singleton]
    · rename_i hc
      refine ⟨i1, fun x => ?_⟩
      rw [i2, take_snocD [] (by omega), List.mem_append, List.mem_singleton]
      refine ⟨.inl, fun h => h.elim id fun e => ?_⟩
      have hk0 : k ≠ 0 := fun e => hc (.inl e)
      have he : l.getD k [] = l.getD (k - 1) [] := Classical.byContradiction fun e => hc (.inr e)
      rw [e, he]
      exact mem_takeD.2 ⟨k - 1, by omega, by omega, rfl⟩
def onceL (E : List (List Int)) : List (List Int) := onceTo (ordS E) (ordS E).length
theorem onceL_sort (E : List (List Int)) : (onceL E).Pairwise (fun x y => belowL x y = true) := (once_facts (ordS_sort E) _ (Nat.le_refl _)).1
theorem mem_onceL {E : List (List Int)} {x : List Int} : x ∈ onceL E ↔ x ∈ E := by
  unfold onceL
  rw [(once_facts (ordS_sort E) _ (Nat.le_refl _)).2, List.take_length, (ordS_perm E).mem_iff]
theorem onceTo_len (l : List (List Int)) : ∀ k, (onceTo l k).length ≤ k
  | 0 => Nat.le_refl _
  | k + 1 => by
    have := onceTo_len l k
    rw [onceTo]; split
    · rw [List.length_append, List.length_singleton]; omega
    · omega
/-! ### False heads -/
def hhL (rows : List (List Int)) (i k : Nat) : List Int := byL (rows.getD i []) (undoL (rows.getD k []))
def enRow (rows : List (List Int)) (i k : Nat) : List (List Int) := ((List.range k).map (hhL rows i)).filter fun h => decide (rankL h ≠ 0)
def enTo (rows : List (List Int)) (m i : Nat) : List (List Int) := (List.range i).flatMap fun i => enRow rows i m
def sfRow (rows : List (List Int)) (i k : Nat) : Bool := (List.range k).any fun j => decide (rankL (hhL rows i j) = 0) && decide (i ≠ j)
def sfTo (rows : List (List Int)) (m i : Nat) : Bool := (List.range i).any fun i => sfRow rows i m
section
variable {rows : List (List Int)} {m i k : Nat}
theorem enRow_zero : enRow rows i 0 = [] := rfl
theorem enRow_no (h : rankL (hhL rows i k) = 0) : enRow rows i (k + 1) = enRow rows i k := by
  unfold enRow; rw [List.range_succ, List.map_append, List.filter_append]; simp [h]
theorem enRow_yes (h : ¬ rankL (hhL rows i k) = 0) : enRow rows i (k + 1) = enRow rows i k ++ [hhL rows i k] := by
  unfold enRow; rw [List.range_succ, List.map_append, List.filter_append]; simp [h]
theorem enTo_zero : enTo rows m 0 = [] := rfl
theorem enTo_succ : enTo rows m (i + 1) = enTo rows m i ++ enRow rows i m := by unfold enTo; rw [List.range_succ, List.flatMap_append]; simp
theorem sfRow_zero : sfRow rows i 0 = false := rfl
theorem sfRow_no (h : ¬ rankL (hhL rows i k) = 0) : sfRow rows i (k + 1) = sfRow rows i k := by
  unfold sfRow; rw [List.range_succ, List.any_append]; simp [h]
theorem sfRow_yes (h : rankL (hhL rows i k) = 0) : sfRow rows i (k + 1) = (sfRow rows i k || decide (((i : Nat) : Int) ≠ ((k : Nat) : Int))) := by
  unfold sfRow; rw [List.range_succ, List.any_append]
  have e : decide (((i : Nat) : Int) ≠ ((k : Nat) : Int)) = decide (i ≠ k) := by rw [decide_eq_decide]; omega
  rw [e]; simp [h]
theorem sfTo_succ : sfTo rows m (i + 1) = (sfTo rows m i || sfRow rows i m) := by unfold sfTo; rw [List.range_succ, List.any_append]; simp
theorem enRow_len : (enRow rows i k).length ≤ k := by
  unfold enRow
  refine Nat.le_trans (List.length_filter_le _ _) ?_
  simp
theorem enTo_len : ∀ i, (enTo rows m i).length ≤ i * m
  | 0 => by simp [enTo_zero]
  | i + 1 => by
    rw [enTo_succ, List.length_append, Nat.succ_mul]
    have h1 := enTo_len i
    have h2 := enRow_len (rows := rows) (i := i) (k := m)
    omega
theorem mem_enRow {x : List Int} : x ∈ enRow rows i k ↔ ∃ j, j < k ∧ hhL rows i j = x ∧ rankL x ≠ 0 := by
  unfold enRow
  rw [List.mem_filter, List.mem_map]
  constructor
  · rintro ⟨⟨j, h1, rfl⟩, h2⟩; exact ⟨j, List.mem_range.1 h1, rfl, by simpa using h2⟩
  · rintro ⟨j, h1, rfl, h2⟩; exact ⟨⟨j, List.mem_range.2 h1, rfl⟩, by simpa using h2⟩
theorem mem_enTo {x : List Int} {i : Nat} : x ∈ enTo rows m i ↔ ∃ a b, a < i ∧ b < m ∧ hhL rows a b = x ∧ rankL x ≠ 0 := by
  unfold enTo
  rw [List.mem_flatMap]
  constructor
  · rintro ⟨a, h1, h2⟩
    obtain ⟨j, h3, h4⟩ := mem_enRow.1 h2
    exact ⟨a, j, List.mem_range.1 h1, h3, h4⟩
  · rintro ⟨a, b, h1, h2, h3⟩
    exact ⟨a, List.mem_range.2 h1, mem_enRow.2 ⟨b, h2, h3⟩⟩
end
theorem hh_row {rows : List (List Int)} {i k n : Nat} (hi : IsRow (rows.getD i [])) (hk : IsRow (rows.getD k [])) (hl : (rows.getD i []).length = (rows.getD k []).length) (hn : (rows.getD k []).length = n) : IsRow (hhL rows i k) ∧ (hhL rows i k).length = n := by
  refine ⟨byL_row hi (undo_row hk).1 (by rw [undoL_len]; exact hl), ?_⟩
  show (List.map _ _).length = n
  rw [List.length_map, undoL_len]; exact hn
theorem hh_rows {rows : List (List Int)} {n : Nat} (h : ∀ i, i < rows.length → IsRow (rows.getD i []) ∧ (rows.getD i []).length = n) : ∀ x ∈ enTo rows rows.length rows.length, IsRow x ∧ x.length = n := fun x hx => by
  obtain ⟨a, b, h1, h2, rfl, _⟩ := mem_enTo.1 hx
  exact hh_row (h a h1).1 (h b h2).1 (by rw [(h a h1).2, (h b h2).2]) (h b h2).2
/-! ### Counted by rank -/
structure Cnt (E D : List (List Int)) (f : Int → Option Int) (c : Nat) : Prop where
  lo : ∀ x, 0 ≤ (f x).getD 0
  hi : ∀ x, (f x).getD 0 ≤ c
  pos : ∀ x, 0 < (f x).getD 0 ↔ ∃ h ∈ D, rkI h = x
  sub : ∀ h ∈ D, h ∈ E
  all : ∀ h ∈ E, ∃ d ∈ D, rankL d = rankL h
  apart : D.Pairwise fun a b => rankL a ≠ rankL b
theorem cnt_zero : Cnt [] [] (fun _ => none) 0 := ⟨fun _ => Int.le_refl _, fun _ => Int.le_refl _, fun x => by simp, fun h hh => by simp at hh, fun h hh => by simp at hh, List.Pairwise.nil⟩
theorem cnt_more {E D : List (List Int)} {f : Int → Option Int} {c c' : Nat} (h : Cnt E D f c) (hc : c ≤ c') : Cnt E D f c' := ⟨h.lo, fun x => by have := h.hi x; omega, h.pos, h.sub, h.all, h.apart⟩
theorem cnt_new {E D : List (List Int)} {f : Int → Option Int} {c : Nat} {r : List Int} (h : Cnt E D f c) (h1 : (f (rkI r)).getD 0 + 1 = 1) : Cnt (E ++ [r]) (D ++ [r]) (fun x_ => if x_ = rkI r then some ((f (rkI r)).getD 0 + 1) else f x_) (c + 1) := by
  have hn : ¬ ∃ d ∈ D, rkI d = rkI r := fun he => by have := (h.pos (rkI r)).2 he; omega
  refine ⟨fun x => ?_, fun x => ?_, fun x => ?_, fun d hd => ?_, fun d hd => ?_, ?_⟩
  · split
    · simp; omega
    · exact h.lo x
  · have := h.hi x
    split
    · simp; omega
    · omega
  · split
    · rename_i e
      simp only [Option.getD_some]
      exact ⟨fun _ => ⟨r, by simp, e.symm⟩, fun _ => by omega⟩
    · rename_i e
      rw [h.pos x]
      constructor
      · rintro ⟨d, h2, h3⟩; exact ⟨d, by simp [h2], h3⟩
      · rintro ⟨d, h2, h3⟩
        rcases List.mem_append.1 h2 with h2 | h2
        · exact ⟨d, h2, h3⟩
        · rw [List.mem_singleton] at h2; subst h2; exact absurd h3.symm e
  · rcases List.mem_append.1 hd with hd | hd
    · exact List.mem_append.2 (.inl (h.sub d hd))
    · exact List.mem_append.2 (.inr hd)
  · rcases List.mem_append.1 hd with hd | hd
    · obtain ⟨y, h2, h3⟩ := h.all d hd; exact ⟨y, by simp [h2], h3⟩
    · rw [List.mem_singleton] at hd; subst hd; exact ⟨d, by simp, rfl⟩
  · rw [List.pairwise_append]
    refine ⟨h.apart, List.pairwise_singleton _ _, fun x hx y hy e => ?_⟩
    rw [List.mem_singleton] at hy; subst hy
    exact hn ⟨x, hx, by unfold rkI; rw [e]⟩
theorem cnt_again {E D : List (List Int)} {f : Int → Option Int} {c : Nat} {r : List Int} (h : Cnt E D f c) (h1 : ¬ (f (rkI r)).getD 0 + 1 = 1) : Cnt (E ++ [r]) D (fun x_ => if x_ = rkI r then some ((f (rkI r)).getD 0 + 1) else f x_) (c + 1) := by
  have h0 := h.lo (rkI r)
  have hp : 0 < (f (rkI r)).getD 0 := by omega
  refine ⟨fun x => ?_, fun x => ?_, fun x => ?_, fun d hd => List.mem_append.2 (.inl (h.sub d hd)), fun d hd => ?_, h.apart⟩
  · split
    · simp; omega
    · exact h.lo x
  · have := h.hi x
    split
    · rename_i e; subst e; simp; omega
    · omega
  · split
    · rename_i e
      rw [e, ← h.pos (rkI r)]
      simp only [Option.getD_some]
      exact ⟨fun _ => hp, fun _ => by omega⟩
    · exact h.pos x
  · rcases List.mem_append.1 hd with hd | hd
    · exact h.all d hd
    · rw [List.mem_singleton] at hd; subst hd
      obtain ⟨y, h2, h3⟩ := (h.pos (rkI d)).1 hp
      exact ⟨y, h2, by unfold rkI at h3; omega⟩
theorem cnt_sorted {E D S : List (List Int)} {f : Int → Option Int} {c n : Nat} (h : Cnt E D f c) (hr : ∀ x ∈ E, IsRow x ∧ x.length = n) (hp : S.Perm D) (hs : S.Pairwise fun x y => leL x y = true) : S = onceL E := by
  have hd : S.Pairwise fun a b => rankL a ≠ rankL b := (hp.pairwise_iff (fun h => Ne.symm h)).2 h.apart
  refine strict_one ?_ (onceL_sort E) fun x => ?_
  · refine (hs.and hd).imp fun {a b} ⟨h1, h2⟩ => (leL_cases h1).resolve_left fun e => h2 (by rw [e])
  · rw [hp.mem_iff, mem_onceL]
    refine ⟨h.sub x, fun hx => ?_⟩
    obtain ⟨d, h1, h2⟩ := h.all x hx
    have e : d = x := rank_row_inj (hr d (h.sub d h1)).1 (hr x hx).1 (by rw [(hr d (h.sub d h1)).2, (hr x hx).2]) h2
    rw [← e]; exact h1
end Go.KL

/- Lists compared; a world that a reader leaves behind. -/
namespace Go.KL
open Go.RowKit Go.Sort
def cmpI (x y : Int) : Int := if x < y then -1 else if y < x then 1 else 0
def cmpL : List Int → List Int → Int
  | [], [] => 0
  | [], _ :: _ => -1
  | _ :: _, [] => 1
  | x :: a, y :: b => if cmpI x y ≠ 0 then cmpI x y else cmpL a b
theorem cmpI_zero {x y : Int} : cmpI x y = 0 ↔ x = y := by unfold cmpI; split <;> (try split) <;> omega
theorem cmpI_neg {x y : Int} : cmpI x y < 0 ↔ x < y := by unfold cmpI; split <;> (try split) <;> omega
theorem cmpL_lt : ∀ a b : List Int, decide (cmpL a b < 0) = belowL a b
  | [], [] => rfl
  | [], _ :: _ => by simp [cmpL, belowL]
  | _ :: _, [] => by simp [cmpL, belowL]
  | x :: a, y :: b => by
    rw [cmpL, belowL]
    by_cases h : x = y
    · rw [if_neg (by rw [Classical.not_not]; exact cmpI_zero.2 h), if_pos h]; exact cmpL_lt a b
    · rw [if_pos (fun e => h (cmpI_zero.1 e)), if_neg h, decide_eq_decide]; exact cmpI_neg
theorem cmp_step {a b : List Int} {i : Nat} {z : Int} (h : cmpL (a.drop i) (b.drop i) = z) (h1 : i < a.length) (h2 : i < b.length) (e : ¬ cmpI (a.getD i 0) (b.getD i 0) ≠ 0) : cmpL (a.drop (i + 1)) (b.drop (i + 1)) = z := by
  rw [drop_consD 0 h1, drop_consD 0 h2, cmpL, if_neg e] at h; exact h
theorem cmp_ne {a b : List Int} {i : Nat} {z : Int} (h : cmpL (a.drop i) (b.drop i) = z) (h1 : i < a.length) (h2 : i < b.length) (e : cmpI (a.getD i 0) (b.getD i 0) ≠ 0) : cmpI (a.getD i 0) (b.getD i 0) = z := by
  rw [drop_consD 0 h1, drop_consD 0 h2, cmpL, if_pos e] at h; exact h
theorem cmp_long {a b : List Int} {i : Nat} {z : Int} (h : cmpL (a.drop i) (b.drop i) = z) (h1 : i < a.length) (h2 : b.length ≤ i) : z = 1 := by
  rw [drop_consD 0 h1, List.drop_eq_nil_of_le h2, cmpL] at h; exact h.symm
theorem cmp_short {a b : List Int} {i : Nat} {z : Int} (h : cmpL (a.drop i) (b.drop i) = z) (h1 : a.length ≤ i) (h2 : i < b.length) : z = -1 := by
  rw [drop_consD 0 h2, List.drop_eq_nil_of_le h1, cmpL] at h; exact h.symm
theorem cmp_same {a b : List Int} {i : Nat} {z : Int} (h : cmpL (a.drop i) (b.drop i) = z) (h1 : a.length ≤ i) (h2 : b.length ≤ i) : z = 0 := by
  rw [List.drop_eq_nil_of_le h1, List.drop_eq_nil_of_le h2, cmpL] at h; exact h.symm
theorem world_grown {w w' : World} (h1 : w'.os = w.os) (h2 : w'.tape = w.tape) (h3 : w'.output = w.output) (h4 : w.drawn ≤ w'.drawn) (h5 : w.heap.size ≤ w'.heap.size) (h6 : ∀ b, b < w.heap.size → w'.heap[b]? = w.heap[b]?) :
    ∃ q os', w' = grow (w.drewN q) os' := by
  refine ⟨w'.drawn - w.drawn, w'.heap.extract w.heap.size w'.heap.size, ?_⟩
  obtain ⟨hp, tp, dr, os, op⟩ := w
  obtain ⟨hp', tp', dr', os', op'⟩ := w'
  simp only at h1 h2 h3 h4 h5 h6
  subst h1; subst h2; subst h3
  simp only [grow, World.drewN]
  have e : hp' = hp ++ hp'.extract hp.size hp'.size := by
    apply Array.ext_getElem?
    intro b
    rw [Array.getElem?_append]
    split
    · rename_i h; exact h6 b h
    · rename_i h
      rw [Array.getElem?_extract]
      by_cases hb : b < hp'.size
      · rw [if_pos (by omega)]; congr 1; omega
      · rw [if_neg (by omega), Array.getElem?_eq_none (by omega)]
  have e2 : dr' = dr + (dr' - dr) := by omega
  congr 1
end Go.KL

/- slices.SortFunc of a row of lists that is owned. -/
namespace Go.KL
open Go.RowKit Go.Sort Go.Shelf Go.Lib Go.Proofs
variable {P : Program}
def Elt (σ : GW) : Type := { p : Value × List Int // (Ty.ints p.2).has σ p.1 }
instance (σ : GW) : Inhabited (Elt σ) := ⟨⟨(.slice none 0 0, []), nil_has rfl⟩⟩
def Elt.enc {σ : GW} (x : Elt σ) : Value := x.1.1
def Elt.cf {σ : GW} (x y : Elt σ) : Int := cmpL x.1.2 y.1.2
theorem Elt.lt {σ : GW} (x y : Elt σ) : ltOf Elt.cf x y = belowL x.1.2 y.1.2 := cmpL_lt _ _
theorem Elt.swo (σ : GW) : SWO (ltOf (Elt.cf (σ := σ))) where
  irrefl x := by rw [Elt.lt, below_irr]
  trans x y z h1 h2 := by rw [Elt.lt] at *; exact below_trans h1 h2
  ntrans x y z h1 h2 := by
    rw [Elt.lt] at *
    have := leL_trans z.1.2 y.1.2 x.1.2 (by unfold leL; rw [h2]; rfl) (by unfold leL; rw [h1]; rfl)
    unfold leL at this; simpa using this
theorem Elt.one {σ : GW} : OneCell (Elt.enc (σ := σ)) := fun x => by
  obtain ⟨_, _, _, _, e, _⟩ := x.2
  unfold Elt.enc; rw [e]; rfl
theorem heap_sortWorld {α : Type} [Inhabited α] {enc : α → Value} {w : World} {blk off m : Nat} {dk : Array α} {os : Array Obj} {b : Nat} (hb : b < w.heap.size) : (sortWorld enc w blk off m dk os).heap[b]? = if blk = b then (w.heap[b]?).map (onCells (putCells enc off dk)) else w.heap[b]? := by
  unfold sortWorld
  rw [heap_grow_old _ _ (by simpa using hb)]
  unfold putRow mapBlock
  simp only [Array.getElem?_modify, heap_ahead]
theorem size_sortWorld {α : Type} [Inhabited α] {enc : α → Value} {w : World} {blk off m : Nat} {dk : Array α} {os : Array Obj} : w.heap.size ≤ (sortWorld enc w blk off m dk os).heap.size := by
  unfold sortWorld; rw [size_grow, Sort.size_putRow]; simp only [heap_ahead]; omega
theorem m_sort {d : Option Tmp} {ty : TypeId} {pos : String} {af : Array Edge} {gd : Option (Nat × Bool)} {a : Act} {σ : GW} {f g : FuncId} {fn : Func} {x : Operand} {tys : Array TypeId} {k : Nat} {e : TypeId} {v : Value} {D : List (List Int)} (hk : 2 ≤ k) (h : Own σ k e 1 v D.length (D.map Ty.ints)) (hx : a.eval x = v) (hD : D.length < 4611686018427387904)
    (hf : P.funcs[f]? = some fn) (hn : (fn.name == "runtime.NumGoroutine") = false) (hb : fn.body.isSome = true)
    (hS : ∀ (α : Type) [Inhabited α] (enc : α → Value), OneCell enc → ∀ (cf : α → α → Int), SWO (ltOf cf) → ∀ (blk off cap : Nat) (d : Array α) (w : World), CmpLays1 P g #[] enc cf blk off d.size w → Holds enc w blk off d → blk < w.heap.size → d.size < 4611686018427387904 →
      Calls P f #[.slice (some ⟨blk, off, none⟩) d.size cap, .func (.func g) #[] #[]] w fun e w' => e = .returned (.tuple #[]) ∧ ∃ d' n os, PermIn 0 d.size d d' ∧ SortedIn (ltOf cf) 0 d.size d' ∧ w' = sortWorld enc w blk off n d' os)
    (hN : ∀ (p : Option Addr) (cap : Nat) (fv : Value) (w : World), Calls P f #[.slice p 0 cap, fv] w fun e w' => e = .returned (.tuple #[]) ∧ w' = w)
    (hcmp : ∀ (σ : GW) (u w : Value) (xs ys : List Int), (Ty.ints xs).has σ u → (Ty.ints ys).has σ w → FnC P g #[u, w] σ (Ty.int (cmpL xs ys))) :
    YldL [k] P ⟨d, .call ⟨.value (.func f), #[x, .func g], tys⟩, ty, pos, af, gd⟩ a σ (fun _ τ => ∃ S : List (List Int), S.Perm D ∧ S.Pairwise (fun x y => leL x y = true) ∧ Own τ k e 1 v D.length (S.map Ty.ints)) := by
  intro K Q hk'
  have hr : (execOp a.eval ⟨d, .call ⟨.value (.func f), #[x, .func g], tys⟩, ty, pos, af, gd⟩).run P σ.w = .ok (.enter f #[v, .func (.func g) #[] #[]]) σ.w := by
    have hn' : ¬ fn.name = "runtime.NumGoroutine" := by simpa using hn
    have hb' : ¬ fn.body = none := by intro e; simp [e] at hb
    simp only [execOp, resolve, List.map_toArray, List.map_cons, List.map_nil, hx]
    simp [Act.eval, Deferred.ofValue, invoke, callFunc, hf, hn', hb', program, Sem.run, Sem.run_bind]
  unfold Oper.wp
  rw [hr]
  obtain ⟨us, ⟨hl, hc⟩, hl2, hty, hst⟩ := h
  rcases hc with ⟨rfl, hn0⟩ | ⟨gb, cap, cur, rfl, _, hg, hnc, hcm, hcs, htk⟩
  · refine Calls.mono (hN none 0 _ σ.w) ?_
    rintro e' w' ⟨rfl, rfl⟩
    have hD0 : D = [] := List.eq_nil_of_length_eq_zero hn0
    subst hD0
    exact hk' _ σ (StpL.refl _ _) ⟨[], List.Perm.refl _, List.Pairwise.nil, us, ⟨hl, .inl ⟨rfl, rfl⟩⟩, hl2, hty, hst⟩
  · have hgk := hst gb rfl
    have hgs := (Array.getElem?_eq_some_iff.1 hg).1
    rw [Nat.mul_one] at hl hcs htk
    rw [List.length_map] at hl2
    have hel : ∀ i : Fin D.length, (Ty.ints (D[i.1]'i.2)).has σ (us[i.1]'(by omega)) := fun i => hty i.1 _ _ (by simp) (by simp [hl])
    let dd : Array (Elt σ) := (List.ofFn fun i : Fin D.length => (⟨(us[i.1]'(by omega), D[i.1]'i.2), hel i⟩ : Elt σ)).toArray
    have hds : dd.size = D.length := by show (List.ofFn _).length = _; exact List.length_ofFn
    have hdg : ∀ j (hj : j < D.length), dd[j]! = ⟨(us[j]'(by omega), D[j]), hel ⟨j, hj⟩⟩ := fun j hj => by
      rw [getElem!_pos dd j (by omega)]; show (List.ofFn _)[j]'_ = _; exact List.getElem_ofFn _
    have hcu : ∀ j, j < D.length → cur[j]? = us[j]? := fun j hj => by
      rw [← htk, List.getElem?_take, if_pos hj]; simp
    have hH : Holds (Elt.enc (σ := σ)) σ.w gb 0 dd := fun j hj => by
      rw [hds] at hj
      rw [Nat.zero_add]
      constructor
      · rw [hdg j hj]
        simp only [World.cell?, hg]
        rw [hcu j hj]
        simp [Elt.enc, show j < us.length by omega]
      · simp [World.frozen?, hg]
    have hC : CmpLays1 P g #[] (Elt.enc (σ := σ)) Elt.cf gb 0 dd.size σ.w := fun m os dk _ x y => by
      let σ' : GW := ⟨sortWorld Elt.enc σ.w gb 0 m dk os, fun b => if σ.st b = 1 then 1 else 0, fun b hb => by
        refine Nat.lt_of_lt_of_le (σ.lt b ?_) size_sortWorld
        intro e; rw [e] at hb; simp at hb⟩
      have hle : σ.Le σ' := ⟨fun b hb => by show (if σ.st b = 1 then 1 else 0) = 1; rw [if_pos hb], fun b hb => by
        have := σ.lt b (by omega)
        show (sortWorld _ _ _ _ _ _ _).heap[b]? = _
        rw [heap_sortWorld this, if_neg (by rintro rfl; omega)]⟩
      refine Calls.mono (hcmp σ' x.1.1 y.1.1 x.1.2 y.1.2 (Ty.up _ hle x.2) (Ty.up _ hle y.2)) ?_
      rintro e' w' ⟨v', τ, rfl, hs, rfl, hv⟩
      have hv' : v' = .int .i64 (cmpL x.1.2 y.1.2) := hv
      subst hv'
      exact ⟨rfl, world_grown hs.os hs.tape hs.output hs.dr hs.size fun b hb => hs.blk b hb (.inl rfl)⟩
    have hcon := hS (Elt σ) Elt.enc Elt.one Elt.cf (Elt.swo σ) gb 0 cap dd σ.w hC hH hgs (by omega)
    rw [hds] at hcon
    refine Calls.mono hcon ?_
    rintro e' w' ⟨rfl, d', n', os, ⟨p1, _, p3⟩, hso, rfl⟩
    have hex : ∀ q : Array (Elt σ), q.size = D.length → (q.extract 0 D.length).toList = q.toList := fun q hq => by
      rw [← hq, Array.extract_size]
    rw [hex d' (by omega), hex dd hds] at p3
    have hmap : dd.toList.map (fun z => z.1.2) = D := by
      apply List.ext_getElem
      · rw [List.length_map]; exact hds
      · intro i h1 h2
        have h3 := hdg i h2
        rw [getElem!_pos dd i (by omega)] at h3
        rw [List.getElem_map, Array.getElem_toList, h3]
    have hlt : ∀ b, b < σ.w.heap.size → b < (sortWorld Elt.enc σ.w gb 0 n' d' os).heap.size := fun b hb => Nat.lt_of_lt_of_le hb size_sortWorld
    let ρ : GW := ⟨sortWorld Elt.enc σ.w gb 0 n' d' os, fun b => σ.st b, fun b hb => hlt b (σ.lt b hb)⟩
    have hne : ∀ b, σ.st b ≠ k → gb ≠ b := fun b hb e => hb (e ▸ hgk)
    have hst2 : StpL [k] σ ρ := ⟨rfl, rfl, rfl, by show σ.w.drawn ≤ σ.w.drawn + n'; omega, size_sortWorld, fun b hb hm => by
      show (sortWorld _ _ _ _ _ _ _).heap[b]? = _
      rw [heap_sortWorld hb, if_neg (hne b (by simpa using hm))], fun _ _ _ => rfl⟩
    refine hk' _ ρ hst2 ⟨d'.toList.map (fun z => z.1.2), ?_, ?_, ?_⟩
    · have := p3.map (fun z : Elt σ => z.1.2)
      rwa [hmap] at this
    · rw [List.pairwise_map, List.pairwise_iff_getElem]
      intro i j hi hj hij
      have hj' : j < d'.size := by simpa using hj
      have := hso i j (Nat.zero_le _) hij (by omega)
      rw [getElem!_pos d' i (by omega), getElem!_pos d' j hj', Elt.lt] at this
      unfold leL
      simp only [Array.getElem_toList, this, Bool.not_false]
    · have hd's : d'.size = D.length := by omega
      have hg2 : ρ.w.heap[gb]? = some (.cells (putCells Elt.enc 0 d' cur) e (0, 0)) := by
        show (sortWorld _ _ _ _ _ _ _).heap[gb]? = _
        rw [heap_sortWorld hgs, if_pos rfl, hg]; rfl
      have htake : (putCells Elt.enc 0 d' cur).toList.take (D.length * 1) = d'.toList.map Elt.enc := by
        rw [Nat.mul_one]
        apply List.ext_getElem
        · simp [putCells]; omega
        · intro i h1 h2
          simp only [List.length_map, Array.length_toList] at h2
          simp [putCells, h2]
      refine Own.intro (us := d'.toList.map Elt.enc) hg2 hgk hnc hcm (by simp [putCells, hcs]) htake (by simp) fun j T u hT hu => ?_
      rw [List.getElem?_map, List.getElem?_map] at hT
      rw [List.getElem?_map] at hu
      obtain ⟨z, hz⟩ : ∃ z, d'.toList[j]? = some z := by
        cases hq : d'.toList[j]? with
        | none => rw [hq] at hu; simp at hu
        | some z => exact ⟨z, rfl⟩
      rw [hz] at hT hu
      simp at hT hu
      subst hT; subst hu
      exact Ty.up _ (hst2.le (by simp; omega)) z.2
end Go.KL

/- Both proofs agree: a touch is true row by row just when it is by the heads of its leads. -/
namespace Go.KL
/-! ### Rows as a group -/
structure RowN (n : Nat) (r : List Int) : Prop where
  row : IsRow r
  len : r.length = n
theorem RowN.bd {n : Nat} {r : List Int} (h : RowN n r) : In n r := by have := h.row.bds; rwa [h.len] at this
theorem RowN.undo {n : Nat} {r : List Int} (h : RowN n r) : RowN n (undoL r) := ⟨(undo_row h.row).1, by rw [undoL_len, h.len]⟩
theorem RowN.by {n : Nat} {a b : List Int} (h : RowN n a) (k : RowN n b) : RowN n (byL a b) := ⟨byL_row h.row k.row (by rw [h.len, k.len]), by rw [byL_len, k.len]⟩
theorem by_as {n : Nat} (a : List Int) {b c : List Int} (hb : RowN n b) (hc : RowN n c) : byL a (byL b c) = byL (byL a b) c := byL_assoc a b c (by rw [hb.len]; exact hc.bd)
theorem undo_right {n : Nat} {r : List Int} (h : RowN n r) : byL r (undoL r) = roundsL n := by rw [(undo_row h.row).2, h.len]
theorem undo_undo {n : Nat} {r : List Int} (h : RowN n r) : undoL (undoL r) = r := by
  have e1 : byL r (byL (undoL r) (undoL (undoL r))) = r := by rw [undo_right h.undo, byL_rounds_right h.len]
  rw [by_as r h.undo h.undo.undo, undo_right h, byL_rounds_left h.undo.undo.bd] at e1
  exact e1
theorem undo_left {n : Nat} {r : List Int} (h : RowN n r) : byL (undoL r) r = roundsL n := by
  have := undo_right h.undo
  rwa [undo_undo h] at this
theorem by_cancel {n : Nat} {r x y : List Int} (hr : RowN n r) (hx : RowN n x) (hy : RowN n y) (h : byL r x = byL r y) : x = y := by
  have := congrArg (byL (undoL r)) h
  rwa [by_as _ hr hx, by_as _ hr hy, undo_left hr, byL_rounds_left hx.bd, byL_rounds_left hy.bd] at this
theorem rank_eq {n : Nat} {r s : List Int} (hr : RowN n r) (hs : RowN n s) (h : rankL r = rankL s) : r = s := rank_row_inj hr.row hs.row (by rw [hr.len, hs.len]) h
theorem rank_zero {n : Nat} {r : List Int} (hr : RowN n r) (h : rankL r = 0) : r = roundsL n := by rw [(rank_zero_iff hr.row).1 h, hr.len]
/-! ### A lead from its head -/
section
variable {nm : ByteArray} {n : Nat} {l : List (List Int)} {cs : List BCall} {p : List Int}
theorem sfTo_iff {rows : List (List Int)} {m i : Nat} : sfTo rows m i = true ↔ ∃ a b, a < i ∧ b < m ∧ rankL (hhL rows a b) = 0 ∧ a ≠ b := by
  unfold sfTo sfRow
  simp only [List.any_eq_true, List.mem_range, Bool.and_eq_true, decide_eq_true_eq]
  exact ⟨fun ⟨a, h1, b, h2, h3⟩ => ⟨a, b, h1, h2, h3⟩, fun ⟨a, b, h1, h2, h3⟩ => ⟨a, h1, b, h2, h3⟩⟩
theorem heads_row (h : MethOk nm n l) {R : List (List Int)} (hR : R = (fromL (roundsL n) l).take l.length) : ∀ x ∈ onceL (enTo R R.length R.length), IsRow x ∧ x.length = n := fun x hx => by
  have hRl : R.length = l.length := by rw [hR, List.length_take, fromL_len]; omega
  have h1 := h.n1
  refine hh_rows (fun i hi => ?_) x (mem_onceL.1 hx)
  rw [hR, getD_takeD [] (by omega), fromL_get (by omega)]
  exact curL_row (by omega) h.n2 h.ok i (by omega)
end
end Go.KL

/- Falseness is closed under what undoes it. -/
namespace Go.KL
/-! ### Falseness is closed under what undoes it -/
def seenBL (S : List (List Int)) : Int → Option Bool := fun x_ => if ∃ r ∈ S, rkI r = x_ then some true else none
theorem seenBL_nil : seenBL [] = fun _ => none := by funext x; simp [seenBL]
theorem seenBL_snoc (S : List (List Int)) (r : List Int) : (fun x_ => if x_ = rkI r then some true else seenBL S x_) = seenBL (S ++ [r]) := by
  funext x
  unfold seenBL
  by_cases e : x = rkI r
  · rw [if_pos e, if_pos ⟨r, by simp, e.symm⟩]
  · rw [if_neg e]
    by_cases h : ∃ s ∈ S, rkI s = x
    · obtain ⟨s, h1, h2⟩ := h
      rw [if_pos ⟨s, h1, h2⟩, if_pos ⟨s, by simp [h1], h2⟩]
    · rw [if_neg h, if_neg]
      rintro ⟨s, h1, h2⟩
      rcases List.mem_append.1 h1 with h1 | h1
      · exact h ⟨s, h1, h2⟩
      · rw [List.mem_singleton] at h1; subst h1; exact e h2.symm
structure FalseOk (n m : Nat) (F : List (List Int)) (SF : Bool) : Prop where
  len : F.length ≤ m * m
  one : m = 1 → F.length = 0 ∧ SF = false
  row : ∀ i, i < F.length → RowN n (F.getD i []) ∧ rankL (F.getD i []) ≠ 0
  apart : ∀ i j, j < i → i < F.length → rankL (F.getD j []) ≠ rankL (F.getD i [])
  undo : ∀ i, i < F.length → ∃ j, j < F.length ∧ F.getD j [] = undoL (F.getD i [])
theorem hh_undo {n : Nat} {rows : List (List Int)} {i k : Nat} (hi : RowN n (rows.getD i [])) (hk : RowN n (rows.getD k [])) : undoL (hhL rows i k) = hhL rows k i := by
  -- the undoing of x y is the only row that undoes it
  have h1 : RowN n (hhL rows i k) := hi.by hk.undo
  have h2 : RowN n (hhL rows k i) := hk.by hi.undo
  refine by_cancel h1 h1.undo h2 ?_
  rw [undo_right h1]
  unfold hhL
  rw [by_as _ hk hi.undo, ← by_as (rows.getD i []) hk.undo hk, undo_left hk, byL_rounds_right hi.len, undo_right hi]
theorem false_ok {nm : ByteArray} {n : Nat} {l : List (List Int)} (h : MethOk nm n l) {R : List (List Int)} (hR : R = (fromL (roundsL n) l).take l.length) : FalseOk n l.length (onceL (enTo R R.length R.length)) (sfTo R R.length R.length) := by
  have h1 := h.n1
  have hRl : R.length = l.length := by rw [hR, List.length_take, fromL_len]; omega
  have hx : ∀ j, j < R.length → RowN n (R.getD j []) := fun j hj => by
    have := curL_row (by omega) h.n2 h.ok j (by omega)
    rw [hR, getD_takeD [] (by omega), fromL_get (by omega)]; exact ⟨this.1, this.2⟩
  have hrow := heads_row h hR
  have hmem : ∀ i, i < (onceL (enTo R R.length R.length)).length → ∃ a b, a < R.length ∧ b < R.length ∧ hhL R a b = (onceL (enTo R R.length R.length)).getD i [] ∧ rankL ((onceL (enTo R R.length R.length)).getD i []) ≠ 0 := fun i hi => mem_enTo.1 (mem_onceL.1 (mem_getDD [] hi))
  refine ⟨?_, fun e => ?_, fun i hi => ?_, fun i j hji hi => ?_, fun i hi => ?_⟩
  · have h2 := onceTo_len (ordS (enTo R R.length R.length)) (ordS (enTo R R.length R.length)).length
    have h3 := enTo_len (rows := R) (m := R.length) R.length
    have h4 : (ordS (enTo R R.length R.length)).length = _ := ordS_len _
    unfold onceL
    rw [hRl] at *
    omega
  · have h00 : rankL (hhL R 0 0) = 0 := by
      unfold hhL; rw [undo_right (hx 0 (by omega))]; exact rank_rounds n
    have hR1 : R.length = 1 := by omega
    constructor
    · rcases Nat.eq_zero_or_pos (onceL (enTo R R.length R.length)).length with e0 | hp
      · exact e0
      exfalso
      obtain ⟨a, b, ha, hb, e1, e2⟩ := hmem 0 hp
      rw [← e1] at e2
      have ea : a = 0 := by omega
      have eb : b = 0 := by omega
      subst ea; subst eb
      exact e2 h00
    · rw [← Bool.not_eq_true, sfTo_iff]
      rintro ⟨a, b, ha, hb, _, hab⟩
      omega
  · obtain ⟨a, b, _, _, _, e⟩ := hmem i hi
    have := hrow _ (mem_getDD [] hi)
    exact ⟨⟨this.1, this.2⟩, e⟩
  · intro e
    have r1 := hrow _ (mem_getDD [] (show j < _ by omega))
    have r2 := hrow _ (mem_getDD [] hi)
    have e2 := rank_eq ⟨r1.1, r1.2⟩ ⟨r2.1, r2.2⟩ e
    have h2 := pair_getD' (onceL_sort (enTo R R.length R.length)) hji hi
    rw [e2, below_irr] at h2; cases h2
  · obtain ⟨a, b, ha, hb, e1, e2⟩ := hmem i hi
    have hu : undoL ((onceL (enTo R R.length R.length)).getD i []) = hhL R b a := by rw [← e1, hh_undo (hx a ha) (hx b hb)]
    have hne : rankL (hhL R b a) ≠ 0 := fun e0 => by
      have e3 := rank_zero ((hx b hb).by (hx a ha).undo) e0
      have h3 : RowN n (hhL R a b) := (hx a ha).by (hx b hb).undo
      have e4 : undoL (hhL R a b) = roundsL n := by rw [hh_undo (hx a ha) (hx b hb)]; exact e3
      have e5 : hhL R a b = roundsL n := by
        have h5 := undo_right h3
        rw [e4, byL_rounds_right h3.len] at h5; exact h5
      rw [← e1, e5, rank_rounds] at e2
      exact e2 rfl
    have hm : hhL R b a ∈ onceL (enTo R R.length R.length) := mem_onceL.2 (mem_enTo.2 ⟨b, a, hb, ha, rfl, hne⟩)
    obtain ⟨j, hj, e⟩ := List.getElem_of_mem hm
    exact ⟨j, hj, by rw [hu, ← e]; simp [hj]⟩
theorem seenBL_no {F : List (List Int)} {i : Nat} (hi : i < F.length) (h : ∀ i j, j < i → i < F.length → rankL (F.getD j []) ≠ rankL (F.getD i [])) : (seenBL (F.take i) (rkI (F.getD i []))).getD false = false := by
  unfold seenBL
  rw [if_neg]
  · rfl
  · rintro ⟨r, h1, h2⟩
    obtain ⟨j, h3, h4, rfl⟩ := mem_takeD.1 h1
    unfold rkI at h2
    exact h i j h3 hi (by omega)
theorem seenBL_yes {F : List (List Int)} {r : List Int} {j : Nat} (hj : j < F.length) (h : F.getD j [] = r) : (seenBL F (rkI r)).getD false = true := by
  unfold seenBL
  rw [if_pos ⟨r, by rw [← h]; exact mem_getDD [] hj, rfl⟩]; rfl
theorem hunt_m0 : methMay bHunt 4 lHunt = 0 := by decide +kernel
theorem hunt_h : onceL (enTo ((fromL (roundsL (4 : Int).toNat) lHunt).take lHunt.length) ((fromL (roundsL (4 : Int).toNat) lHunt).take lHunt.length).length ((fromL (roundsL (4 : Int).toNat) lHunt).take lHunt.length).length) = [[1, 0, 3, 2]] := by
  refine strict_one (onceL_sort _) (List.pairwise_singleton _ _) fun x => ?_
  have e : enTo ((fromL (roundsL (4 : Int).toNat) lHunt).take lHunt.length) ((fromL (roundsL (4 : Int).toNat) lHunt).take lHunt.length).length ((fromL (roundsL (4 : Int).toNat) lHunt).take lHunt.length).length = [[1, 0, 3, 2], [1, 0, 3, 2]] := by decide +kernel
  rw [mem_onceL, e]; simp
theorem hunt_s : sfTo ((fromL (roundsL (4 : Int).toNat) lHunt).take lHunt.length) ((fromL (roundsL (4 : Int).toNat) lHunt).take lHunt.length).length ((fromL (roundsL (4 : Int).toNat) lHunt).take lHunt.length).length = false := by decide +kernel
end Go.KL

/- From a row's reading of its arguments to semantic types, and from a law's contract back to the row. -/
namespace Go.KL
open Go.ChangeShapes Go.WideShapes Go.ChangeAt Go.RowKit Go.Deep
variable {P : Program}

def GW.all (W : World) : GW := ⟨W, fun b => if b < W.heap.size then 1 else 0, fun b h => by
  by_cases hb : b < W.heap.size
  · exact hb
  · simp [hb] at h⟩

structure Bulk {H : Type} (B : DataW H → Nat) (BA : List (DataW H) → Nat) : Prop where
  one : ∀ d, 1 ≤ B d
  str : ∀ l, B (.lit (.string l)) = l.length + 1
  slice : ∀ es sp, B (.slice es sp) = BA es + BA sp + 1
  agg : ∀ ps, B (.agg ps) = BA ps + 1
  nil : BA [] = 0
  cons : ∀ d r, BA (d :: r) = B d + BA r

def Rd (P : Program) (t : TypeId) {α : Type} (cells : α → List Ty) (wf : α → Prop) (sz : α → Nat) (rc : α → Prop) : Prop :=
  ∀ (H : Type) (enc : TypeId × Value → H) (B : DataW H → Nat) (BA : List (DataW H) → Nat), Bulk B BA → ∀ (W : World) (fuel : Nat) (cs : List Value) (d : DataW H) (ps : List MemPlace),
    DataW.trod enc P W 0 (fun _ => true) true fuel t cs = some (d, ps) → ∃ x : α, wf x ∧ sz x ≤ B d ∧ ((d.weights P t).all (· ≤ reachBytes) = true → rc x) ∧ cs.length = (cells x).length ∧
      ∀ (j : Nat) (T : Ty) (u : Value), (cells x)[j]? = some T → cs[j]? = some u → T.has (GW.all W) u

theorem one_cell {T : Ty} {v : Value} {σ : GW} (h : T.has σ v) : ∀ (j : Nat) (U : Ty) (u : Value), [T][j]? = some U → [v][j]? = some u → U.has σ u := by
  intro j U u h1 h2
  match j with
  | 0 => simp at h1 h2; subst h1; subst h2; exact h
  | j + 1 => simp at h1

theorem rd_int {t : TypeId} {k : IntKind} (ht : P.underlying t = some (.int k)) : Rd P t (fun n : Int => [Ty.val (.int k n)]) (fun n => (Lit.int k n).wf = true) (fun _ => 1) (fun _ => True) := by
  intro H enc B BA hB W fuel cs d ps h
  obtain ⟨n, rfl, e, hw⟩ := DataW.trod_int ht h
  obtain ⟨rfl, rfl⟩ := Prod.mk.inj e
  exact ⟨n, hw, hB.one _, fun _ => trivial, rfl, one_cell rfl⟩
theorem BA_map {H : Type} {B : DataW H → Nat} {BA : List (DataW H) → Nat} (hB : Bulk B BA) {α : Type} (sz : α → Nat) : ∀ (xs : List α) (D : List (DataW H)), xs.length = D.length → (∀ (i : Nat) x d, xs[i]? = some x → D[i]? = some d → sz x ≤ B d) → (xs.map sz).sum ≤ BA D
  | [], [], _, _ => by simp
  | x :: xs, d :: D, hl, h => by
    rw [hB.cons, List.map_cons, List.sum_cons]
    have h0 := h 0 x d rfl rfl
    have := BA_map hB sz xs D (by simpa using hl) (fun i y e hy he => h (i + 1) y e (by simpa using hy) (by simpa using he))
    omega

theorem weightsAll_mem {H : Type} {e : TypeId} : ∀ {D : List (DataW H)} {d : DataW H}, d ∈ D → ∀ n, n ∈ d.weights P e → n ∈ DataW.weightsAll P e D
  | x :: D, d, h, n, hn => by
    simp only [DataW.weightsAll, List.mem_append]
    rcases List.mem_cons.1 h with rfl | h
    · exact .inl hn
    · exact .inr (weightsAll_mem h n hn)

theorem spot_none {w : World} {a : Addr} {v : Value} (h : w.cell? a = some v) : a.spot = none := by
  unfold World.cell? at h
  split at h
  · split at h
    · cases h
    · rename_i hs; simpa using hs
  · cases h

theorem rd_slice {t e c : TypeId} {α : Type} {cells : α → List Ty} {wf : α → Prop} {sz : α → Nat} {rc : α → Prop} (ht : P.underlying t = some (.slice e)) (hc : P.cellsOf e = c) (hc0 : 0 < c) (he : Rd P e cells wf sz rc) (hcl : ∀ x, wf x → (cells x).length = c) :
    Rd P t (fun xs : List α => [Ty.sl c xs.length (xs.flatMap cells)]) (fun xs => xs.length ≤ maxLen ∧ ∀ x ∈ xs, wf x) (fun xs => (xs.map sz).sum + 1) (fun xs => xs.length * P.bytesOf e ≤ reachBytes ∧ ∀ x ∈ xs, rc x) := by
  intro H enc B BA hB W fuel cs d ps h
  rcases open_slice ht h with ⟨rfl, e1⟩ | ⟨a, len, cap, m, n, D, Pl, rfl, _, hlen, hcap, hm, e1, hel⟩
  · obtain ⟨rfl, rfl⟩ := Prod.mk.inj e1
    exact ⟨[], ⟨Nat.zero_le _, fun x h => by cases h⟩, by simpa using hB.one _, fun _ => ⟨by simp, fun x h => by cases h⟩, rfl, one_cell ⟨none, 0, 0, 0, rfl, ⟨Nat.le_refl _, by decide⟩, by simp, .inl rfl, fun j T hj => by simp at hj⟩⟩
  · obtain ⟨rfl, rfl⟩ := Prod.mk.inj e1
    subst hc
    simp only [if_true] at hm
    subst hm
    have hx : ∀ i : Fin len, ∃ x : α, ∃ cs' : List Value, W.cells? 0 (a.add (i * P.cellsOf e)) (P.cellsOf e) = some cs' ∧ wf x ∧ sz x ≤ B (D i) ∧ (((D i).weights P e).all (· ≤ reachBytes) = true → rc x) ∧ cs'.length = (cells x).length ∧
        ∀ (j : Nat) (T : Ty) (u : Value), (cells x)[j]? = some T → cs'[j]? = some u → T.has (GW.all W) u := by
      intro i
      obtain ⟨cs', h1, h2⟩ := hel i (by omega)
      obtain ⟨x, hx⟩ := he H enc B BA hB W n cs' _ _ h2
      exact ⟨x, cs', h1, hx⟩
    let f : Fin len → α := fun i => Classical.choose (hx i)
    have hf : ∀ i : Fin len, ∃ cs' : List Value, W.cells? 0 (a.add (i * P.cellsOf e)) (P.cellsOf e) = some cs' ∧ wf (f i) ∧ sz (f i) ≤ B (D i) ∧ (((D i).weights P e).all (· ≤ reachBytes) = true → rc (f i)) ∧ cs'.length = (cells (f i)).length ∧
        ∀ (j : Nat) (T : Ty) (u : Value), (cells (f i))[j]? = some T → cs'[j]? = some u → T.has (GW.all W) u := fun i => Classical.choose_spec (hx i)
    have hlf : (List.ofFn f).length = len := by simp
    have hget : ∀ (i : Nat) (x : α), (List.ofFn f)[i]? = some x → ∃ hi : i < len, x = f ⟨i, hi⟩ := fun i x h => by
      have hi : i < len := by have := (List.getElem?_eq_some_iff.1 h).1; simpa using this
      refine ⟨hi, ?_⟩
      rw [List.getElem?_ofFn] at h
      simp [hi] at h
      exact h.symm
    have hmem : ∀ x ∈ List.ofFn f, ∃ i : Fin len, x = f i := fun x h => by
      obtain ⟨i, hi⟩ := List.mem_iff_getElem?.1 h
      obtain ⟨hi', rfl⟩ := hget i x hi
      exact ⟨⟨i, hi'⟩, rfl⟩
    have hwf : ∀ x ∈ List.ofFn f, wf x := fun x h => by
      obtain ⟨i, rfl⟩ := hmem x h
      obtain ⟨_, _, h1, _⟩ := hf i
      exact h1
    have hflat : ∀ (xs : List α), (∀ x ∈ xs, wf x) → (xs.flatMap cells).length = xs.length * P.cellsOf e := fun xs h => by
      induction xs with
      | nil => simp
      | cons x xs ih =>
        rw [List.flatMap_cons, List.length_append, hcl x (h x (by simp)), ih (fun y hy => h y (by simp [hy])), List.length_cons, Nat.succ_mul]; omega
    refine ⟨List.ofFn f, ⟨by rw [hlf]; omega, hwf⟩, ?_, fun hr => ⟨?_, fun x h => ?_⟩, rfl, one_cell ?_⟩
    · rw [hB.slice]
      have := BA_map hB sz (List.ofFn f) ((List.range len).map D) (by simp) (fun i x d hx hd => by
        obtain ⟨hi, rfl⟩ := hget i x hx
        obtain ⟨_, _, _, h2, _⟩ := hf ⟨i, hi⟩
        rw [List.getElem?_map, List.getElem?_range hi] at hd
        simp at hd; subst hd; exact h2)
      show (List.map sz (List.ofFn f)).sum + 1 ≤ _
      omega
    · rw [hlf]
      have : (((List.range len).map D).length + ((List.range (m - len)).map fun j => D (len + j)).length) * P.bytesOf e ≤ reachBytes := by
        have := List.all_eq_true.1 hr _ (by simp only [DataW.weights, ht]; exact List.mem_cons_self)
        simpa using this
      refine Nat.le_trans (Nat.mul_le_mul_right _ ?_) this
      simp
    · obtain ⟨i, rfl⟩ := hmem x h
      obtain ⟨_, _, _, _, h3, _⟩ := hf i
      refine h3 (List.all_eq_true.2 fun k hk => ?_)
      refine List.all_eq_true.1 hr k ?_
      simp only [DataW.weights, ht]
      refine List.mem_cons_of_mem _ (List.mem_append.2 (.inl (weightsAll_mem (D := List.map D (List.range len)) (d := D i.val) (List.mem_map.2 ⟨i.val, List.mem_range.2 i.2, rfl⟩) k hk)))
    · -- the cells
      by_cases h0 : len = 0
      · have e0 : List.ofFn f = [] := List.eq_nil_of_length_eq_zero (by rw [hlf, h0])
        rw [e0, h0]
        exact ⟨some a, m, 0, 0, rfl, ⟨Nat.zero_le _, hcap⟩, by simp, .inl rfl, fun j T hj => by simp at hj⟩
      · have hcell : ∀ (i : Fin len) (k : Nat) (T : Ty), (cells (f i))[k]? = some T → ∃ u, W.cell? ((a.add (i * P.cellsOf e)).add k) = some u ∧ T.has (GW.all W) u := fun i k T hT => by
          obtain ⟨cs', h1, h2, _, _, h5, h6⟩ := hf i
          have hk : k < cs'.length := by rw [h5]; exact (List.getElem?_eq_some_iff.1 hT).1
          refine ⟨cs'[k], ?_, h6 k T _ hT (by simp [hk])⟩
          have hkc : k < P.cellsOf e := by rw [← hcl _ h2, ← h5]; exact hk
          unfold World.cells? at h1
          rw [if_pos (Nat.zero_le _)] at h1
          have := mapM_some_get h1 k k (by rw [List.getElem?_range hkc])
          rw [this]; simp [hk]
        have hspot : a.spot = none := by
          obtain ⟨cs', h1, h2, _, _, h5, h6⟩ := hf ⟨0, by omega⟩
          have h7 : 0 < (cells (f ⟨0, by omega⟩)).length := by rw [hcl _ h2]; exact hc0
          obtain ⟨u, hu, _⟩ := hcell ⟨0, by omega⟩ 0 _ (List.getElem?_eq_getElem h7)
          simp [Addr.add] at hu
          exact spot_none hu
        obtain ⟨ab, ao, asp⟩ := a
        simp only at hspot
        subst hspot
        have hlt : ab < W.heap.size := by
          obtain ⟨cs', h1, h2, _, _, h5, h6⟩ := hf ⟨0, by omega⟩
          have h7 : 0 < (cells (f ⟨0, by omega⟩)).length := by rw [hcl _ h2]; exact hc0
          obtain ⟨u, hu, _⟩ := hcell ⟨0, by omega⟩ 0 _ (List.getElem?_eq_getElem h7)
          simp [Addr.add] at hu
          exact World.block_lt_of_cell? _ _ hu
        refine ⟨some ⟨ab, ao, none⟩, m, ab, ao, by rw [hlf], ⟨by omega, hcap⟩, hflat _ hwf, .inr ⟨rfl, by simp [GW.all, hlt]⟩, fun j T hj => ?_⟩
        -- cell j is cell j % c of element j / c
        have key : ∀ (xs : List α) (o : Nat), (∀ x ∈ xs, wf x) → (∀ (i : Nat) x, xs[i]? = some x → ∀ (k : Nat) (T : Ty), (cells x)[k]? = some T → ∃ u, W.cell? ⟨ab, o + i * P.cellsOf e + k, none⟩ = some u ∧ T.has (GW.all W) u) →
            ∀ (j : Nat) (T : Ty), (xs.flatMap cells)[j]? = some T → ∃ u, W.cell? ⟨ab, o + j, none⟩ = some u ∧ T.has (GW.all W) u := by
          intro xs
          induction xs with
          | nil => intro o _ _ j T hj; simp at hj
          | cons x xs ih =>
            intro o hw hc j T hj
            rw [List.flatMap_cons] at hj
            have hlx := hcl x (hw x (by simp))
            by_cases hjl : j < (cells x).length
            · rw [List.getElem?_append_left hjl] at hj
              have := hc 0 x rfl j T hj
              simpa using this
            · rw [List.getElem?_append_right (by omega)] at hj
              have := ih (o + P.cellsOf e) (fun y hy => hw y (by simp [hy])) (fun i y hy k T hT => by
                have := hc (i + 1) y (by simpa using hy) k T hT
                rw [Nat.succ_mul] at this
                rw [show o + P.cellsOf e + i * P.cellsOf e + k = o + (i * P.cellsOf e + P.cellsOf e) + k by omega]
                exact this) _ T hj
              rw [hlx] at this hjl
              rwa [show o + P.cellsOf e + (j - P.cellsOf e) = o + j by omega] at this
        refine key (List.ofFn f) ao hwf (fun i x hx k T hT => ?_) j T hj
        obtain ⟨hi, rfl⟩ := hget i x hx
        have := hcell ⟨i, hi⟩ k T hT
        simp only [Addr.add_lit] at this
        exact this

theorem Rd.conv {t : TypeId} {α β : Type} {cells : α → List Ty} {wf : α → Prop} {sz : α → Nat} {rc : α → Prop} {cells' : β → List Ty} {wf' : β → Prop} {sz' : β → Nat} {rc' : β → Prop} (h : Rd P t cells wf sz rc) (g : α → β)
    (hg : ∀ x, wf x → wf' (g x) ∧ sz' (g x) ≤ sz x ∧ (rc x → rc' (g x)) ∧ cells' (g x) = cells x) : Rd P t cells' wf' sz' rc' := by
  intro H enc B BA hB W fuel cs d ps ht
  obtain ⟨x, h1, h2, h3, h4, h5⟩ := h H enc B BA hB W fuel cs d ps ht
  obtain ⟨g1, g2, g3, g4⟩ := hg x h1
  exact ⟨g x, g1, Nat.le_trans g2 h2, fun h => g3 (h3 h), by rw [g4]; exact h4, by rw [g4]; exact h5⟩

theorem flatMap_one {α : Type} (f : α → Ty) (xs : List α) : xs.flatMap (fun x => [f x]) = xs.map f := by
  induction xs with
  | nil => rfl
  | cons x xs ih => simp [ih]

theorem rd_lst {t e : TypeId} {α : Type} {f : α → Ty} {wf : α → Prop} {sz : α → Nat} {rc : α → Prop} (ht : P.underlying t = some (.slice e)) (hc : P.cellsOf e = 1) (he : Rd P e (fun x => [f x]) wf sz rc) :
    Rd P t (fun xs : List α => [Ty.lst f xs]) (fun xs => xs.length ≤ maxLen ∧ ∀ x ∈ xs, wf x) (fun xs => (xs.map sz).sum + 1) (fun xs => xs.length * P.bytesOf e ≤ reachBytes ∧ ∀ x ∈ xs, rc x) :=
  (rd_slice ht hc (by decide) he (fun _ _ => rfl)).conv id fun x h => ⟨h, Nat.le_refl _, id, by simp [flatMap_one, Ty.lst]⟩

/-! ### Back to the row -/
theorem trodAll_stays {H : Type} {enc : TypeId × Value → H} (hl : laidOutB P = true) {W W' : World} (hb : Below W.heap.size W W') : ∀ {ts : List TypeId} {vs : List Value} {ds : List (DataW H)} {ps : List MemPlace},
    DataW.TrodAll enc P W 0 (fun _ => true) true ts vs ds ps → (ts.all fun t => P.readableRec t && decide (t < P.types.size)) = true → (∀ x ∈ ps, x.block < W.heap.size) → DataW.TrodAll enc P W' 0 (fun b => decide (b < W.heap.size)) true ts vs ds ps
  | [], [], [], ps, h, _, _ => h
  | t :: ts, v :: vs, d :: ds, ps, h, ha, hp => by
    obtain ⟨p, q, h1, h2, rfl⟩ := h
    simp only [List.all_cons, Bool.and_eq_true, decide_eq_true_eq] at ha
    exact ⟨p, q, Below.trod hl ha.1.1 ha.1.2 h1 hb (fun x hx => hp x (List.mem_append.2 (.inl hx))), trodAll_stays hl hb h2 ha.2 (fun x hx => hp x (List.mem_append.2 (.inr hx))), rfl⟩
  | [], [], _ :: _, _, h, _, _ => h.elim
  | [], _ :: _, _, _, h, _, _ => h.elim
  | _ :: _, [], _, _, h, _, _ => h.elim
  | _ :: _, _ :: _, [], _, h, _, _ => h.elim

theorem law_post {H : Type} {enc : TypeId × Value → H} {fn : Func} {f : FuncId} {s : ChangeSpec} {W : World} {args : Array Value} {ds gs : List (DataW H)} {before : List MemPlace} {tb : TypeId}
    (hres : fn.resultTypes = #[tb]) (hb : P.underlying tb = some .bool) (hl : laidOutB P = true) (hr : (fn.params.toList.all fun t => P.readableRec t && decide (t < P.types.size)) = true)
    (hW : DataW.Whole enc P fn.params.toList s.vars false W args.toList ds gs before) (hv : s.vars = []) (hs : s.fn H (ds ++ gs) = { results := [.lit (.bool true)], args := ds })
    (hc : FnC P f args (GW.all W) (Ty.bool true)) : Calls P f args W fun e W' => ∃ v, e = .returned v ∧ s.post enc P fn false true false false W args v W' := by
  refine Calls.mono hc ?_
  rintro e W' ⟨v, τ, rfl, hstp, rfl, hvv⟩
  have hbel : Below W.heap.size W τ.w := ⟨hstp.os, hstp.tape, hstp.output, hstp.size, fun k hk => hstp.blk k hk (.inl rfl)⟩
  have hW' := hW
  obtain ⟨p, q, hA, hV, rfl, _, _⟩ := hW
  have hq : q = [] := by
    rw [hv] at hV
    cases gs with
    | nil => exact hV
    | cons _ _ => exact hV.elim
  subst hq
  have hgs : gs = [] := by
    rw [hv] at hV
    cases gs with
    | nil => rfl
    | cons _ _ => exact hV.elim
  subst hgs
  have hvv' : v = .bool true := hvv
  subst hvv'
  refine ⟨_, rfl, ds, [], _, [], p, [], hW', ?_, ?_, ?_, hbel.frame _, fun h => by cases h⟩
  · rw [hs, hres]
    exact trodAll_mk1 (shut_bool hb true)
  · rw [hs]
    exact trodAll_stays hl hbel hA hr (fun x hx => hW'.lt x (List.mem_append.2 (.inl hx)))
  · rw [hs, hv]; rfl

theorem arg_one {H : Type} {enc : TypeId × Value → H} {B : DataW H → Nat} {BA : List (DataW H) → Nat} (hB : Bulk B BA) {W : World} {t : TypeId} {v : Value} {d : DataW H} {ps : List MemPlace} {α : Type} {T : α → Ty} {wf : α → Prop} {sz : α → Nat} {rc : α → Prop}
    (h : Rd P t (fun x => [T x]) wf sz rc) (hone : v.cells = #[v]) (ht : DataW.Trod enc P W 0 (fun _ => true) true t v d ps) : ∃ x : α, wf x ∧ sz x ≤ B d ∧ ((d.weights P t).all (· ≤ reachBytes) = true → rc x) ∧ (T x).has (GW.all W) v := by
  obtain ⟨fuel, hf⟩ := ht
  rw [hone] at hf
  obtain ⟨x, h1, h2, h3, _, h5⟩ := h H enc B BA hB W fuel _ d ps hf
  exact ⟨x, h1, h2, h3, h5 0 _ _ rfl rfl⟩
theorem one_slice {e : TypeId} {w : World} {r : Reach} {base : Nat} {t : TypeId} {v : Value} (ht : P.underlying t = some (.slice e)) (h : Value.okWide P w r base t v) : v.cells = #[v] := by
  obtain ⟨a, l, c, rfl⟩ := okWide_slice ht h; rfl
theorem one_int {k : IntKind} {w : World} {r : Reach} {base : Nat} {t : TypeId} {v : Value} (ht : P.underlying t = some (.int k)) (h : Value.okWide P w r base t v) : v.cells = #[v] := by
  obtain ⟨s, rfl⟩ := okWide_int ht h; rfl
theorem weightsEach_cons {H : Type} {t : TypeId} {ts : List TypeId} {d : DataW H} {ds : List (DataW H)} (h : (DataW.weightsEach P (t :: ts) (d :: ds)).all (· ≤ reachBytes) = true) : (d.weights P t).all (· ≤ reachBytes) = true ∧ (DataW.weightsEach P ts ds).all (· ≤ reachBytes) = true := by
  simpa [DataW.weightsEach, List.all_append] using h
theorem i64_bd {n : Int} (h : (Lit.int .i64 n).wf = true) : -9223372036854775808 ≤ n ∧ n ≤ 9223372036854775807 := by
  simp [Lit.wf, IntKind.min, IntKind.max, IntKind.signed, IntKind.bits] at h
  omega
end Go.KL

