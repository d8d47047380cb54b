/- All rows, each once: the way that is looked for; what rows may generate. -/
import Derived.Test.YtlhnpkaohfoicaaKlRank
namespace Go.KL
theorem place_mul {r : List Int} {i k : Nat} (h12 : r.length ≤ 12) (h : i < r.length) (hk : k * fct (r.length - i) + rankL (r.drop i) = rankL r) :
    0 ≤ ((k : Nat) : Int) * (((r.length - i : Nat)) : Int) ∧ ((k : Nat) : Int) * (((r.length - i : Nat)) : Int) ≤ 479001600 ∧ k * (r.length - i) ≤ 479001600 := by
  have h1 := place_step h hk
  have h2 := fct_pos (r.length - (i + 1))
  have h3 := rankL_lt r
  have h4 := fct_le12 h12
  have h5 : (k * (r.length - i) + lessN (r.getD i 0) (r.drop (i + 1))) * 1 ≤ (k * (r.length - i) + lessN (r.getD i 0) (r.drop (i + 1))) * fct (r.length - (i + 1)) := Nat.mul_le_mul_left _ h2
  rw [← Int.natCast_mul]
  omega
theorem rank_mul {r : List Int} {i k : Nat} (h12 : r.length ≤ 12) (h : i < r.length) (hk : k + rankL (r.drop i) = rankL r) :
    lessN (r.getD i 0) (r.drop (i + 1)) * fct (r.length - 1 - i) ≤ 479001600 ∧ ((lessN (r.getD i 0) (r.drop (i + 1)) : Nat) : Int) * ((fct (r.length - 1 - i) : Nat) : Int) ≤ 479001600 ∧ 0 ≤ ((lessN (r.getD i 0) (r.drop (i + 1)) : Nat) : Int) * ((fct (r.length - 1 - i) : Nat) : Int) := by
  have h1 := rank_step' h hk
  have h3 := rankL_lt r
  have h4 := fct_le12 h12
  rw [← Int.natCast_mul]
  omega
theorem fct_small {n : Nat} (h : n < 2) : fct n = 1 := by
  match n, h with
  | 0, _ => rfl
  | 1, _ => rfl
theorem fct_all {n j : Nat} (h1 : 1 ≤ j) (h2 : j ≤ n ∨ j = 1) (h3 : n < j + 1) : fct j = fct n := by
  by_cases h : n < 2
  · rw [fct_small h, fct_small (by omega)]
  · rw [show j = n by omega]
theorem fct_rec {n : Nat} (h : ¬ n < 2) : n * fct (n - 1) = fct n := by
  obtain ⟨q, rfl⟩ : ∃ q, n = q + 1 := ⟨n - 1, by omega⟩
  rfl
theorem rank_le12 {r : List Int} (h : r.length ≤ 12) : rankL r < 479001600 := Nat.lt_of_lt_of_le (rankL_lt r) (fct_le12 h)

/-! ### What may generate -/
def gensTo (n : Int) : List (List Int) → Int
  | [] => 0
  | g :: l => if rowMay g ≠ 0 then rowMay g else if ((g.length : Nat) : Int) ≠ n then 1 else gensTo n l
def gensMay (n : Int) (l : List (List Int)) : Int := if n < 1 ∨ 12 < n ∨ 8 < l.length then 1 else gensTo n l
theorem gens_step {n e : Int} {l : List (List Int)} {k : Nat} (h : gensTo n (l.drop k) = e) (hk : k < l.length) (h1 : ¬ rowMay (l.getD k []) ≠ 0) (h2 : ¬ (((l.getD k []).length : Nat) : Int) ≠ n) : gensTo n (l.drop (k + 1)) = e := by
  rw [drop_cons0 hk, gensTo, if_neg h1, if_neg h2] at h; exact h
theorem gens_row {n e : Int} {l : List (List Int)} {k : Nat} (h : gensTo n (l.drop k) = e) (hk : k < l.length) (h1 : rowMay (l.getD k []) ≠ 0) : rowMay (l.getD k []) = e := by
  rw [drop_cons0 hk, gensTo, if_pos h1] at h; exact h
theorem gens_cnt {n e : Int} {l : List (List Int)} {k : Nat} (h : gensTo n (l.drop k) = e) (hk : k < l.length) (h1 : ¬ rowMay (l.getD k []) ≠ 0) (h2 : (((l.getD k []).length : Nat) : Int) ≠ n) : 1 = e := by
  rw [drop_cons0 hk, gensTo, if_neg h1, if_pos h2] at h; exact h
theorem gens_end {n e : Int} {l : List (List Int)} {k : Nat} (h : gensTo n (l.drop k) = e) (hk : l.length ≤ k) : 0 = e := by
  rw [List.drop_eq_nil_of_le hk] at h; exact h
theorem gensMay_no {n : Int} {l : List (List Int)} (h : n < 1 ∨ 12 < n ∨ 8 < l.length) : gensMay n l = 1 := if_pos h
theorem gensMay_to {n : Int} {l : List (List Int)} (h : ¬ (n < 1 ∨ 12 < n ∨ 8 < l.length)) : gensTo n (l.drop 0) = gensMay n l := by
  unfold gensMay; rw [if_neg h]; rfl
theorem gensTo_ok {n : Int} : ∀ {l : List (List Int)}, gensTo n l = 0 → ∀ g ∈ l, IsRow g ∧ ((g.length : Nat) : Int) = n
  | [], _, g, hg => by cases hg
  | x :: l, h, g, hg => by
    rw [gensTo] at h
    split at h
    · contradiction
    · rename_i h1
      split at h
      · cases h
      · rename_i h2
        rcases List.mem_cons.1 hg with rfl | hg
        · exact ⟨rowMay_ok.1 (Classical.not_not.1 h1), Classical.not_not.1 h2⟩
        · exact gensTo_ok h g hg
theorem gensMay_ok {n : Int} {l : List (List Int)} (h : gensMay n l = 0) : (1 ≤ n ∧ n ≤ 12 ∧ l.length ≤ 8) ∧ ∀ k, k < l.length → IsRow (l.getD k []) ∧ (((l.getD k []).length : Nat) : Int) = n := by
  unfold gensMay at h
  split at h
  · cases h
  · rename_i hc
    refine ⟨by omega, fun k hk => gensTo_ok h _ ?_⟩
    simp [hk]

/-! ### The order of a row, taken again and again -/
theorem ordTo_least {r : List Int} (hr : IsRow r) {m : Nat} (h : ∀ j, j < (cyclesL r).length → ((cyclesL r).getD j []).length ∣ m) : ∀ k, k ≤ (cyclesL r).length → ordTo (cyclesL r) k ∣ m
  | 0, _ => by simp [ordTo]
  | k + 1, hk => by
    rw [ordTo_succ _ _ (by omega), lcm_form _ _ (cyc_len hr (k := k) (by omega)).1]
    exact Nat.lcm_dvd (ordTo_least hr h k (by omega)) (h k (by omega))
theorem per_dvd {r : List Int} (hr : IsRow r) {b m : Nat} (hb : b < r.length) (h : itr r b m = b) : per r b ∣ m := by
  have hp := per_spec hr hb
  have hq : itr r b (m % per r b) = b := by
    have e : m = per r b * (m / per r b) + m % per r b := (Nat.div_add_mod m (per r b)).symm
    rw [e, itr_add, itr_mul hp.2.2.1] at h
    exact h
  have hl := Nat.mod_lt m (show 0 < per r b by omega)
  rcases Nat.eq_zero_or_pos (m % per r b) with h0 | h0
  · exact Nat.dvd_of_mod_eq_zero h0
  · exact absurd hq (hp.2.2.2 _ h0 hl)
theorem ordL_least {r : List Int} (hr : IsRow r) {m : Nat} (h : ∀ b, b < r.length → itr r b m = b) : ordL r ∣ m := by
  refine ordTo_least hr (fun j hj => ?_) _ (Nat.le_refl _)
  obtain ⟨b, hb, _, e⟩ := cyc_mem (r := r) (c := (cyclesL r).getD j []) (by simp [hj])
  rw [e, orb_len]
  exact per_dvd hr hb (h b hb)
theorem pow_rounds {n : Nat} {h : List Int} (hr : IsRow h) (hl : h.length = n) {m : Nat} (e : powL n h m = roundsL n) : ordL h ∣ m := by
  refine ordL_least hr fun b hb => ?_
  have := powL_get hr hl m b (by omega)
  rw [e, roundsL_get (by omega)] at this
  omega
theorem pow_one {n : Nat} {h : List Int} (hr : IsRow h) (hl : h.length = n) : powL n h 1 = h := by
  subst hl
  exact byL_rounds_left hr.bds
theorem pow_stop {r : List Int} (hr : IsRow r) {m : Nat} (h1 : 1 ≤ m) (h2 : m ≤ ordL r) : powL r.length r m = roundsL r.length ↔ m = ordL r := by
  constructor
  · intro e
    have := Nat.le_of_dvd (by omega) (pow_rounds hr rfl e)
    omega
  · rintro rfl; exact powL_ord hr rfl

theorem par_ne (a b : Nat) : decide ((a + b) % 2 = 1) = (decide (a % 2 = 1) != decide (b % 2 = 1)) := par_add a b
/-- Pairs the wrong way about, up to bell i and to bell k of those ahead of it. -/
def wrN (r : List Int) : Nat → Nat
  | 0 => 0
  | i + 1 => wrN r i + (r.take i).countP fun x => decide (r.getD i 0 < x)
theorem wrN_le (r : List Int) : ∀ i, wrN r i ≤ i * i
  | 0 => by simp [wrN]
  | i + 1 => by
    have := wrN_le r i
    have h1 : (r.take i).countP (fun x => decide (r.getD i 0 < x)) ≤ (r.take i).length := List.countP_le_length
    have h2 : (r.take i).length ≤ i := List.length_take_le _ _
    rw [wrN, Nat.succ_mul, Nat.mul_succ]; omega
theorem invB_snoc : ∀ (l : List Int) (x : Int), invB (l ++ [x]) = (invB l != decide ((l.countP fun y => decide (x < y)) % 2 = 1))
  | [], x => by simp [invB]
  | y :: l, x => by
    rw [List.cons_append, invB, invB, invB_snoc l x, List.countP_append, List.countP_cons, List.countP_cons, List.countP_nil]
    by_cases h : x < y
    · simp only [decide_eq_true h, if_true, Nat.zero_add, par_ne]
      cases invB l <;> cases decide (l.countP (fun z => decide (z < y)) % 2 = 1) <;> cases decide (l.countP (fun z => decide (x < z)) % 2 = 1) <;> rfl
    · simp only [decide_eq_false h, Nat.add_zero, Bool.false_eq_true, if_false]
      cases invB l <;> cases decide (l.countP (fun z => decide (z < y)) % 2 = 1) <;> cases decide (l.countP (fun z => decide (x < z)) % 2 = 1) <;> rfl
theorem wrN_inv (r : List Int) : ∀ i, i ≤ r.length → decide (wrN r i % 2 = 1) = invB (r.take i)
  | 0, _ => by simp [wrN, invB]
  | i + 1, h => by
    rw [wrN, par_ne, wrN_inv r i (by omega), take_snoc r 0 i (by omega), invB_snoc]

/-! ### The way -/
def circK (F : List (List Int) → List Int → Option (List Int)) (cs : List (List Int)) (N : Nat) (rows : List (List Int)) (path : List Int) (k : Nat) : Option (List Int) :=
  if path.length + 1 = N then (if rankL (byL (rows.getD (rows.length - 1) []) (cs.getD k [])) = 0 then some (path ++ [(k : Int)]) else none)
  else if byL (rows.getD (rows.length - 1) []) (cs.getD k []) ∈ rows then none
  else F (rows ++ [byL (rows.getD (rows.length - 1) []) (cs.getD k [])]) (path ++ [(k : Int)])
def circF (cs : List (List Int)) (N : Nat) : Nat → List (List Int) → List Int → Option (List Int)
  | 0, _, _ => none
  | f + 1, rows, path => (List.range cs.length).findSome? (circK (circF cs N f) cs N rows path)
theorem circ_found {cs : List (List Int)} {N f k : Nat} {rows : List (List Int)} {path p : List Int} (h : ∀ j, j < k → circK (circF cs N f) cs N rows path j = none) (hk : k < cs.length) (e : circK (circF cs N f) cs N rows path k = some p) : circF cs N (f + 1) rows path = some p := by
  rw [circF, List.findSome?_eq_some_iff]
  refine ⟨List.range k, k, (List.range' (k + 1) (cs.length - k - 1)), ?_, e, fun j hj => h j (List.mem_range.1 hj)⟩
  rw [List.range_eq_range', List.range_eq_range', ← List.range'_succ, show cs.length - k - 1 + 1 = cs.length - k by omega]
  have := List.range'_append_1 (s := 0) (m := k) (n := cs.length - k)
  rw [Nat.zero_add, show k + (cs.length - k) = cs.length by omega] at this
  exact this.symm
theorem circ_none {cs : List (List Int)} {N f k : Nat} {rows : List (List Int)} {path : List Int} (h : ∀ j, j < k → circK (circF cs N f) cs N rows path j = none) (hk : cs.length ≤ k) : circF cs N (f + 1) rows path = none := by
  rw [circF, List.findSome?_eq_none_iff]
  intro j hj
  exact h j (by have := List.mem_range.1 hj; omega)
theorem no_snoc {α : Type} {g : Nat → Option α} {k : Nat} (h : ∀ j, j < k → g j = none) (e : g k = none) : ∀ j, j < k + 1 → g j = none := by
  intro j hj
  by_cases hjk : j = k
  · rw [hjk]; exact e
  · exact h j (by omega)

/-- Rows that were rung, the changes that led there. -/
structure Tour (n : Nat) (cs : List (List Int)) (rows : List (List Int)) (path : List Int) (r : List Int) : Prop where
  len : rows.length = path.length + 1
  row : ∀ x ∈ rows, IsRow x ∧ x.length = n
  nd : rows.Nodup
  last : rows.getD (rows.length - 1) [] = r
  csr : ∀ k, k < cs.length → IsRow (cs.getD k []) ∧ (cs.getD k []).length = n
  nn : 1 ≤ n ∧ n ≤ 4
  cl : cs.length ≤ 8
theorem Tour.rr {n : Nat} {cs rows : List (List Int)} {path r : List Int} (h : Tour n cs rows path r) : IsRow r ∧ r.length = n := by
  refine h.row r ?_
  have hl : rows.length - 1 < rows.length := by have := h.len; omega
  rw [← h.last]
  have e : rows.getD (rows.length - 1) [] = rows[rows.length - 1] := by simp [hl]
  rw [e]; exact List.getElem_mem hl
theorem Tour.x {n : Nat} {cs rows : List (List Int)} {path r : List Int} (h : Tour n cs rows path r) {k : Nat} (hk : k < cs.length) : IsRow (byL r (cs.getD k [])) ∧ (byL r (cs.getD k [])).length = n := by
  have h1 := h.rr
  have h2 := h.csr k hk
  exact ⟨byL_row h1.1 h2.1 (by omega), by rw [byL_len]; exact h2.2⟩
theorem rows_le {n : Nat} {rows : List (List Int)} (h : ∀ x ∈ rows, IsRow x ∧ x.length = n) (hn : rows.Nodup) : rows.length ≤ fct n := by
  have := nodup_len (fct n) (rows.map fun x => ((rankL x : Nat) : Int)) (by
    refine List.pairwise_map.2 (hn.imp_of_mem ?_)
    intro a b ha hb hab e
    refine hab (rank_row_inj (h a ha).1 (h b hb).1 (by rw [(h a ha).2, (h b hb).2]) (by omega))) (fun x hx => by
    obtain ⟨y, hy, rfl⟩ := List.mem_map.1 hx
    have := rankL_lt y
    rw [(h y hy).2] at this
    omega)
  simpa using this
theorem Tour.next {n : Nat} {cs rows : List (List Int)} {path r : List Int} (h : Tour n cs rows path r) {k : Nat} (hk : k < cs.length) (hx : byL r (cs.getD k []) ∉ rows) : Tour n cs (rows ++ [byL r (cs.getD k [])]) (path ++ [(k : Int)]) (byL r (cs.getD k [])) := by
  refine ⟨by simp [h.len], fun x hxm => ?_, ?_, by simp, h.csr, h.nn, h.cl⟩
  · rcases List.mem_append.1 hxm with hm | hm
    · exact h.row x hm
    · simp at hm; subst hm; exact h.x hk
  · refine List.nodup_append.2 ⟨h.nd, by simp, fun a ha b hb => ?_⟩
    simp at hb; subst hb
    rintro rfl; exact hx ha
theorem Tour.full {n : Nat} {cs rows : List (List Int)} {path r : List Int} (h : Tour n cs rows path r) {x : List Int} (hx : IsRow x ∧ x.length = n) (hn : x ∉ rows) : path.length + 1 < fct n := by
  have := rows_le (n := n) (rows := rows ++ [x]) (fun y hy => by
    rcases List.mem_append.1 hy with hm | hm
    · exact h.row y hm
    · simp at hm; subst hm; exact hx) (List.nodup_append.2 ⟨h.nd, by simp, fun a ha b hb => by simp at hb; subst hb; rintro rfl; exact hn ha⟩)
  simp at this
  have := h.len
  omega
theorem Tour.lt {n : Nat} {cs rows : List (List Int)} {path r : List Int} (h : Tour n cs rows path r) : path.length < fct n ∧ fct n ≤ 24 := by
  have h1 := rows_le h.row h.nd
  have h2 := h.len
  have h3 : fct n ≤ fct 4 := fct_mono h.nn.2
  have h4 : fct 4 = 24 := by decide
  omega
/-- What is held of the rows that were rung. -/
def SeenT (n : Nat) (rows : List (List Int)) (f : Int → Option Int) : Prop := ∀ x, IsRow x → x.length = n → (f ((rankL x : Nat) : Int)).getD 0 = if x ∈ rows then 1 else 0
theorem SeenT.in' {n : Nat} {rows : List (List Int)} {f : Int → Option Int} (h : SeenT n rows f) {x : List Int} (hx : IsRow x ∧ x.length = n) : (f ((rankL x : Nat) : Int)).getD 0 = 0 ↔ x ∉ rows := by
  rw [h x hx.1 hx.2]
  split
  · rename_i hm; simp [hm]
  · rename_i hm; simp [hm]
theorem SeenT.put {n : Nat} {rows : List (List Int)} {f : Int → Option Int} (h : SeenT n rows f) {x : List Int} (hx : IsRow x ∧ x.length = n) : SeenT n (rows ++ [x]) (fun p => if p = ((rankL x : Nat) : Int) then some 1 else f p) := by
  intro y hy hl
  by_cases e : y = x
  · subst e; simp
  · have hne : rankL y ≠ rankL x := fun hh => e (rank_row_inj hy hx.1 (by omega) hh)
    simp only [Int.natCast_inj, if_neg hne]
    rw [h y hy hl]
    simp [e]
theorem SeenT.drop {n : Nat} {rows : List (List Int)} {f : Int → Option Int} {x : List Int} (h : SeenT n (rows ++ [x]) f) (hx : IsRow x ∧ x.length = n) (hn : x ∉ rows) : SeenT n rows (fun p => if p = ((rankL x : Nat) : Int) then some 0 else f p) := by
  intro y hy hl
  by_cases e : y = x
  · subst e; simp [hn]
  · have hne : rankL y ≠ rankL x := fun hh => e (rank_row_inj hy hx.1 (by omega) hh)
    simp only [Int.natCast_inj, if_neg hne]
    rw [h y hy hl]
    simp [e]
theorem seen_start {n : Nat} : SeenT n [roundsL n] (fun p => if p = (0 : Int) then some 1 else none) := by
  intro y hy hl
  subst hl
  have := rank_zero_iff hy
  by_cases e : y = roundsL y.length
  · rw [← e]; simp [this.2 e]
  · have h0 : rankL y ≠ 0 := fun h => e (this.1 h)
    have h1 : ((rankL y : Nat) : Int) ≠ 0 := by omega
    show (if ((rankL y : Nat) : Int) = 0 then some (1 : Int) else none).getD 0 = _
    rw [if_neg h1, if_neg (by simpa using e)]; rfl
end Go.KL
namespace Go.KL
section
variable {F : List (List Int) → List Int → Option (List Int)} {cs : List (List Int)} {N : Nat} {rows : List (List Int)} {path r : List Int} {k : Nat} (hl : rows.getD (rows.length - 1) [] = r)
include hl
theorem circK_hit (h1 : path.length + 1 = N) (h2 : rankL (byL r (cs.getD k [])) = 0) : circK F cs N rows path k = some (path ++ [(k : Int)]) := by
  unfold circK; rw [if_pos h1, hl, if_pos h2]
theorem circK_in (h : ¬ (path.length + 1 = N ∧ rankL (byL r (cs.getD k [])) = 0)) (hm : path.length + 1 = N ∨ byL r (cs.getD k []) ∈ rows) : circK F cs N rows path k = none := by
  unfold circK
  by_cases h1 : path.length + 1 = N
  · rw [if_pos h1, hl, if_neg (fun h2 => h ⟨h1, h2⟩)]
  · rw [if_neg h1, hl, if_pos (hm.resolve_left h1)]
theorem circK_on (h : path.length + 1 ≠ N) (hm : byL r (cs.getD k []) ∉ rows) : circK F cs N rows path k = F (rows ++ [byL r (cs.getD k [])]) (path ++ [(k : Int)]) := by
  unfold circK; rw [if_neg h, hl, if_neg hm]
end
theorem opt_none {α : Type} {o : Option α} (h : ¬ o.isSome = true) : o = none := by cases o <;> simp at h ⊢
theorem opt_nof {α : Type} {o : Option α} (h : o.isSome = false) : o = none := by cases o <;> simp at h ⊢
/-- What a circuit asks of its changes. -/
def cirMay (n : Int) (cs : List (List Int)) : Int := if n < 1 ∨ 4 < n ∨ 8 < cs.length then 1 else if gensMay n cs ≠ 0 then gensMay n cs else if ∀ k, k < cs.length → ordL (cs.getD k []) ≤ 2 then 0 else 6
def cirO (n : Int) (cs : List (List Int)) : Option (List Int) := if cirMay n cs = 0 then circF cs (fct n.toNat) (fct n.toNat) [roundsL n.toNat] [] else none
theorem cirMay_cnt {n : Int} {cs : List (List Int)} (h : n < 1 ∨ 4 < n ∨ 8 < cs.length) : cirMay n cs = 1 := if_pos h
theorem cirMay_gens {n : Int} {cs : List (List Int)} (h : ¬ (n < 1 ∨ 4 < n ∨ 8 < cs.length)) (h2 : gensMay n cs ≠ 0) : cirMay n cs = gensMay n cs := by unfold cirMay; rw [if_neg h, if_pos h2]
theorem cirMay_ord {n : Int} {cs : List (List Int)} (h : ¬ (n < 1 ∨ 4 < n ∨ 8 < cs.length)) (h2 : ¬ gensMay n cs ≠ 0) {k : Nat} (hk : k < cs.length) (h3 : 2 < ordL (cs.getD k [])) : cirMay n cs = 6 := by
  unfold cirMay; rw [if_neg h, if_neg h2, if_neg]
  intro h4; have := h4 k hk; omega
theorem cirMay_ok {n : Int} {cs : List (List Int)} (h : ¬ (n < 1 ∨ 4 < n ∨ 8 < cs.length)) (h2 : ¬ gensMay n cs ≠ 0) (h3 : ∀ k, k < cs.length → ordL (cs.getD k []) ≤ 2) : cirMay n cs = 0 := by unfold cirMay; rw [if_neg h, if_neg h2, if_pos h3]
theorem cirO_no {n : Int} {cs : List (List Int)} (h : cirMay n cs ≠ 0) : cirO n cs = none := if_neg h
theorem cirO_ok {n : Int} {cs : List (List Int)} (h : cirMay n cs = 0) : cirO n cs = circF cs (fct n.toNat) (fct n.toNat) [roundsL n.toNat] [] := if_pos h
theorem Tour.start {n : Int} {cs : List (List Int)} (h : ¬ (n < 1 ∨ 4 < n ∨ 8 < cs.length)) (h2 : ¬ gensMay n cs ≠ 0) : Tour n.toNat cs [roundsL n.toNat] [] (roundsL n.toNat) := by
  have hg := gensMay_ok (Classical.not_not.1 h2)
  refine ⟨rfl, fun x hx => ?_, by simp, rfl, fun k hk => ⟨(hg.2 k hk).1, by have := (hg.2 k hk).2; omega⟩, ⟨by omega, by omega⟩, by omega⟩
  simp at hx; subst hx
  exact ⟨roundsL_row (by omega) (by omega), roundsL_len _⟩
end Go.KL
namespace Go.KL
def cirTo (n : Int) (cs : List (List Int)) (k : Nat) : Int := if gensMay n cs ≠ 0 then gensMay n cs else if ∀ j, j < k → ordL (cs.getD j []) ≤ 2 then 0 else 6
theorem cirTo_zero (n : Int) (cs : List (List Int)) : cirTo n cs 0 = gensMay n cs := by
  unfold cirTo
  split
  · rfl
  · rename_i h
    rw [if_pos (fun j hj => absurd hj (Nat.not_lt_zero j))]
    exact (Classical.not_not.1 h).symm
theorem cirTo_iff {n : Int} {cs : List (List Int)} {k : Nat} : cirTo n cs k = 0 ↔ gensMay n cs = 0 ∧ ∀ j, j < k → ordL (cs.getD j []) ≤ 2 := by
  unfold cirTo
  split
  · rename_i h; exact ⟨fun e => absurd e h, fun e => absurd e.1 h⟩
  · rename_i h
    split
    · rename_i h2; exact ⟨fun _ => ⟨Classical.not_not.1 h, h2⟩, fun _ => rfl⟩
    · rename_i h2; exact ⟨fun e => (by cases e), fun e => absurd e.2 h2⟩
theorem cirTo_bad {n : Int} {cs : List (List Int)} {k : Nat} (h : cirTo n cs k = 0) (h3 : 2 < ordL (cs.getD k [])) : 6 = cirTo n cs (k + 1) := by
  unfold cirTo
  rw [if_neg (fun e => e (cirTo_iff.1 h).1), if_neg]
  intro h4; have := h4 k (by omega); omega
theorem cirTo_good {n : Int} {cs : List (List Int)} {k : Nat} (h : cirTo n cs k = 0) (h3 : ¬ 2 < ordL (cs.getD k [])) : cirTo n cs k = cirTo n cs (k + 1) := by
  rw [h, cirTo_iff.2 ⟨(cirTo_iff.1 h).1, fun j hj => ?_⟩]
  by_cases e : j = k
  · subst e; omega
  · exact (cirTo_iff.1 h).2 j (by omega)
theorem cirTo_end {n : Int} {cs : List (List Int)} {k : Nat} (hc : ¬ (n < 1 ∨ 4 < n ∨ 8 < cs.length)) (hk : k ≤ cs.length) (h : k < cs.length → cirTo n cs k ≠ 0) : cirTo n cs k = cirMay n cs := by
  by_cases h0 : cirTo n cs k = 0
  · have : k = cs.length := by
      by_cases e : k < cs.length
      · exact absurd h0 (h e)
      · omega
    subst this
    rw [h0, cirMay_ok hc (fun e => e (cirTo_iff.1 h0).1) (cirTo_iff.1 h0).2]
  · unfold cirTo at h0 ⊢
    split
    · rename_i h1; exact (cirMay_gens hc h1).symm
    · rename_i h1
      rw [if_neg h1] at h0
      split at h0
      · exact absurd rfl h0
      · rename_i h2
        rw [if_neg h2]
        obtain ⟨j, hj⟩ := Classical.not_forall.1 h2
        obtain ⟨hj1, hj2⟩ := Classical.not_imp.1 hj
        exact (cirMay_ord hc h1 (k := j) (by omega) (by omega)).symm
theorem cirMay_facts {n : Int} {cs : List (List Int)} (h : cirMay n cs = 0) : (¬ (n < 1 ∨ 4 < n ∨ 8 < cs.length)) ∧ ¬ gensMay n cs ≠ 0 := by
  have h1 : ¬ (n < 1 ∨ 4 < n ∨ 8 < cs.length) := fun hc => by rw [cirMay_cnt hc] at h; cases h
  exact ⟨h1, fun hg => by rw [cirMay_gens h1 hg] at h; exact hg h⟩
end Go.KL
