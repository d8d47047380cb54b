/- Plain maths: the largest bell is taken out; the sign by cycles is that by inversions. -/
import Derived.Test.YtfgkhpkbehhflaaDoorBookOpensK1
import Derived.Lib.Bytealg
import Derived.Scope
import Derived.Lib.Builder
import Derived.Lib.UnsafeStr
import Derived.Lib.SliceRun
import Derived.Lib.DecodeN
import Derived.Laws.CopyRow
import Derived.Laws.Bits64b
import Derived.Lib.AppendStr
import Derived.Laws.BitsLemmas
import Derived.Lib.IndexLaws
import Derived.Lib.SlTrimSet
import Derived.Lib.AtoiAll
import Derived.Lib.Join
import Derived.Lib.ItoaNum
namespace Go.KL

def cutR (r : List Int) (n p : Nat) : List Int := (r.take n).set p (r.getD n 0)
structure Cut (r : List Int) (n p : Nat) : Prop where
  row : IsRow r
  len : r.length = n + 1
  pos : 1 ≤ n
  at' : r.getD p 0 = n
  le : p ≤ n
theorem Cut.len' {r : List Int} {n p : Nat} (h : Cut r n p) : (cutR r n p).length = n := by
  have := h.len
  simp [cutR]; omega
theorem Cut.get {r : List Int} {n p : Nat} (h : Cut r n p) {k : Nat} (hk : k < n) : (cutR r n p).getD k 0 = if k = p then r.getD n 0 else r.getD k 0 := by
  have hl := h.len
  unfold cutR
  rw [List.getD_eq_getElem?_getD, List.getElem?_set]
  by_cases e : p = k
  · subst e
    rw [if_pos rfl, if_pos rfl, if_pos (by simp; omega)]; rfl
  · rw [if_neg e, if_neg (fun q => e q.symm), List.getElem?_take, if_pos hk, ← List.getD_eq_getElem?_getD]
theorem Cut.only {r : List Int} {n p : Nat} (h : Cut r n p) {k : Nat} (hk : k ≤ n) : r.getD k 0 = n ↔ k = p := by
  have hl := h.len
  constructor
  · intro e
    have h1 := idxOf_at h.row.nodup (k := k) (by omega)
    have h2 := idxOf_at h.row.nodup (k := p) (by have := h.le; omega)
    rw [e] at h1; rw [h.at'] at h2; omega
  · rintro rfl; exact h.at'
theorem Cut.nxt {r : List Int} {n p : Nat} (h : Cut r n p) {k : Nat} (hk : k < n) : nxt (cutR r n p) k = if nxt r k = n then nxt r n else nxt r k := by
  have hl := h.len
  have hb := h.row.at (i := k) (by omega)
  have ho := h.only (k := k) (by omega)
  unfold Go.KL.nxt
  rw [h.get hk]
  by_cases e : k = p
  · have := ho.2 e
    rw [if_pos e, if_pos (by omega)]
  · have : r.getD k 0 ≠ n := fun q => e (ho.1 q)
    rw [if_neg e, if_neg (by omega)]
theorem Cut.row' {r : List Int} {n p : Nat} (h : Cut r n p) : IsRow (cutR r n p) := by
  have hl := h.len
  have hl' := h.len'
  have hle := h.row.le
  have hpos := h.pos
  have hbd : ∀ k, k < n → 0 ≤ (cutR r n p).getD k 0 ∧ (cutR r n p).getD k 0 < n := by
    intro k hk
    rw [h.get hk]
    have hb := h.row.at (i := k) (by omega)
    have hbn := h.row.at (i := n) (by omega)
    have ho := h.only (k := k) (by omega)
    have hon := h.only (k := n) (Nat.le_refl _)
    split
    · rename_i e
      have : ¬ r.getD n 0 = n := fun q => by have := hon.1 q; omega
      omega
    · rename_i e
      have : ¬ r.getD k 0 = n := fun q => e (ho.1 q)
      omega
  apply rowMay_ok.1
  refine rowMay_of (by omega) (by omega) ?_ ?_
  · rw [List.nodup_iff_pairwise_ne, List.pairwise_iff_getElem]
    intro i j hi hj hij
    rw [gd _ i hi, gd _ j hj, h.get (by omega), h.get (by omega)]
    have inj : ∀ a b, a < n + 1 → b < n + 1 → r.getD a 0 = r.getD b 0 → a = b := fun a b ha hb e => by
      have h1 := idxOf_at h.row.nodup (k := a) (by omega)
      have h2 := idxOf_at h.row.nodup (k := b) (by omega)
      rw [e] at h1; omega
    intro e
    split at e <;> split at e
    · omega
    · have := inj _ _ (by omega) (by omega) e; omega
    · have := inj _ _ (by omega) (by omega) e; omega
    · have := inj _ _ (by omega) (by omega) e; omega
  · intro x hx
    obtain ⟨k, hk, e⟩ := List.getElem_of_mem hx
    rw [gd _ k hk] at e
    have := hbd k (by omega)
    omega
theorem itr_one (r : List Int) (b : Nat) : itr r b 1 = nxt r b := rfl
theorem itr_step (r : List Int) (b m : Nat) : itr r b (m + 1) = nxt r (itr r b m) := rfl
theorem Cut.leads {r : List Int} {n p : Nat} (h : Cut r n p) {b : Nat} (hb : b < n) : ∀ m, Leads r b (itr (cutR r n p) b m)
  | 0 => ⟨0, rfl⟩
  | m + 1 => by
    have hi := itr_lt h.row' (b := b) (by rw [h.len']; exact hb) m
    rw [h.len'] at hi
    have ih := h.leads hb m
    rw [itr_step, h.nxt hi]
    split
    · rename_i e
      refine Leads.trans ih ⟨2, ?_⟩
      rw [itr_step, itr_one, e]
    · exact Leads.trans ih ⟨1, rfl⟩
theorem Cut.back {r : List Int} {n p : Nat} (h : Cut r n p) {b : Nat} (hb : b < n) : ∀ m, (itr r b m < n → Leads (cutR r n p) b (itr r b m)) ∧ (itr r b m = n → Go.KL.nxt r n < n → Leads (cutR r n p) b (Go.KL.nxt r n))
  | 0 => ⟨fun _ => ⟨0, rfl⟩, fun e => by have : itr r b 0 = b := rfl; omega⟩
  | m + 1 => by
    obtain ⟨i1, i2⟩ := h.back hb m
    have hl := h.len
    have hlt := itr_lt h.row (b := b) (by omega) m
    rw [itr_step]
    by_cases e : itr r b m = n
    · rw [e]
      refine ⟨fun hn => i2 e hn, fun e2 hn => by omega⟩
    · have hm : itr r b m < n := by omega
      have hx := h.nxt hm
      refine ⟨fun hn => ?_, fun e2 hn => ?_⟩
      · rw [if_neg (by omega)] at hx
        exact Leads.trans (i1 hm) ⟨1, hx⟩
      · rw [if_pos e2] at hx
        exact Leads.trans (i1 hm) ⟨1, hx⟩
theorem Cut.least {r : List Int} {n p : Nat} (h : Cut r n p) {b : Nat} (hb : b < n) : least (cutR r n p) b = Go.KL.least r b := by
  have hl := h.len
  have hl' := h.len'
  rw [Bool.eq_iff_iff, least_iff h.row' (by omega), least_iff h.row (by omega)]
  constructor
  · rintro hc k ⟨m, rfl⟩
    by_cases e : itr r b m < n
    · exact hc _ ((h.back hb m).1 e)
    · omega
  · rintro hc k ⟨m, rfl⟩
    exact hc _ (h.leads hb m)
theorem Cut.top {r : List Int} {n p : Nat} (h : Cut r n p) : Go.KL.least r n = decide (p = n) := by
  have hl := h.len
  have hle := h.le
  rw [Bool.eq_iff_iff, least_iff h.row (by omega), decide_eq_true_iff]
  have hon := h.only (k := n) (Nat.le_refl _)
  have hb := h.row.at (i := n) (by omega)
  constructor
  · intro hc
    have h1 := hc _ ⟨1, rfl⟩
    rw [itr_one] at h1
    unfold Go.KL.nxt at h1
    exact (hon.1 (by omega)).symm
  · rintro rfl k ⟨m, rfl⟩
    have : ∀ m, itr r p m = p := by
      intro m
      induction m with
      | zero => rfl
      | succ m ih => rw [itr_step, ih]; unfold Go.KL.nxt; rw [h.at']; rfl
    rw [this m]; exact Nat.le_refl _
theorem Cut.oddL {r : List Int} {n p : Nat} (h : Cut r n p) : Go.KL.oddL r = (Go.KL.oddL (cutR r n p) != decide (p ≠ n)) := by
  rw [oddL_count h.row, oddL_count h.row', h.len, h.len', List.range_succ, List.countP_append, List.countP_cons, List.countP_nil, h.top]
  have e : (List.range n).countP (Go.KL.least (cutR r n p)) = (List.range n).countP (Go.KL.least r) := by
    apply List.countP_congr
    intro b hb
    rw [h.least (List.mem_range.1 hb)]
  rw [e]
  generalize (List.range n).countP (Go.KL.least r) = c
  by_cases e : p = n
  · have e1 : (n + 1 + (c + (0 + if decide (p = n) = true then 1 else 0))) = (n + c) + 2 := by rw [decide_eq_true e, if_pos rfl]; omega
    rw [e1, Nat.add_mod_right, decide_eq_false (Classical.not_not.2 e)]
    simp
  · have e1 : (n + 1 + (c + (0 + if decide (p = n) = true then 1 else 0))) = (n + c) + 1 := by rw [decide_eq_false e, if_neg (by simp)]; omega
    rw [e1, decide_eq_true e, par_add]
    simp
end Go.KL

/- The place of a row among all of its bells, counted in two ways; the row at a place. -/
namespace Go.KL
def fct : Nat → Nat
  | 0 => 1
  | n + 1 => (n + 1) * fct n
theorem fct_pos : ∀ n, 1 ≤ fct n
  | 0 => by decide
  | n + 1 => Nat.mul_pos (by omega) (fct_pos n)
theorem fct_le_succ (n : Nat) : fct n ≤ fct (n + 1) := by
  have := fct_pos n
  rw [fct, Nat.succ_mul]; omega
theorem fct_mono {m n : Nat} (h : m ≤ n) : fct m ≤ fct n := by
  induction h with
  | refl => exact Nat.le_refl _
  | step _ ih => exact Nat.le_trans ih (fct_le_succ _)
def lessN (b : Int) (r : List Int) : Nat := r.countP fun c => decide (c < b)
theorem lessN_le (b : Int) (r : List Int) : lessN b r ≤ r.length := List.countP_le_length
def rankL : List Int → Nat
  | [] => 0
  | b :: r => lessN b r * fct r.length + rankL r
theorem rankL_lt : ∀ r : List Int, rankL r < fct r.length
  | [] => by decide
  | b :: r => by
    have h1 := rankL_lt r
    have h2 : lessN b r * fct r.length ≤ r.length * fct r.length := Nat.mul_le_mul_right _ (lessN_le b r)
    rw [rankL, List.length_cons, fct, Nat.succ_mul]; omega
theorem lessN_perm {b : Int} {r s : List Int} (h : r.Perm s) : lessN b r = lessN b s := h.countP_eq _
theorem rankL_inj : ∀ (r s : List Int), r.Perm s → rankL r = rankL s → r = s
  | [], s, h, _ => by
    have := h.length_eq
    exact (List.eq_nil_of_length_eq_zero (by simpa using this.symm)).symm
  | b :: r, [], h, _ => by have := h.length_eq; simp at this
  | b :: r, c :: s, h, e => by
    have hl : r.length = s.length := by have := h.length_eq; simpa using this
    rw [rankL, rankL, hl] at e
    have h1 := rankL_lt r
    have h2 := rankL_lt s
    rw [hl] at h1
    have hp := fct_pos s.length
    have e1 : lessN b r = lessN c s := by
      have ha : (lessN b r * fct s.length + rankL r) / fct s.length = lessN b r := by rw [Nat.add_comm, Nat.add_mul_div_right _ _ hp, Nat.div_eq_of_lt h1, Nat.zero_add]
      have hb : (lessN c s * fct s.length + rankL s) / fct s.length = lessN c s := by rw [Nat.add_comm, Nat.add_mul_div_right _ _ hp, Nat.div_eq_of_lt h2, Nat.zero_add]
      rw [← ha, e, hb]
    have e2 : rankL r = rankL s := by rw [e1] at e; omega
    have hb : lessN b r = lessN b (b :: r) := by simp [lessN]
    have hc : lessN c s = lessN c (c :: s) := by simp [lessN]
    have e3 : lessN b (b :: r) = lessN c (b :: r) := by rw [← hb, e1, hc]; exact (lessN_perm h).symm
    have lt : ∀ (x y : Int) (l : List Int), x ∈ l → x < y → lessN x l < lessN y l := by
      intro x y l hx hxy
      unfold lessN
      induction l with
      | nil => cases hx
      | cons z l ih =>
        have mono : l.countP (fun c => decide (c < x)) ≤ l.countP (fun c => decide (c < y)) := List.countP_mono_left fun w _ hw => by simp at hw ⊢; omega
        rw [List.countP_cons, List.countP_cons]
        by_cases hz : z = x
        · subst hz
          simp [hxy]; omega
        · have := ih (by simpa [Ne.symm hz] using hx)
          by_cases h1 : z < x
          · have h2 : z < y := by omega
            simp [h1, h2]; omega
          · simp [h1]; split <;> omega
    have hbc : b = c := by
      rcases Int.lt_trichotomy b c with h3 | h3 | h3
      · have := lt b c (b :: r) (by simp) h3; omega
      · exact h3
      · have := lt c b (b :: r) (h.mem_iff.2 (by simp)) h3; omega
    subst hbc
    rw [rankL_inj r s (List.perm_cons b |>.1 h) e2]
theorem rank_row_inj {r s : List Int} (hr : IsRow r) (hs : IsRow s) (hl : r.length = s.length) (e : rankL r = rankL s) : r = s :=
  rankL_inj r s ((row_perm hr).trans (by rw [hl]; exact (row_perm hs).symm)) e
/-! ### The row at a place -/
end Go.KL

/- All rows, each once: the way that is looked for; what rows may generate. -/
namespace Go.KL
/-! ### What may generate -/
def gensTo (n : Int) : List (List Int) → Int
  | [] => 0
  | g :: l => if rowMay g ≠ 0 then rowMay g else if ((g.length : Nat) : Int) ≠ n then 1 else gensTo n l
def gensMay (n : Int) (l : List (List Int)) : Int := if n < 1 ∨ 12 < n ∨ 8 < l.length then 1 else gensTo n l
theorem gensTo_ok {n : Int} : ∀ {l : List (List Int)}, gensTo n l = 0 → ∀ g ∈ l, IsRow g ∧ ((g.length : Nat) : Int) = n
  | [], _, g, hg => by cases hg
  | x :: l, h, g, hg => by
    rw [gensTo] at h
    split at h
    · contradiction
    · rename_i h1
      split at h
      · cases h
      · rename_i h2
        rcases List.mem_cons.1 hg with rfl | hg
        · exact ⟨rowMay_ok.1 (Classical.not_not.1 h1), Classical.not_not.1 h2⟩
        · exact gensTo_ok h g hg
theorem gensMay_ok {n : Int} {l : List (List Int)} (h : gensMay n l = 0) : (1 ≤ n ∧ n ≤ 12 ∧ l.length ≤ 8) ∧ ∀ k, k < l.length → IsRow (l.getD k []) ∧ (((l.getD k []).length : Nat) : Int) = n := by
  unfold gensMay at h
  split at h
  · cases h
  · rename_i hc
    refine ⟨by omega, fun k hk => gensTo_ok h _ ?_⟩
    simp [hk]

/-! ### The order of a row, taken again and again -/
/-! ### The way -/
structure Tour (n : Nat) (cs : List (List Int)) (rows : List (List Int)) (path : List Int) (r : List Int) : Prop where
  len : rows.length = path.length + 1
  row : ∀ x ∈ rows, IsRow x ∧ x.length = n
  nd : rows.Nodup
  last : rows.getD (rows.length - 1) [] = r
  csr : ∀ k, k < cs.length → IsRow (cs.getD k []) ∧ (cs.getD k []).length = n
  nn : 1 ≤ n ∧ n ≤ 4
  cl : cs.length ≤ 8
theorem Tour.rr {n : Nat} {cs rows : List (List Int)} {path r : List Int} (h : Tour n cs rows path r) : IsRow r ∧ r.length = n := by
  refine h.row r ?_
  have hl : rows.length - 1 < rows.length := by have := h.len; omega
  rw [← h.last]
  have e : rows.getD (rows.length - 1) [] = rows[rows.length - 1] := by simp [hl]
  rw [e]; exact List.getElem_mem hl
theorem Tour.x {n : Nat} {cs rows : List (List Int)} {path r : List Int} (h : Tour n cs rows path r) {k : Nat} (hk : k < cs.length) : IsRow (byL r (cs.getD k [])) ∧ (byL r (cs.getD k [])).length = n := by
  have h1 := h.rr
  have h2 := h.csr k hk
  exact ⟨byL_row h1.1 h2.1 (by omega), by rw [byL_len]; exact h2.2⟩
theorem rows_le {n : Nat} {rows : List (List Int)} (h : ∀ x ∈ rows, IsRow x ∧ x.length = n) (hn : rows.Nodup) : rows.length ≤ fct n := by
  have := nodup_len (fct n) (rows.map fun x => ((rankL x : Nat) : Int)) (by
    refine List.pairwise_map.2 (hn.imp_of_mem ?_)
    intro a b ha hb hab e
    refine hab (rank_row_inj (h a ha).1 (h b hb).1 (by rw [(h a ha).2, (h b hb).2]) (by omega))) (fun x hx => by
    obtain ⟨y, hy, rfl⟩ := List.mem_map.1 hx
    have := rankL_lt y
    rw [(h y hy).2] at this
    omega)
  simpa using this
theorem Tour.next {n : Nat} {cs rows : List (List Int)} {path r : List Int} (h : Tour n cs rows path r) {k : Nat} (hk : k < cs.length) (hx : byL r (cs.getD k []) ∉ rows) : Tour n cs (rows ++ [byL r (cs.getD k [])]) (path ++ [(k : Int)]) (byL r (cs.getD k [])) := by
  refine ⟨by simp [h.len], fun x hxm => ?_, ?_, by simp, h.csr, h.nn, h.cl⟩
  · rcases List.mem_append.1 hxm with hm | hm
    · exact h.row x hm
    · simp at hm; subst hm; exact h.x hk
  · refine List.nodup_append.2 ⟨h.nd, by simp, fun a ha b hb => ?_⟩
    simp at hb; subst hb
    rintro rfl; exact hx ha
theorem Tour.full {n : Nat} {cs rows : List (List Int)} {path r : List Int} (h : Tour n cs rows path r) {x : List Int} (hx : IsRow x ∧ x.length = n) (hn : x ∉ rows) : path.length + 1 < fct n := by
  have := rows_le (n := n) (rows := rows ++ [x]) (fun y hy => by
    rcases List.mem_append.1 hy with hm | hm
    · exact h.row y hm
    · simp at hm; subst hm; exact hx) (List.nodup_append.2 ⟨h.nd, by simp, fun a ha b hb => by simp at hb; subst hb; rintro rfl; exact hn ha⟩)
  simp at this
  have := h.len
  omega
theorem Tour.lt {n : Nat} {cs rows : List (List Int)} {path r : List Int} (h : Tour n cs rows path r) : path.length < fct n ∧ fct n ≤ 24 := by
  have h1 := rows_le h.row h.nd
  have h2 := h.len
  have h3 : fct n ≤ fct 4 := fct_mono h.nn.2
  have h4 : fct 4 = 24 := by decide
  omega
def SeenT (n : Nat) (rows : List (List Int)) (f : Int → Option Int) : Prop := ∀ x, IsRow x → x.length = n → (f ((rankL x : Nat) : Int)).getD 0 = if x ∈ rows then 1 else 0
theorem SeenT.put {n : Nat} {rows : List (List Int)} {f : Int → Option Int} (h : SeenT n rows f) {x : List Int} (hx : IsRow x ∧ x.length = n) : SeenT n (rows ++ [x]) (fun p => if p = ((rankL x : Nat) : Int) then some 1 else f p) := by
  intro y hy hl
  by_cases e : y = x
  · subst e; simp
  · have hne : rankL y ≠ rankL x := fun hh => e (rank_row_inj hy hx.1 (by omega) hh)
    simp only [Int.natCast_inj, if_neg hne]
    rw [h y hy hl]
    simp [e]
theorem SeenT.drop {n : Nat} {rows : List (List Int)} {f : Int → Option Int} {x : List Int} (h : SeenT n (rows ++ [x]) f) (hx : IsRow x ∧ x.length = n) (hn : x ∉ rows) : SeenT n rows (fun p => if p = ((rankL x : Nat) : Int) then some 0 else f p) := by
  intro y hy hl
  by_cases e : y = x
  · subst e; simp [hn]
  · have hne : rankL y ≠ rankL x := fun hh => e (rank_row_inj hy hx.1 (by omega) hh)
    simp only [Int.natCast_inj, if_neg hne]
    rw [h y hy hl]
    simp [e]
end Go.KL
namespace Go.KL
section
variable {F : List (List Int) → List Int → Option (List Int)} {cs : List (List Int)} {N : Nat} {rows : List (List Int)} {path r : List Int} {k : Nat} (hl : rows.getD (rows.length - 1) [] = r)
include hl
end
theorem Tour.start {n : Int} {cs : List (List Int)} (h : ¬ (n < 1 ∨ 4 < n ∨ 8 < cs.length)) (h2 : ¬ gensMay n cs ≠ 0) : Tour n.toNat cs [roundsL n.toNat] [] (roundsL n.toNat) := by
  have hg := gensMay_ok (Classical.not_not.1 h2)
  refine ⟨rfl, fun x hx => ?_, by simp, rfl, fun k hk => ⟨(hg.2 k hk).1, by have := (hg.2 k hk).2; omega⟩, ⟨by omega, by omega⟩, by omega⟩
  simp at hx; subst hx
  exact ⟨roundsL_row (by omega) (by omega), roundsL_len _⟩
end Go.KL
namespace Go.KL
end Go.KL

/- All rows, each once: what is found rings, and nothing ahead of it does. -/
namespace Go.KL
def belowL : List Int → List Int → Bool
  | [], b => decide (0 < b.length)
  | _ :: _, [] => false
  | x :: a, y :: b => if x = y then belowL a b else decide (x < y)
def SeenB (n : Nat) (vis : List (List Int)) (f : Int → Option Bool) : Prop := ∀ x, IsRow x → x.length = n → (f ((rankL x : Nat) : Int)).getD false = decide (x ∈ vis)
theorem SeenB.put {n : Nat} {vis : List (List Int)} {f : Int → Option Bool} (h : SeenB n vis f) {x : List Int} (hx : IsRow x) (hl : x.length = n) : SeenB n (vis ++ [x]) (fun p => if p = ((rankL x : Nat) : Int) then some true else f p) := by
  intro y hy hly
  by_cases e : y = x
  · subst e; simp
  · have hne : rankL y ≠ rankL x := fun hh => e (rank_row_inj hy hx (by omega) hh)
    simp only [Int.natCast_inj, if_neg hne]
    rw [h y hy hly]
    simp [e]
end Go.KL

/- Strings: cut, joined, compared, made of runes; numbers converted; joins of branches; scopes; functions without a body. -/
namespace Go.KL
open Go.RowKit
variable {P : Program} {d : Option Tmp} {ty : TypeId} {pos : String} {af : Array Edge} {g : Option (Nat × Bool)} {a : Act} {σ : GW}

/-! ### Ways on -/
theorem join_then {c : Code} {N Q' : Act → World → Prop} {Q : Exit → Act → World → Prop} {a : Act} {w : World} (h1 : c.wp P (Exit.then Q' Q) a w) (h2 : ∀ a w, Q' a w → N a w) : c.wp P (Exit.then N Q) a w :=
  Code.wp_mono (fun e a' w' hq => by cases e <;> first | exact h2 _ _ hq | exact hq) h1
section
variable {Q : Exit → Act → World → Prop} {w : World}
end

/-! ### Numbers -/
theorem y_conv {x : Operand} {t u : TypeId} {k j : IntKind} {n m : Int} (hu : P.underlying u = some (.int j)) (hx : a.eval x = .int k n) (hm : j.wrap n = m) (ht : (P.underlying t).isSome = true) :
    Yld P ⟨d, .convert t u x, ty, pos, af, g⟩ a σ (Ty.val (.int j m)).pr := by
  obtain ⟨td, htd⟩ := Option.isSome_iff_exists.1 ht
  refine Yld.of_run (v := .int j m) ?_ rfl
  simp only [execOp, hx]
  subst hm
  simp [convert, Sem.run_bind, run_underlying hu, run_underlying htd, Conv.intToInt]
/-! ### Strings -/
theorem str_eq_iff (s t : ByteArray) : (s.toList == t.toList) = decide (s = t) := by
  rw [Bool.eq_iff_iff]
  simp only [beq_iff_eq, decide_eq_true_eq, ByteArray.toList_eq]
  constructor
  · intro h
    cases s with | mk s => cases t with | mk t =>
    simp only at h
    congr 1
    exact Array.toList_inj.1 h
  · rintro rfl; rfl
theorem y_seql {x y : Operand} {t u : TypeId} {r s : ByteArray} (ht : P.underlying t = some .string) (hx : a.eval x = .string r) (hy : a.eval y = .string s) : Yld P ⟨d, .binOp .eql t x y u, ty, pos, af, g⟩ a σ (Ty.bool (decide (r = s))).pr :=
  Yld.of_run (v := .bool (r.toList == s.toList)) (by simp only [execOp, hx, hy]; simp [binOp_string_eql, eqGuard, run_underlying ht]) (by show Value.bool _ = _; rw [str_eq_iff])
theorem y_sneq {x y : Operand} {t u : TypeId} {r s : ByteArray} (ht : P.underlying t = some .string) (hx : a.eval x = .string r) (hy : a.eval y = .string s) : Yld P ⟨d, .binOp .neq t x y u, ty, pos, af, g⟩ a σ (Ty.bool (!decide (r = s))).pr :=
  Yld.of_run (v := .bool (!(r.toList == s.toList))) (by simp only [execOp, hx, hy]; simp [binOp_string_neq, eqGuard, run_underlying ht]) (by show Value.bool _ = _; rw [str_eq_iff])
theorem y_scat {x y : Operand} {t u : TypeId} {r s : ByteArray} (hx : a.eval x = .string r) (hy : a.eval y = .string s) (hl : r.size + s.size ≤ 9223372036854775807) : Yld P ⟨d, .binOp .add t x y u, ty, pos, af, g⟩ a σ (Ty.val (.string (r ++ s))).pr := by
  refine Yld.of_run (v := .string (r ++ s)) ?_ rfl
  simp only [execOp, hx, hy]
  have h2 : ¬ (((r.size + s.size : Nat) : Int) > IntKind.i64.max) := by
    have : IntKind.i64.max = 9223372036854775807 := by decide
    rw [this]; omega
  simp only [binOp_string_add, Op.stringOp, if_neg h2]
  simp [eqGuard]
theorem y_sfrom {x y : Operand} {t : TypeId} {s : ByteArray} {k : IntKind} {l : Nat} (ht : P.underlying t = some .string) (hx : a.eval x = .string s) (hy : a.eval y = .int k l) (hl : l ≤ s.size) :
    Yld P ⟨d, .slice t x (some y) none none, ty, pos, af, g⟩ a σ (Ty.val (.string (s.extract l s.size))).pr := by
  refine Yld.of_run (v := .string (s.extract l s.size)) ?_ rfl
  simp only [execOp, hx, hy, Option.map_some, Option.map_none]
  have hl' : (0 : Int) ≤ (l : Int) ∧ (l : Int) ≤ ((s.size : Nat) : Int) := by omega
  simp [Instr.sliceAt, Instr.slice, Sem.run_bind, run_underlying ht, Instr.sliceBounds, Instr.sliceBound, asIntOf, hl]
theorem y_sto {x y : Operand} {t : TypeId} {s : ByteArray} {k : IntKind} {h : Nat} (ht : P.underlying t = some .string) (hx : a.eval x = .string s) (hy : a.eval y = .int k h) (hl : h ≤ s.size) :
    Yld P ⟨d, .slice t x none (some y) none, ty, pos, af, g⟩ a σ (Ty.val (.string (s.extract 0 h))).pr := by
  refine Yld.of_run (v := .string (s.extract 0 h)) ?_ rfl
  simp only [execOp, hx, hy, Option.map_some, Option.map_none]
  simp [Instr.sliceAt, Instr.slice, Sem.run_bind, run_underlying ht, Instr.sliceBounds, Instr.sliceBound, asIntOf, hl]
theorem y_sft {x y z : Operand} {t : TypeId} {s : ByteArray} {k k' : IntKind} {l h : Nat} (ht : P.underlying t = some .string) (hx : a.eval x = .string s) (hy : a.eval y = .int k l) (hz : a.eval z = .int k' h) (hl : l ≤ h) (hh : h ≤ s.size) :
    Yld P ⟨d, .slice t x (some y) (some z) none, ty, pos, af, g⟩ a σ (Ty.val (.string (s.extract l h))).pr := by
  refine Yld.of_run (v := .string (s.extract l h)) ?_ rfl
  simp only [execOp, hx, hy, hz, Option.map_some, Option.map_none]
  simp [Instr.sliceAt, Instr.slice, Sem.run_bind, run_underlying ht, Instr.sliceBounds, Instr.sliceBound, asIntOf, hl, hh]

/-! ### A function without a body -/
theorem y_extern {f : FuncId} {xs : Array Operand} {tys : Array TypeId} {R : Ty} {v : Value} (args : Array Value) (hargs : xs.map a.eval = args) (hr : (callFunc f args).run P σ.w = .ok (.value v) σ.w) (h : R.has σ v) :
    Yld P ⟨d, .call ⟨.value (.func f), xs, tys⟩, ty, pos, af, g⟩ a σ R.pr := by
  refine Yld.of_run (v := v) ?_ h
  simp only [execOp, resolve, hargs]
  simp only [Act.eval, Deferred.ofValue, Sem.run_bind, Sem.run_pure, Result.andThen_ok]
  simpa [invoke] using hr
end Go.KL

/- The signs of bells: where a rune stands among them. -/
namespace Go.KL
theorem get_list {s : ByteArray} {i : Nat} (h : i < s.size) : s.get! i = s.data.toList[i]'(by simpa using h) := by
  have h' : i < s.data.size := h
  simp only [ByteArray.get!]
  rw [getElem!_pos s.data i h']
  simp
theorem wrap_u8 {c : Int} (h0 : 0 ≤ c) (h1 : c < 256) : IntKind.u8.wrap c = c := by
  simp [IntKind.wrap, IntKind.bits, IntKind.signed]; omega
end Go.KL

/- What package strings' Builder meets: pointers held against each other, a row of bytes that becomes a string. -/
namespace Go.KL
open Go.RowKit
variable {P : Program} {d : Option Tmp} {ty : TypeId} {pos : String} {af : Array Edge} {g : Option (Nat × Bool)} {a : Act} {σ : GW}

abbrev Ty.byte (b : UInt8) : Ty := .val (.int .u8 ((b.toNat : Nat) : Int))
def bsL (l : List UInt8) : ByteArray := ⟨l.toArray⟩
def OwnPT (E : TypeId) (σ : GW) (k : Nat) (v : Value) (ts : List Ty) : Prop :=
  ∃ g cur, v = .pointer (some ⟨g, 0, none⟩) ∧ σ.st g = k ∧ σ.w.heap[g]? = some (.cells cur E (0, 0)) ∧ cur.size = ts.length ∧ ∀ (j : Nat) (T : Ty) (u : Value), ts[j]? = some T → cur[j]? = some u → T.has σ u
theorem OwnPT.toP {E : TypeId} {k : Nat} {v : Value} {ts : List Ty} (h : OwnPT E σ k v ts) : OwnP σ k v ts := by
  obtain ⟨g, cur, h1, h2, h3, h4, h5⟩ := h; exact ⟨g, E, cur, h1, h2, h3, h4, h5⟩
theorem OwnPT.keepL {E : TypeId} {L : List Nat} {k : Nat} {σ τ : GW} {v : Value} {ts : List Ty} (h : OwnPT E σ k v ts) (hs : StpL L σ τ) (h1 : 1 ∉ L) (hk : k ∉ L) : OwnPT E τ k v ts := by
  obtain ⟨g, cur, rfl, r2, r3, r4, r5⟩ := h
  have hg := (Array.getElem?_eq_some_iff.1 r3).1
  have hq : σ.st g ∉ L := by rw [r2]; exact hk
  exact ⟨g, cur, rfl, (hs.st g hg hq).trans r2, (hs.blk g hg hq).trans r3, r4, fun j T u hj hu => T.up (hs.le h1) (r5 j T u hj hu)⟩
theorem OwnPT.k0 {E : TypeId} {k : Nat} {σ τ : GW} {v : Value} {ts : List Ty} (h : OwnPT E σ k v ts) (hs : Stp 0 σ τ) : OwnPT E τ k v ts := h.keepL (L := []) hs.toL0 (by simp) (by simp)
theorem OwnPT.ren {E : TypeId} {k k' : Nat} {σ τ : GW} {v : Value} {ts : List Ty} (h : OwnPT E σ k v ts) (r : Ren k k' σ τ) : OwnPT E τ k' v ts := by
  obtain ⟨g, cur, rfl, r2, r3, r4, r5⟩ := h
  exact ⟨g, cur, rfl, r.st g r2, by rw [r.w]; exact r3, r4, fun j T u hj hu => T.up r.le (r5 j T u hj hu)⟩
theorem OwnPT.one {E : TypeId} {k : Nat} {v : Value} {ts : List Ty} (h : OwnPT E σ k v ts) : v.oneCell' = true := h.toP.one
def Pr.ownpt (E : TypeId) (k : Nat) (ts : List Ty) : Pr := ⟨fun σ v => OwnPT E σ k v ts, fun hs h => h.k0 hs⟩
theorem ownpt_cell {E : TypeId} {k : Nat} {v : Value} {ts : List Ty} {T : Ty} (j : Nat) (U : Ty) (h : OwnPT E σ k v ts) (e : ts[j]? = some T) (hTU : ∀ σ u, T.has σ u → U.has σ u) : OwnPT E σ k v (ts.set j U) := by
  obtain ⟨gg, cur, rfl, h2, h3, h4, h5⟩ := h
  refine ⟨gg, cur, rfl, h2, h3, by simpa using h4, fun i V u hV hu => ?_⟩
  by_cases hij : i = j
  · subst hij
    rw [List.getElem?_set_self (by exact (List.getElem?_eq_some_iff.1 e).1)] at hV
    cases hV
    exact hTU _ _ (h5 i T u e hu)
  · rw [List.getElem?_set_ne (Ne.symm hij)] at hV
    exact h5 i V u hV hu
theorem y_alloct {k : Nat} {e : TypeId} {z : Value} {c b : Nat} {ts : List Ty} (he : Info P e z c b) (hl : ts.length = z.cells.size) (hT : ∀ (j : Nat) (T : Ty) (u : Value), ts[j]? = some T → z.cells[j]? = some u → ∀ σ, T.has σ u) :
    Yld P ⟨d, .alloc e, ty, pos, af, g⟩ a σ (Pr.ownpt e k ts) := by
  intro K Q hk
  have hr' : (execOp a.eval ⟨d, .alloc e, ty, pos, af, g⟩).run P σ.w = .ok (.value (.pointer (some ⟨σ.w.heap.size, 0, none⟩))) (σ.w.alloc (.cells z.cells e)) := by
    simp only [execOp]
    simp [Instr.alloc, he.zero, newVar, newRow, newObj, Sem.run, Sem.run_bind]
  unfold Oper.wp
  rw [hr']
  exact hk _ (σ.mk' k (.cells z.cells e)) (Stp.mk' σ k _) ⟨σ.w.heap.size, z.cells, rfl, by show (if _ = _ then k else _) = k; rw [if_pos rfl], heap_alloc_new σ.w _, hl.symm, fun j T u hj hu => hT j T u hj hu _⟩
theorem m_storept {E : TypeId} {k : Nat} {x y : Operand} {i : Nat} {ts : List Ty} {T : Ty} {t : TypeId} {z v : Value} {by_ : Nat} (he : Info P t z 1 by_) (hk : 2 ≤ k) (h : OwnPT E σ k v ts) (hx : a.eval x = ptrAt v i) (hi : i < ts.length) (hy : At T σ a y) (h1 : One T) :
    YldM k P ⟨d, .store t x y, ty, pos, af, g⟩ a σ (fun _ τ => OwnPT E τ k v (ts.set i T)) := by
  obtain ⟨gg, cur, rfl, h2, h3, h4, h5⟩ := h
  have ho := h1 _ _ hy
  have hlt : i < cur.size := by omega
  have hc : σ.w.cell? ⟨gg, i, none⟩ = some cur[i] := by simp [World.cell?, h3, hlt]
  have hf : σ.w.frozen? ⟨gg, i, none⟩ = false := by simp [World.frozen?, h3]
  have hx' : a.eval x = .pointer (some ⟨gg, i, none⟩) := hx
  intro K Q hK
  have hr : (execOp a.eval ⟨d, .store t x y, ty, pos, af, g⟩).run P σ.w = .ok .skip (σ.w.setCell ⟨gg, i, none⟩ (a.eval y)) := by
    simp only [execOp, hx']
    have hst : (store ⟨gg, i, none⟩ (a.eval y)).run P σ.w = .ok () (σ.w.setCell ⟨gg, i, none⟩ (a.eval y)) := by
      rw [run_store P σ.w _ _ _ ho, hc, hf]; rfl
    simp [Instr.storeAt, Instr.sureAddr, storeVar, Sem.run_bind, cells_of_one ho, he.size, storeCells, Addr.add_zero', hst]
  unfold Oper.wp
  rw [hr]
  have hstp : Stp k σ ⟨σ.w.setCell ⟨gg, i, none⟩ (a.eval y), σ.st, fun b h => by have := σ.lt b h; simpa using this⟩ :=
    ⟨rfl, rfl, rfl, Dr.refl _, by simp, fun b hb hm => Below.heap_setCell σ.w _ _ b (by rintro rfl; simp at hm; omega), fun _ _ _ => rfl⟩
  have hh : (σ.w.setCell ⟨gg, i, none⟩ (a.eval y)).heap[gg]? = some (.cells (cur.setIfInBounds i (a.eval y)) E (0, 0)) := by
    unfold World.setCell
    rw [Array.getElem?_modify, if_pos rfl, h3]
    rfl
  refine hK undef _ hstp ⟨gg, _, rfl, h2, hh, by simp [h4], fun j U u hU hu => ?_⟩
  by_cases hji : j = i
  · subst hji
    rw [List.getElem?_set_self (by omega)] at hU
    rw [Array.getElem?_setIfInBounds_self_of_lt hlt] at hu
    cases hU; cases hu
    exact T.up (hstp.le (by omega)) hy
  · rw [List.getElem?_set_ne (Ne.symm hji)] at hU
    rw [Array.getElem?_setIfInBounds_ne (Ne.symm hji)] at hu
    exact U.up (hstp.le (by omega)) (h5 j U u hU hu)

def bAddr (nb : Bool) (b : Value) : Value := if nb then .pointer none else b
theorem y_bnil {E tp te u : TypeId} {x y : Operand} {k : Nat} {nb : Bool} {b : Value} {ts : List Ty} {z : Value} {c by_ : Nat} (hp : P.underlying tp = some (.pointer te)) (he : Info P te z c by_) (h : OwnPT E σ k b ts) (hx : a.eval x = bAddr nb b) (hy : a.eval y = .pointer none) :
    Yld P ⟨d, .binOp .eql tp x y u, ty, pos, af, g⟩ a σ (Ty.bool nb).pr := by
  obtain ⟨gg, cur, rfl, _⟩ := h
  obtain ⟨i, hi, _⟩ := he.get
  have hr : ∀ q : Option Addr, (binOp .eql tp (.pointer q) (.pointer none)).run P σ.w = .ok (.bool q.isNone) σ.w := fun q => run_eql_pointer_nil σ.w tp q (by rw [hp]; simp [Program.pointee, hp])
  cases nb with
  | true =>
    refine Yld.of_run (v := .bool true) ?_ rfl
    have hx' : a.eval x = .pointer none := hx
    simp only [execOp, hx', hy]
    simp [eqGuard, hr]
  | false =>
    refine Yld.of_run (v := .bool false) ?_ rfl
    have hx' : a.eval x = .pointer (some ⟨gg, 0, none⟩) := hx
    simp only [execOp, hx', hy]
    simp [eqGuard, hr]
theorem y_bself {E tp te u : TypeId} {x y : Operand} {k : Nat} {b : Value} {ts : List Ty} {z : Value} {c by_ : Nat} (hp : P.underlying tp = some (.pointer te)) (he : Info P te z c by_) (h : OwnPT E σ k b ts) (hx : a.eval x = bAddr false b) (hy : a.eval y = b) :
    Yld P ⟨d, .binOp .neq tp x y u, ty, pos, af, g⟩ a σ (Ty.bool false).pr := by
  obtain ⟨gg, cur, rfl, _⟩ := h
  obtain ⟨i, hi, _⟩ := he.get
  refine Yld.of_run (v := .bool false) ?_ rfl
  have hx' : a.eval x = .pointer (some ⟨gg, 0, none⟩) := hx
  simp only [execOp, hx', hy]
  have := Lib.run_neq_ptr_same (P := P) σ.w ⟨gg, 0, none⟩ hp hi
  simp [eqGuard, this]
theorem y_tounsafe {E src dst te : TypeId} {x : Operand} {k : Nat} {b : Value} {ts : List Ty} {z : Value} {c by_ : Nat} (hs : P.underlying src = some (.pointer te)) (hd : P.underlying dst = some .unsafePointer) (he : Info P te z c by_) (hc : c ≠ 0) (h : OwnPT E σ k b ts) (hl : 0 < ts.length) (hx : a.eval x = b) :
    Yld P ⟨d, .convert src dst x, ty, pos, af, g⟩ a σ (Ty.val b).pr := by
  obtain ⟨gg, cur, rfl, h2, h3, h4, h5⟩ := h
  obtain ⟨i, hi, _, hsz, _⟩ := he.get
  refine Yld.of_run (v := .pointer (some ⟨gg, 0, none⟩)) ?_ rfl
  simp only [execOp, hx]
  have := Lib.run_to_unsafe (P := P) σ.w ⟨gg, 0, none⟩ hs hd hi (by rw [hsz]; exact hc) (e := E) (cells := cur.size) (by simp [World.shape?, h3]) (by show 0 < cur.size; omega)
  simp [this]
theorem y_fromunsafe {E src dst te : TypeId} {x : Operand} {k : Nat} {b : Value} {ts : List Ty} {z : Value} {c by_ : Nat} (hs : P.underlying src = some .unsafePointer) (hd : P.underlying dst = some (.pointer te)) (he : Info P te z c by_) (h : OwnPT E σ k b ts) (hx : a.eval x = b)
    (hlies : liesAt P P.depth E (ts.length / P.cellsOf E) 0 te 1 = true) : Yld P ⟨d, .convert src dst x, ty, pos, af, g⟩ a σ (Ty.val b).pr := by
  obtain ⟨gg, cur, rfl, h2, h3, h4, h5⟩ := h
  obtain ⟨i, hi, _⟩ := he.get
  refine Yld.of_run (v := .pointer (some ⟨gg, 0, none⟩)) ?_ rfl
  simp only [execOp, hx]
  have := Lib.run_from_unsafe (P := P) σ.w ⟨gg, 0, none⟩ hs hd hi (e := E) (cells := cur.size) (by simp [World.shape?, h3]) (by rw [h4]; exact hlies)
  simp [this]

def Ty.dptr (buf : Value) (n : Nat) : Ty := ⟨fun _ v => ∃ p, v = .pointer p ∧ (0 < n → ∃ gg m c, buf = .slice (some ⟨gg, 0, none⟩) m c ∧ p = some ⟨gg, 0, none⟩), fun _ h => h⟩
theorem y_sdata {k : Nat} {x : Operand} {e te t : TypeId} {n : Nat} {buf : Value} {ts : List Ty} (hp : P.underlying ty = some (.pointer te)) (h : Own σ k e 1 buf n ts) (hx : a.eval x = buf) :
    Yld P ⟨d, .call ⟨.builtin .unsafeSliceData, #[x], #[t]⟩, ty, pos, af, g⟩ a σ (Ty.dptr buf n).pr := by
  obtain ⟨us, r1, r2, r3, r4⟩ := h
  rcases r1.2 with ⟨rfl, hn0⟩ | ⟨gg, cap, cur, rfl, hb, hg, hn, hm, hcs, htk⟩
  · refine Yld.of_run (v := .pointer none) (run_builtin1 hx (fun cs => ?_)) ⟨none, rfl, fun h0 => by omega⟩
    show (do pure (.value (← Builtin.unsafeSliceData_ #[t] ty #[.slice none 0 0])) : Sem Next).run P σ.w = _
    rw [Sem.run_bind, Lib.run_unsafeSliceData_nil]; rfl
  · by_cases hc : cap = 0
    · subst hc
      have hn0 : n = 0 := by omega
      subst hn0
      intro K Q hk
      have hr : (execOp a.eval ⟨d, .call ⟨.builtin .unsafeSliceData, #[x], #[t]⟩, ty, pos, af, g⟩).run P σ.w = .ok (.value (.pointer (some ⟨σ.w.heap.size, 0, none⟩))) (σ.w.alloc (.view ⟨gg, 0, none⟩ te)) := by
        refine run_builtin1 hx (fun cs => ?_)
        show (do pure (.value (← Builtin.unsafeSliceData_ #[t] ty #[.slice (some ⟨gg, 0, none⟩) 0 0])) : Sem Next).run P σ.w = _
        rw [Sem.run_bind, Lib.run_unsafeSliceData_zero σ.w #[t] ty te hp ⟨gg, 0, none⟩ 0 (e, cur.size) (by simp [World.shape?, hg])]; rfl
      unfold Oper.wp
      rw [hr]
      exact hk _ (σ.mk' 0 (.view ⟨gg, 0, none⟩ te)) (Stp.mk' σ 0 _) ⟨_, rfl, fun h0 => by omega⟩
    · refine Yld.of_run (v := .pointer (some ⟨gg, 0, none⟩)) (run_builtin1 hx (fun cs => ?_)) ⟨_, rfl, fun _ => ⟨gg, n, cap, rfl, rfl⟩⟩
      show (do pure (.value (← Builtin.unsafeSliceData_ #[t] ty #[.slice (some ⟨gg, 0, none⟩) n cap])) : Sem Next).run P σ.w = _
      rw [Sem.run_bind, Lib.run_unsafeSliceData_row _ _ _ _ _ _ hc]; rfl
theorem m_sstr {k : Nat} {x y : Operand} {e t t2 : TypeId} {buf : Value} {l : List UInt8} (hk : 2 ≤ k) (hp : P.underlying t = some (.pointer e)) (hc : P.cellsOf e = 1) (h : Own σ k e 1 buf l.length (l.map Ty.byte)) (hx : At (Ty.dptr buf l.length) σ a x) (hy : a.eval y = .int .i64 ((l.length : Nat) : Int)) :
    YldM k P ⟨d, .call ⟨.builtin .unsafeString, #[x, y], #[t, t2]⟩, ty, pos, af, g⟩ a σ (fun v τ => (Ty.val (.string (bsL l))).has τ v) := by
  obtain ⟨us, r1, r2, r3, r4⟩ := h
  obtain ⟨p, hp', hpp⟩ := hx
  have step : ∀ (u : Value) (w' : World), (Builtin.unsafeString_ #[t, t2] ty #[.pointer p, .int .i64 ((l.length : Nat) : Int)]).run P σ.w = .ok u w' → (execOp a.eval ⟨d, .call ⟨.builtin .unsafeString, #[x, y], #[t, t2]⟩, ty, pos, af, g⟩).run P σ.w = .ok (.value u) w' := by
    intro u w' hb
    simp only [execOp, resolve, Sem.run_bind, Sem.run_pure, Result.andThen_ok, invoke, List.map_toArray, List.map_cons, List.map_nil, hp', hy]
    simp [builtin, Sem.run_bind, hb]
  intro K Q hK
  by_cases h0 : l = []
  · subst h0
    have hr := step _ _ (Lib.run_unsafeString_none (P := P) σ.w t t2 ty p)
    unfold Oper.wp
    rw [hr]
    exact hK _ σ ⟨rfl, rfl, rfl, Dr.refl _, Nat.le_refl _, fun _ _ _ => rfl, fun _ _ _ => rfl⟩ rfl
  · have hpos : 0 < l.length := List.length_pos_iff.2 h0
    obtain ⟨gg, m, c, rfl, rfl⟩ := hpp hpos
    rcases r1.2 with ⟨e1, _⟩ | ⟨g2, cap, cur, e1, hb, hg, hn, hm, hcs, htk⟩
    · cases e1
    · cases e1
      have hcell : ∀ j x, l[j]? = some x → σ.w.cell? ((⟨gg, 0, none⟩ : Addr).add j) = some (.int .u8 ((x.toNat : Nat) : Int)) := by
        intro j x hj
        obtain ⟨u, hu⟩ : ∃ u, us[j]? = some u := ⟨us[j]'(by rw [r2]; have := (List.getElem?_eq_some_iff.1 hj).1; simpa using this), by simp⟩
        have hT := r3 j (Ty.byte x) u (by simp [hj]) hu
        have hT' : u = .int .u8 ((x.toNat : Nat) : Int) := hT
        rw [r1.cells (g := gg) rfl j u hu, hT']
      have hr := step _ _ (Lib.run_unsafeString_row (P := P) σ.w t t2 ty e hp hc gg cur.size (by simp [World.shape?, hg]) l h0 (by omega) (by have : maxLen = 9223372036854775807 := rfl; omega) hcell)
      unfold Oper.wp
      rw [hr]
      have hgk := r4 gg rfl
      refine hK _ ⟨σ.w.freeze ⟨gg, 0, none⟩ l.length, σ.st, fun b hb' => ?_⟩ ⟨?_, ?_, ?_, ?_, ?_, fun b hb' hmm => ?_, fun _ _ _ => rfl⟩ rfl
      · have := σ.lt b hb'
        unfold World.freeze; split <;> simp <;> omega
      · show (World.freeze _ _ _).os = _; unfold World.freeze; split <;> rfl
      · show (World.freeze _ _ _).tape = _; unfold World.freeze; split <;> rfl
      · show (World.freeze _ _ _).output = _; unfold World.freeze; split <;> rfl
      · refine .inl ?_; show _ ≤ (World.freeze _ _ _).drawn; unfold World.freeze; split <;> exact Nat.le_refl _
      · show _ ≤ (World.freeze _ _ _).heap.size; unfold World.freeze; split <;> simp
      · show (World.freeze _ _ _).heap[b]? = _
        unfold World.freeze
        split
        · rfl
        · rw [Array.getElem?_modify, if_neg (by rintro rfl; simp at hmm; omega)]
end Go.KL
namespace Go.KL
theorem bAddr_f {nb : Bool} {b x : Value} (h : nb = false) (e : x = bAddr nb b) : x = bAddr false b := by rw [e, h]
end Go.KL

/- Cutting one out of a row that is owned: its two ends, joined in place, and the rest made zero. -/
namespace Go.KL
open Go.RowKit
variable {P : Program} {d : Option Tmp} {ty : TypeId} {pos : String} {af : Array Edge} {g : Option (Nat × Bool)} {a : Act} {σ : GW}
def capGe (v : Value) (n : Nat) : Prop := match v with | .slice _ _ cap => n ≤ cap | _ => False

theorem Own.form {k : Nat} {e : TypeId} {n : Nat} {v : Value} {ts : List Ty} (h : Own σ k e 1 v n ts) : ∃ ad cap, v = .slice ad n cap ∧ n ≤ cap ∧ cap ≤ 9223372036854775807 := by
  obtain ⟨us, r1, _⟩ := h
  rcases r1.2 with ⟨rfl, rfl⟩ | ⟨gg, cap, cur, rfl, _, _, hn, hm, _⟩
  · exact ⟨none, 0, rfl, Nat.le_refl _, by decide⟩
  · exact ⟨_, cap, rfl, hn, hm⟩
theorem Own.cap {k : Nat} {e : TypeId} {n : Nat} {v : Value} {ts : List Ty} (h : Own σ k e 1 v n ts) : capGe v n := by
  obtain ⟨ad, cap, rfl, hn, _⟩ := h.form; exact hn
section
variable {k : Nat} {x y y' y'' : Operand} {n : Nat} {ts : List Ty} {t e e' : TypeId} {z v : Value} {b : Nat} {ki kj kk : IntKind} (ht : P.underlying t = some (.slice e')) (he : Info P e' z 1 b) (ho : Own σ k e 1 v n ts) (hx : a.eval x = v)
include ht he ho hx
end
theorem one_map {α : Type} {f : α → Ty} {xs : List α} (h : ∀ x, One (f x)) : ∀ U, U ∈ xs.map f → One U := fun U hU => by
  obtain ⟨x, _, rfl⟩ := List.mem_map.1 hU; exact h x
end Go.KL

/- Rows read and written as text; the row at a place; the laws of rows. -/
namespace Go.KL
theorem run1_lo {s : ByteArray} {p : Nat} (hb : (s.get! p).toNat < 128) : run1 s p = (s.get! p).toNat ∧ wid s p = 1 := by
  unfold run1 wid Utf8.decode
  simp only [Nat.add_zero]
  rw [if_pos hb]
  exact ⟨rfl, rfl⟩
theorem bsL_size (l : List UInt8) : (bsL l).size = l.length := by simp [bsL, ByteArray.size]
theorem bsL_get {l : List UInt8} {j : Nat} (h : j < l.length) : (bsL l).get! j = l[j] := by
  rw [get_list (by rw [bsL_size]; exact h)]
  simp [bsL]
end Go.KL
namespace Go.KL
end Go.KL

/- A region in whatever order, one operation of which writes: the others neither read nor write what it writes. -/
namespace Go.KL
open Go.RowKit
variable {P : Program}

theorem half_any3 {m N : Nat} {ops : Array Oper} {Q : Exit → Act → World → Prop} (hF : Form N ops) (hm : m ≤ ops.size) (hB : forcedB m ops.toList = true) (M : (Nat → Bool) → Act → GW → Prop)
    (hstep : ∀ (i : Nat) o (L : Nat → Bool) a σ (K : Act → World → Prop), ops[i]? = some o → i < m → M L a σ → L i = false → (∀ e ∈ o.after, Region.binds .any e = true → L e.on = true) →
      (∀ (j : Nat) oj, ops[j]? = some oj → L j = true → ∀ e ∈ oj.after, Region.binds .any e = true → L e.on = true) → (∀ a' σ', M (fun j => L j || j == i) a' σ' → K a' σ'.w) → wpOp P ops Q i K a σ.w)
    (hQ : ∀ a σ, M (fun j => decide (j < m)) a σ → wpList P ops Q (ops.toList.drop m) a σ.w) : ∀ (f : Nat) (L : Array Bool) (a : Act) (σ : GW), L.size = ops.size → left ops.size L ≤ f → (∀ j, j < ops.size → m ≤ j → L.getD j true = false) →
    (∀ (j : Nat) oj, ops[j]? = some oj → L.getD j true = true → ∀ e ∈ oj.after, Region.binds .any e = true → L.getD e.on true = true) → M (fun j => decide (j < m) && L.getD j true) a σ → wpAny P .any ops Q f L a σ.w := by
  intro f
  induction f with
  | zero =>
    intro L a σ hs hf hLm hcl hmid
    have hnone : ∀ j, j < ops.size → L.getD j true = true := fun j hj => by
      cases h : L.getD j true with
      | true => rfl
      | false => have := left_set hs hj h; omega
    have hmm : m = ops.size := by
      rcases Nat.lt_or_ge m ops.size with h | h
      · have := hnone m h; rw [hLm m h (Nat.le_refl _)] at this; cases this
      · omega
    have e : (fun j => decide (j < m) && L.getD j true) = (fun j => decide (j < m)) := by
      funext j
      by_cases h : j < m
      · rw [hnone j (by omega)]; simp
      · simp [h]
    rw [e] at hmid
    exact tail_any hF hB 0 m 0 L a σ.w (by omega) (Nat.le_refl _) hs (Nat.le_refl _) (fun j hj => by rw [hnone j hj]; simp; omega) (hQ a σ hmid)
  | succ f ih =>
    intro L a σ hs hf hLm hcl hmid
    by_cases hdone : ∀ j, j < m → L.getD j true = true
    · have hL : ∀ j, j < ops.size → L.getD j true = decide (j < m) := fun j hj => by
        by_cases h : j < m
        · rw [hdone j h]; simp [h]
        · rw [hLm j hj (by omega)]; simp [h]
      have e : (fun j => decide (j < m) && L.getD j true) = (fun j => decide (j < m)) := by
        funext j
        by_cases h : j < m
        · rw [hdone j h]; simp
        · simp [h]
      rw [e] at hmid
      refine tail_any hF hB (ops.size - m) m (f + 1) L a σ.w (by omega) (Nat.le_refl _) hs ?_ hL (hQ a σ hmid)
      refine Nat.le_trans ?_ hf
      unfold left
      have : (List.range ops.size).countP (fun i => !L.getD i true) = (List.range ops.size).countP (fun i => decide (m ≤ i)) := List.countP_congr fun i hi => by rw [hL i (List.mem_range.1 hi)]; simp
      rw [this]
      have hcnt : ∀ n, (List.range n).countP (fun i => decide (m ≤ i)) = n - m := fun n => by
        induction n with
        | zero => simp
        | succ n ihn =>
          rw [List.range_succ, List.countP_append, ihn]
          by_cases h : m ≤ n <;> simp [h] <;> omega
      rw [hcnt]
      exact Nat.le_refl _
    · have hsome : ∃ j, j < m ∧ L.getD j true = false := by
        refine Classical.byContradiction fun hn => hdone fun j hj => ?_
        cases h : L.getD j true with
        | true => rfl
        | false => exact absurd ⟨j, hj, h⟩ hn
      have up : ∀ k, L.getD k false = true → L.getD k true = true := fun k h => by
        by_cases hk : k < L.size
        · simp [hk] at h ⊢; exact h
        · simp [hk] at h
      refine ⟨fun hr => ?_, fun i hi => ?_⟩
      · exfalso
        have key : ∀ j, j < m → L.getD j true = true := by
          intro j
          induction j using Nat.strongRecOn with
          | _ j ihj =>
          intro hj
          cases hL : L.getD j true with
          | true => rfl
          | false =>
            exfalso
            obtain ⟨o, ho⟩ : ∃ o, ops[j]? = some o := ⟨ops[j]'(by omega), by simp⟩
            have : j ∈ Region.ready .any ops L := mem_ready.2 ⟨hL, o, ho, fun e he hb => by
              have hlt := hF.back j o ho e he hb
              have := ihj e.on hlt (Nat.lt_trans hlt hj)
              have hsz : e.on < L.size := by rw [hs]; omega
              simp [hsz] at this ⊢; exact this⟩
            rw [hr] at this; cases this
        exact hdone key
      · obtain ⟨h0, o, ho, hall⟩ := mem_ready.1 hi
        have hi' : i < ops.size := (Array.getElem?_eq_some_iff.1 ho).1
        have him : i < m := by
          rcases Nat.lt_or_ge i m with h | h
          · exact h
          · exfalso
            obtain ⟨j, hj, hjL⟩ := hsome
            have := forced_spec (L := fun j => decide (j < ops.size) && L.getD j true) hB (fun j oj hj hLj e he hb => by
              simp only [Bool.and_eq_true, decide_eq_true_eq] at hLj ⊢
              exact ⟨by have := hF.back j oj hj e he hb; omega, hcl j oj hj hLj.2 e he hb⟩) ho h (fun e he hb => by
              simp only [Bool.and_eq_true, decide_eq_true_eq]
              exact ⟨by have := hF.back i o ho e he hb; omega, up _ (hall e he hb)⟩) j (by omega)
            simp only [Bool.and_eq_true] at this
            rw [hjL] at this; cases this.2
        refine hstep i o _ a σ _ ho him hmid (by simp [h0]) (fun e he hb => ?_) (fun j oj hj hLj e he hb => ?_) fun a' σ' hm' => ih _ a' σ' (by simpa using hs) (by have := left_set hs hi' h0; omega) (fun j hj hmj => ?_) ?_ ?_
        · have := hF.back i o ho e he hb
          simp only [up _ (hall e he hb), Bool.and_true, decide_eq_true_eq]; omega
        · simp only [Bool.and_eq_true, decide_eq_true_eq] at hLj ⊢
          exact ⟨by have := hF.back j oj hj e he hb; omega, hcl j oj hj hLj.2 e he hb⟩
        · rw [getD_set_ne true (by omega)]; exact hLm j hj hmj
        · intro j oj hj hLj e he hb
          by_cases hji : j = i
          · subst hji
            rw [ho] at hj; cases hj
            have hne := hF.back j o ho e he hb
            rw [getD_set_ne true (by omega)]
            exact up _ (hall e he hb)
          · rw [getD_set_ne true (Ne.symm hji)] at hLj
            have := hcl j oj hj hLj e he hb
            by_cases hei : e.on = i
            · rw [hei, h0] at this; cases this
            · rw [getD_set_ne true (Ne.symm hei)]; exact this
        · have : (fun j => (decide (j < m) && L.getD j true) || j == i) = (fun j => decide (j < m) && (L.setIfInBounds i true).getD j true) := by
            funext j
            by_cases hji : j = i
            · subst hji; simp [him, hs, hi']
            · rw [getD_set_ne true (Ne.symm hji)]; simp [hji]
          rwa [this] at hm'

theorem half_seq3 {m N : Nat} {ops : Array Oper} {Q : Exit → Act → World → Prop} (hF : Form N ops) (hm : m ≤ ops.size) (M : (Nat → Bool) → Act → GW → Prop)
    (hstep : ∀ (i : Nat) o (L : Nat → Bool) a σ (K : Act → World → Prop), ops[i]? = some o → i < m → M L a σ → L i = false → (∀ e ∈ o.after, Region.binds .any e = true → L e.on = true) →
      (∀ (j : Nat) oj, ops[j]? = some oj → L j = true → ∀ e ∈ oj.after, Region.binds .any e = true → L e.on = true) → (∀ a' σ', M (fun j => L j || j == i) a' σ' → K a' σ'.w) → wpOp P ops Q i K a σ.w)
    (hQ : ∀ a σ, M (fun j => decide (j < m)) a σ → wpOps P ops Q (List.range' m (ops.size - m)) a σ.w) : ∀ (n k : Nat) (a : Act) (σ : GW), k + n = m → M (fun j => decide (j < k)) a σ → wpOps P ops Q (List.range' k (n + (ops.size - m))) a σ.w
  | 0, k, a, σ, hk, hmid => by
    obtain rfl : k = m := by omega
    rw [Nat.zero_add]
    exact hQ a σ hmid
  | n + 1, k, a, σ, hk, hmid => by
    rw [show n + 1 + (ops.size - m) = (n + (ops.size - m)) + 1 by omega, List.range'_succ, wpOps_cons]
    obtain ⟨o, ho⟩ : ∃ o, ops[k]? = some o := ⟨ops[k]'(by omega), by simp⟩
    refine hstep k o _ a σ _ ho (by omega) hmid (by simp) (fun e he hbi => by simpa using hF.back k o ho e he hbi)
      (fun j oj hj hlt e he hbi => by have := hF.back j oj hj e he hbi; simp at hlt ⊢; omega) fun a' σ' hm' => half_seq3 hF hm M hstep hQ n (k + 1) a' σ' (by omega) ?_
    have : (fun j => decide (j < k) || j == k) = (fun j => decide (j < k + 1)) := by
      funext j; rw [Bool.eq_iff_iff]; simp; omega
    rwa [this] at hm'

def Ty.any : Ty := ⟨fun _ _ => True, fun _ h => h⟩

structure Mid3 (p d N : Nat) (D : List Deferred) (W : List Nat) (B : Pr) (ops : Array Oper) (Φ : Nat → Ty) (a0 : Act) (σ0 : GW) (L : Nat → Bool) (a : Act) (σ : GW) : Prop where
  stp : StpL W σ0 σ
  stp0 : L p = false → Stp 0 σ0 σ
  ok : Ok N D a
  done : ∀ j, L j = true → j ≠ p → rd ops (fun i => (Φ i).pr) j a σ
  donep : L p = true → B.has σ (a.eval (.tmp d))
  same : ∀ t, (∀ j, dstOf ops j = some t → L j = false) → a.eval (.tmp t) = a0.eval (.tmp t)

def Obl3 (P : Program) (N : Nat) (D : List Deferred) (W : List Nat) (ops : Array Oper) (Φ : Nat → Ty) (a0 : Act) (σ0 : GW) (i : Nat) (o : Oper) : Prop :=
  ∀ a σ, StpL W σ0 σ → Ok N D a → (∀ t, free ops i t = true → a.eval (.tmp t) = a0.eval (.tmp t)) → Deps ops (fun i => (Φ i).pr) a σ o.after.toList (Run P ops o a σ (Φ i).pr)
def OblW (P : Program) (N : Nat) (D : List Deferred) (W : List Nat) (B : Pr) (ops : Array Oper) (Φ : Nat → Ty) (a0 : Act) (σ0 : GW) (i : Nat) (o : Oper) : Prop :=
  ∀ a σ, Stp 0 σ0 σ → Ok N D a → (∀ t, free ops i t = true → a.eval (.tmp t) = a0.eval (.tmp t)) → Deps ops (fun i => (Φ i).pr) a σ o.after.toList (YldL W P o a σ (fun v τ => B.has τ v))
def Obls3 (P : Program) (p N : Nat) (D : List Deferred) (W : List Nat) (B : Pr) (ops : Array Oper) (Φ : Nat → Ty) (a0 : Act) (σ0 : GW) : Nat → List Oper → Prop
  | _, [] => True
  | i, o :: l => (if i = p then OblW P N D W B ops Φ a0 σ0 i o else Obl3 P N D W ops Φ a0 σ0 i o) ∧ Obls3 P p N D W B ops Φ a0 σ0 (i + 1) l
theorem Obls3.get {p N : Nat} {D : List Deferred} {W : List Nat} {B : Pr} {ops : Array Oper} {Φ : Nat → Ty} {a0 : Act} {σ0 : GW} : ∀ (l : List Oper) (k : Nat), Obls3 P p N D W B ops Φ a0 σ0 k l → ∀ j o, l[j]? = some o → (if k + j = p then OblW P N D W B ops Φ a0 σ0 (k + j) o else Obl3 P N D W ops Φ a0 σ0 (k + j) o)
  | [], _, _, j, o, h => by simp at h
  | x :: l, k, h, 0, o, hj => by simp at hj; subst hj; exact h.1
  | x :: l, k, h, j + 1, o, hj => by
    have := Obls3.get l (k + 1) h.2 j o (by simpa using hj)
    rwa [show k + 1 + j = k + (j + 1) by omega] at this
theorem Obls3.up {p N : Nat} {D : List Deferred} {W : List Nat} {B : Pr} {ops : Array Oper} {Φ : Nat → Ty} {a0 : Act} {σ0 σ1 : GW} (hs : Stp 0 σ0 σ1) : ∀ (l : List Oper) (k : Nat), Obls3 P p N D W B ops Φ a0 σ0 k l → Obls3 P p N D W B ops Φ a0 σ1 k l
  | [], _, _ => trivial
  | x :: l, k, h => by
    refine ⟨?_, Obls3.up hs l (k + 1) h.2⟩
    have h1 := h.1
    split at h1
    · rename_i e; rw [if_pos e]; exact fun a σ hs' => h1 a σ (hs.trans hs')
    · rename_i e; rw [if_neg e]; exact fun a σ hs' => h1 a σ (hs.toL0.trans hs')

theorem Mid3.op {p d N : Nat} {D : List Deferred} {W : List Nat} {B : Pr} {ops : Array Oper} {Φ : Nat → Ty} {a0 : Act} {σ0 : GW} {L : Nat → Bool} {a : Act} {σ : GW} {i : Nat} {o : Oper} {Q : Exit → Act → World → Prop} {K : Act → World → Prop}
    (hF : Form N ops) (h1 : 1 ∉ W) (hp : dstOf ops p = some d) (hΦ : ∀ e v, (Φ p).has e v) (hpg : ∀ o, ops[p]? = some o → o.guard = none) (hm : Mid3 p d N D W B ops Φ a0 σ0 L a σ) (ho : ops[i]? = some o) (hL : L i = false)
    (hob : if i = p then OblW P N D W B ops Φ a0 σ0 i o else Obl3 P N D W ops Φ a0 σ0 i o)
    (hall : ∀ e ∈ o.after, Region.binds .any e = true → L e.on = true) (hclosed : ∀ (j : Nat) oj, ops[j]? = some oj → L j = true → ∀ e ∈ oj.after, Region.binds .any e = true → L e.on = true)
    (hK : ∀ a' σ', Mid3 p d N D W B ops Φ a0 σ0 (fun j => L j || j == i) a' σ' → K a' σ'.w) : wpOp P ops Q i K a σ.w := by
  have hdi : dstOf ops i = o.dst := by simp [dstOf, ho]
  have hsame : ∀ t, free ops i t = true → a.eval (.tmp t) = a0.eval (.tmp t) := by
    intro t ht
    refine hm.same t fun j hj => ?_
    cases hLj : L j with
    | false => rfl
    | true =>
      exfalso
      unfold dstOf at hj
      obtain ⟨oj, hoj, hd⟩ := Option.bind_eq_some_iff.1 hj
      unfold free at ht
      have := (List.all_eq_true.1 ht) oj (List.mem_of_getElem? hoj)
      simp only [hd, bne_self_eq_false, Bool.false_or, List.any_eq_true, Bool.and_eq_true, beq_iff_eq] at this
      obtain ⟨e, he, hb, hon⟩ := this
      have := hclosed j oj (by simpa using hoj) hLj e (by simpa using he) hb
      rw [hon, hL] at this
      cases this
  have hdeps : ∀ e ∈ o.after.toList, Region.binds .any e = true → rd ops (fun i => (Φ i).pr) e.on a σ := fun e he hb => by
    by_cases hep : e.on = p
    · rw [hep]; unfold rd; rw [hp]; exact hΦ _ _
    · exact hm.done e.on (hall e (by simpa using he) hb) hep
  -- whatever step of whichever kind: what holds behind it
  have done' : ∀ v (τ : GW), σ.Le τ → (i ≠ p → (Φ i).has τ v) → ∀ j, (L j || j == i) = true → j ≠ p → rd ops (fun i => (Φ i).pr) j (a.put o.dst v) τ := by
    intro v τ hle hv j hLj hjp
    by_cases hji : j = i
    · subst hji
      unfold rd
      cases hd : dstOf ops j with
      | none => trivial
      | some d =>
        have : o.dst = some d := by rw [← hdi]; exact hd
        simp only [this]
        rw [eval_put_same hm.ok (hF.lt j d hd)]
        exact hv hjp
    · have hLj' : L j = true := by simpa [hji] using hLj
      have h0 := hm.done j hLj' hjp
      unfold rd at h0 ⊢
      cases hd : dstOf ops j with
      | none => trivial
      | some d =>
        rw [hd] at h0
        simp only at h0 ⊢
        rw [eval_put_ne (fun he => hji (hF.uniq j i d hd (by rw [hdi]; exact he)))]
        exact (Φ j).up hle h0
  have same' : ∀ v t, (∀ j, dstOf ops j = some t → (L j || j == i) = false) → (a.put o.dst v).eval (.tmp t) = a0.eval (.tmp t) := by
    intro v t ht
    have h1 : o.dst ≠ some t := fun he => by
      have := ht i (by rw [hdi]; exact he)
      simp at this
    rw [eval_put_ne h1]
    exact hm.same t fun j hj => by
      have := ht j hj
      simp at this
      exact this.1
  by_cases hip : i = p
  · subst hip
    rw [if_pos rfl] at hob
    have hy := Deps.elim o.after.toList hdeps (hob a σ (hm.stp0 hL) hm.ok hsame)
    unfold wpOp
    simp only [ho]
    have hw : Region.wanted o (yielded ops a.tmps) = true := by simp [Region.wanted, hpg o ho]
    rw [if_pos hw]
    refine .inl (hy K Q fun v τ hs hr => hK _ τ ⟨hm.stp.trans hs, fun h => (by simp at h), hm.ok.put _ _, done' v τ (hs.le h1) (fun h => absurd rfl h), fun _ => ?_, same' v⟩)
    have : o.dst = some d := by rw [← hdi]; exact hp
    rw [this, eval_put_same hm.ok (hF.lt i d hp)]
    exact hr
  · rw [if_neg hip] at hob
    have hrun := Deps.elim o.after.toList hdeps (hob a σ hm.stp hm.ok hsame)
    have next : ∀ v τ, Stp 0 σ τ → (Φ i).has τ v → K (a.put o.dst v) τ.w := by
      intro v τ hs hv
      refine hK _ τ ⟨hm.stp.trans hs.toL0, fun h => ?_, hm.ok.put _ _, done' v τ hs.le0 (fun _ => hv), fun h => ?_, same' v⟩
      · simp at h; exact (hm.stp0 h.1).trans hs
      · have hLp : L p = true := by simpa [Ne.symm hip] using h
        rw [eval_put_ne (fun he => hip (hF.uniq i p d (by rw [hdi]; exact he) hp))]
        exact B.up hs (hm.donep hLp)
    unfold wpOp
    simp only [ho]
    by_cases hw : Region.wanted o (yielded ops a.tmps) = true
    · rw [if_pos hw]
      exact .inl (hrun.1 hw K Q next)
    · rw [if_neg hw]
      exact next undef σ (Stp.refl _ _) (hrun.2 (by simpa using hw))

theorem obR3 {i p : Nat} {A B : Prop} (h : i ≠ p) (k : B) : if i = p then A else B := by rw [if_neg h]; exact k
theorem obR3w {i p : Nat} {A B : Prop} (h : i = p) (k : A) : if i = p then A else B := by rw [if_pos h]; exact k

structure Half3 (m d N : Nat) (D : List Deferred) (W : List Nat) (B : Pr) (ops : Array Oper) (Φ : Nat → Ty) (a0 : Act) (σ0 : GW) (a : Act) (σ : GW) : Prop where
  stp : StpL W σ0 σ
  ok : Ok N D a
  done : ∀ j, j < m → rd ops (fun i => (Φ i).pr) j a σ
  donep : B.has σ (a.eval (.tmp d))
  same : ∀ t, ((ops.toList.take m).all fun o => o.dst != some t) = true → a.eval (.tmp t) = a0.eval (.tmp t)

theorem Mid3.half {m p d N : Nat} {D : List Deferred} {W : List Nat} {B : Pr} {ops : Array Oper} {Φ : Nat → Ty} {a0 : Act} {σ0 : GW} {a : Act} {σ : GW} (h : Mid3 p d N D W B ops Φ a0 σ0 (fun j => decide (j < m)) a σ) (hpm : p < m) (hp : dstOf ops p = some d) (hΦ : ∀ e v, (Φ p).has e v) : Half3 m d N D W B ops Φ a0 σ0 a σ := by
  refine ⟨h.stp, h.ok, fun j hj => ?_, h.donep (by simpa using hpm), fun t ht => h.same t fun j hj => ?_⟩
  · by_cases hjp : j = p
    · rw [hjp]; unfold rd; rw [hp]; exact hΦ _ _
    · exact h.done j (by simpa using hj) hjp
  · by_cases hjm : j < m
    · obtain ⟨o, ho, hd⟩ := Option.bind_eq_some_iff.1 hj
      have := (List.all_eq_true.1 ht) o (List.mem_of_getElem? (i := j) (by rw [List.getElem?_take, if_pos hjm]; exact ho))
      simp [hd] at this
    · simpa using hjm

theorem Half3.kt {m d N : Nat} {D : List Deferred} {W : List Nat} {B : Pr} {ops : Array Oper} {Φ : Nat → Ty} {a0 a : Act} {σ0 σ : GW} {T : Ty} {t : Nat} (h : Half3 m d N D W B ops Φ a0 σ0 a σ) (h1 : 1 ∉ W) (k : T.has σ0 (a0.eval (.tmp t))) (ht : ((ops.toList.take m).all fun o => o.dst != some t) = true) : T.has σ (a.eval (.tmp t)) := by
  rw [h.same t ht]; exact T.up (h.stp.le h1) k
end Go.KL

/- A region in whatever order, of which one operation stores into what another one has made. -/
namespace Go.KL
open Go.RowKit
variable {P : Program}

/-! ### The operation that writes is a store into what an operation of the region has made -/
structure Mid4 (p q d N : Nat) (D : List Deferred) (W : List Nat) (A B : Pr) (ops : Array Oper) (Φ : Nat → Ty) (a0 : Act) (σ0 : GW) (L : Nat → Bool) (a : Act) (σ : GW) : Prop where
  stp : StpL W σ0 σ
  stp0 : L p = false → Stp 0 σ0 σ
  ok : Ok N D a
  done : ∀ j, L j = true → rd ops (fun i => (Φ i).pr) j a σ
  doneq : L q = true → L p = false → A.has σ (a.eval (.tmp d))
  donep : L p = true → B.has σ (a.eval (.tmp d))
  same : ∀ t, (∀ j, dstOf ops j = some t → L j = false) → a.eval (.tmp t) = a0.eval (.tmp t)

def OblQ (P : Program) (N : Nat) (D : List Deferred) (A : Pr) (ops : Array Oper) (Φ : Nat → Ty) (a0 : Act) (σ0 : GW) (i : Nat) (o : Oper) : Prop :=
  ∀ a σ, Stp 0 σ0 σ → Ok N D a → (∀ t, free ops i t = true → a.eval (.tmp t) = a0.eval (.tmp t)) → Deps ops (fun i => (Φ i).pr) a σ o.after.toList (Run P ops o a σ A)
def OblS (P : Program) (N d : Nat) (D : List Deferred) (W : List Nat) (A B : Pr) (ops : Array Oper) (Φ : Nat → Ty) (a0 : Act) (σ0 : GW) (i : Nat) (o : Oper) : Prop :=
  ∀ a σ, Stp 0 σ0 σ → Ok N D a → (∀ t, free ops i t = true → a.eval (.tmp t) = a0.eval (.tmp t)) → A.has σ (a.eval (.tmp d)) → Deps ops (fun i => (Φ i).pr) a σ o.after.toList (YldL W P o a σ (fun _ τ => B.has τ (a.eval (.tmp d))))
def Obls4 (P : Program) (p q d N : Nat) (D : List Deferred) (W : List Nat) (A B : Pr) (ops : Array Oper) (Φ : Nat → Ty) (a0 : Act) (σ0 : GW) : Nat → List Oper → Prop
  | _, [] => True
  | i, o :: l => (if i = p then OblS P N d D W A B ops Φ a0 σ0 i o else if i = q then OblQ P N D A ops Φ a0 σ0 i o else Obl3 P N D W ops Φ a0 σ0 i o) ∧ Obls4 P p q d N D W A B ops Φ a0 σ0 (i + 1) l
theorem Obls4.get {p q d N : Nat} {D : List Deferred} {W : List Nat} {A B : Pr} {ops : Array Oper} {Φ : Nat → Ty} {a0 : Act} {σ0 : GW} : ∀ (l : List Oper) (k : Nat), Obls4 P p q d N D W A B ops Φ a0 σ0 k l → ∀ j o, l[j]? = some o →
    (if k + j = p then OblS P N d D W A B ops Φ a0 σ0 (k + j) o else if k + j = q then OblQ P N D A ops Φ a0 σ0 (k + j) o else Obl3 P N D W ops Φ a0 σ0 (k + j) o)
  | [], _, _, j, o, h => by simp at h
  | x :: l, k, h, 0, o, hj => by simp at hj; subst hj; exact h.1
  | x :: l, k, h, j + 1, o, hj => by
    have := Obls4.get l (k + 1) h.2 j o (by simpa using hj)
    rwa [show k + 1 + j = k + (j + 1) by omega] at this
theorem Obls4.up {p q d N : Nat} {D : List Deferred} {W : List Nat} {A B : Pr} {ops : Array Oper} {Φ : Nat → Ty} {a0 : Act} {σ0 σ1 : GW} (hs : Stp 0 σ0 σ1) : ∀ (l : List Oper) (k : Nat), Obls4 P p q d N D W A B ops Φ a0 σ0 k l → Obls4 P p q d N D W A B ops Φ a0 σ1 k l
  | [], _, _ => trivial
  | x :: l, k, h => by
    refine ⟨?_, Obls4.up hs l (k + 1) h.2⟩
    have h1 := h.1
    split at h1
    · rename_i e; rw [if_pos e]; exact fun a σ hs' => h1 a σ (hs.trans hs')
    · rename_i e
      rw [if_neg e]
      split at h1
      · rename_i e; rw [if_pos e]; exact fun a σ hs' => h1 a σ (hs.trans hs')
      · rename_i e; rw [if_neg e]; exact fun a σ hs' => h1 a σ (hs.toL0.trans hs')

theorem Mid4.op {p q d N : Nat} {D : List Deferred} {W : List Nat} {A B : Pr} {ops : Array Oper} {Φ : Nat → Ty} {a0 : Act} {σ0 : GW} {L : Nat → Bool} {a : Act} {σ : GW} {i : Nat} {o : Oper} {Q : Exit → Act → World → Prop} {K : Act → World → Prop}
    (hF : Form N ops) (h1 : 1 ∉ W) (hp : dstOf ops p = none) (hq : dstOf ops q = some d) (hpq : p ≠ q) (hΦ : ∀ e v, (Φ q).has e v) (hpg : ∀ o, ops[p]? = some o → o.guard = none ∧ ∃ e ∈ o.after, Region.binds .any e = true ∧ e.on = q) (hm : Mid4 p q d N D W A B ops Φ a0 σ0 L a σ) (ho : ops[i]? = some o) (hL : L i = false)
    (hpo : ∃ o, ops[p]? = some o)
    (hob : if i = p then OblS P N d D W A B ops Φ a0 σ0 i o else if i = q then OblQ P N D A ops Φ a0 σ0 i o else Obl3 P N D W ops Φ a0 σ0 i o)
    (hall : ∀ e ∈ o.after, Region.binds .any e = true → L e.on = true) (hclosed : ∀ (j : Nat) oj, ops[j]? = some oj → L j = true → ∀ e ∈ oj.after, Region.binds .any e = true → L e.on = true)
    (hK : ∀ a' σ', Mid4 p q d N D W A B ops Φ a0 σ0 (fun j => L j || j == i) a' σ' → K a' σ'.w) : wpOp P ops Q i K a σ.w := by
  have hdi : dstOf ops i = o.dst := by simp [dstOf, ho]
  have hsame : ∀ t, free ops i t = true → a.eval (.tmp t) = a0.eval (.tmp t) := by
    intro t ht
    refine hm.same t fun j hj => ?_
    cases hLj : L j with
    | false => rfl
    | true =>
      exfalso
      unfold dstOf at hj
      obtain ⟨oj, hoj, hd⟩ := Option.bind_eq_some_iff.1 hj
      unfold free at ht
      have := (List.all_eq_true.1 ht) oj (List.mem_of_getElem? hoj)
      simp only [hd, bne_self_eq_false, Bool.false_or, List.any_eq_true, Bool.and_eq_true, beq_iff_eq] at this
      obtain ⟨e, he, hb, hon⟩ := this
      have := hclosed j oj (by simpa using hoj) hLj e (by simpa using he) hb
      rw [hon, hL] at this
      cases this
  have hLpq : L p = true → L q = true := fun h => by
    obtain ⟨op, hop⟩ := hpo
    obtain ⟨_, e, he, hb, hon⟩ := hpg op hop
    rw [← hon]; exact hclosed p op hop h e he hb
  have hdeps : ∀ e ∈ o.after.toList, Region.binds .any e = true → rd ops (fun i => (Φ i).pr) e.on a σ := fun e he hb => hm.done e.on (hall e (by simpa using he) hb)
  have done' : ∀ v (τ : GW), σ.Le τ → ((Φ i).has τ v ∨ dstOf ops i = none) → ∀ j, (L j || j == i) = true → rd ops (fun i => (Φ i).pr) j (a.put o.dst v) τ := by
    intro v τ hle hv j hLj
    by_cases hji : j = i
    · subst hji
      unfold rd
      cases hd : dstOf ops j with
      | none => trivial
      | some d =>
        have : o.dst = some d := by rw [← hdi]; exact hd
        simp only [this]
        rw [eval_put_same hm.ok (hF.lt j d hd)]
        exact hv.resolve_right (by rw [hd]; simp)
    · have hLj' : L j = true := by simpa [hji] using hLj
      have h0 := hm.done j hLj'
      unfold rd at h0 ⊢
      cases hd : dstOf ops j with
      | none => trivial
      | some d =>
        rw [hd] at h0
        simp only at h0 ⊢
        rw [eval_put_ne (fun he => hji (hF.uniq j i d hd (by rw [hdi]; exact he)))]
        exact (Φ j).up hle h0
  have same' : ∀ v t, (∀ j, dstOf ops j = some t → (L j || j == i) = false) → (a.put o.dst v).eval (.tmp t) = a0.eval (.tmp t) := by
    intro v t ht
    have h1 : o.dst ≠ some t := fun he => by
      have := ht i (by rw [hdi]; exact he)
      simp at this
    rw [eval_put_ne h1]
    exact hm.same t fun j hj => by
      have := ht j hj
      simp at this
      exact this.1
  by_cases hip : i = p
  · subst hip
    rw [if_pos rfl] at hob
    obtain ⟨hg, e, he, hb, hon⟩ := hpg o ho
    have hLq : L q = true := by rw [← hon]; exact hall e he hb
    have hy := Deps.elim o.after.toList hdeps (hob a σ (hm.stp0 hL) hm.ok hsame (hm.doneq hLq hL))
    have hdn : o.dst = none := by rw [← hdi]; exact hp
    unfold wpOp
    simp only [ho]
    have hw : Region.wanted o (yielded ops a.tmps) = true := by simp [Region.wanted, hg]
    rw [if_pos hw]
    refine .inl (hy K Q fun v τ hs hr => hK _ τ ⟨hm.stp.trans hs, fun h => (by simp at h), hm.ok.put _ _, done' v τ (hs.le h1) (.inr hp), fun _ h => (by simp at h), fun _ => ?_, same' v⟩)
    rw [hdn]
    exact hr
  · rw [if_neg hip] at hob
    by_cases hiq : i = q
    · subst hiq
      rw [if_pos rfl] at hob
      have hLp : L p = false := by
        cases h : L p with
        | false => rfl
        | true => rw [hLpq h] at hL; cases hL
      have hrun := Deps.elim o.after.toList hdeps (hob a σ (hm.stp0 hLp) hm.ok hsame)
      have next : ∀ v τ, Stp 0 σ τ → A.has τ v → K (a.put o.dst v) τ.w := by
        intro v τ hs hv
        refine hK _ τ ⟨hm.stp.trans hs.toL0, fun _ => (hm.stp0 hLp).trans hs, hm.ok.put _ _, done' v τ hs.le0 (.inl (hΦ _ _)), fun _ _ => ?_, fun h => ?_, same' v⟩
        · have : o.dst = some d := by rw [← hdi]; exact hq
          rw [this, eval_put_same hm.ok (hF.lt i d hq)]
          exact hv
        · rw [hLp] at h
          simp at h; exact absurd h hpq
      unfold wpOp
      simp only [ho]
      by_cases hw : Region.wanted o (yielded ops a.tmps) = true
      · rw [if_pos hw]
        exact .inl (hrun.1 hw K Q next)
      · rw [if_neg hw]
        exact next undef σ (Stp.refl _ _) (hrun.2 (by simpa using hw))
    · rw [if_neg hiq] at hob
      have hrun := Deps.elim o.after.toList hdeps (hob a σ hm.stp hm.ok hsame)
      have hne : o.dst ≠ some d := fun he => hiq (hF.uniq i q d (by rw [hdi]; exact he) hq)
      have next : ∀ v τ, Stp 0 σ τ → (Φ i).has τ v → K (a.put o.dst v) τ.w := by
        intro v τ hs hv
        refine hK _ τ ⟨hm.stp.trans hs.toL0, fun h => ?_, hm.ok.put _ _, done' v τ hs.le0 (.inl hv), fun h h2 => ?_, fun h => ?_, same' v⟩
        · simp at h; exact (hm.stp0 h.1).trans hs
        · have hLq : L q = true := by simpa [Ne.symm hiq] using h
          have hLp : L p = false := by simp at h2; exact h2.1
          rw [eval_put_ne hne]
          exact A.up hs (hm.doneq hLq hLp)
        · have hLp : L p = true := by simpa [Ne.symm hip] using h
          rw [eval_put_ne hne]
          exact B.up hs (hm.donep hLp)
      unfold wpOp
      simp only [ho]
      by_cases hw : Region.wanted o (yielded ops a.tmps) = true
      · rw [if_pos hw]
        exact .inl (hrun.1 hw K Q next)
      · rw [if_neg hw]
        exact next undef σ (Stp.refl _ _) (hrun.2 (by simpa using hw))
end Go.KL

/- Runes as the document reads them: -1 for a byte that is none. -/
namespace Go.KL
def runM (s : ByteArray) (p : Nat) : Int := if run1 s p = 65533 ∧ wid s p = 1 then -1 else run1 s p
def nB (b : Nat) : Nat := if 194 ≤ b ∧ b < 224 then 2 else if 224 ≤ b ∧ b < 240 then 3 else if 240 ≤ b ∧ b < 245 then 4 else 0
def cB (b : Nat) : Nat := if 194 ≤ b ∧ b < 224 then b - 192 else if 224 ≤ b ∧ b < 240 then b - 224 else if 240 ≤ b ∧ b < 245 then b - 240 else b
def lowB (b : Nat) : Nat := if 194 ≤ b ∧ b < 224 then 128 else if 224 ≤ b ∧ b < 240 then 2048 else if 240 ≤ b ∧ b < 245 then 65536 else 0
def accR (s : ByteArray) (c : Nat) : Nat → Nat
  | 0 => c
  | j + 1 => accR s c j * 64 + ((s.get! (j + 1)).toNat - 128)
theorem accR1 (s : ByteArray) (c : Nat) : accR s c 1 = c * 64 + ((s.get! 1).toNat - 128) := rfl
theorem accR2 (s : ByteArray) (c : Nat) : accR s c 2 = (c * 64 + ((s.get! 1).toNat - 128)) * 64 + ((s.get! 2).toNat - 128) := rfl
theorem accR3 (s : ByteArray) (c : Nat) : accR s c 3 = ((c * 64 + ((s.get! 1).toNat - 128)) * 64 + ((s.get! 2).toNat - 128)) * 64 + ((s.get! 3).toNat - 128) := rfl
def decP (s : ByteArray) (N : Nat) : Nat × Nat := Lib.decodeN N (s.get! 0).toNat (s.get! 1).toNat (s.get! 2).toNat (s.get! 3).toNat
theorem dec0 (s : ByteArray) : Utf8.decode s 0 = decP s s.size := by rw [Lib.decode_at]; rfl
theorem runM_of {s : ByteArray} {c n : Nat} (h : decP s s.size = (c, n)) (hn : n ≠ 1 ∨ c ≠ 65533) : runM s 0 = c ∧ wid s 0 = n := by
  unfold runM run1 wid
  rw [dec0, h]
  refine ⟨if_neg ?_, rfl⟩
  simp only; omega
theorem runM_no {s : ByteArray} (h : decP s s.size = (65533, 1)) : runM s 0 = -1 ∧ wid s 0 = 1 := by
  unfold runM run1 wid
  rw [dec0, h]
  exact ⟨if_pos ⟨rfl, rfl⟩, rfl⟩
theorem rn_low {s : ByteArray} (h : (s.get! 0).toNat < 128) : runM s 0 = (s.get! 0).toNat ∧ wid s 0 = 1 :=
  runM_of (by unfold decP Lib.decodeN; rw [if_pos h]) (by omega)
theorem nB_cases {b j : Nat} (h0 : nB b ≠ 0) (hj : j + 1 = nB b) : (j = 1 ∧ 194 ≤ b ∧ b < 224) ∨ (j = 2 ∧ 224 ≤ b ∧ b < 240) ∨ (j = 3 ∧ 240 ≤ b ∧ b < 245) := by
  unfold nB at hj h0
  by_cases h1 : 194 ≤ b ∧ b < 224
  · rw [if_pos h1] at hj; exact .inl ⟨by omega, h1⟩
  · rw [if_neg h1] at hj h0
    by_cases h2 : 224 ≤ b ∧ b < 240
    · rw [if_pos h2] at hj; exact .inr (.inl ⟨by omega, h2⟩)
    · rw [if_neg h2] at hj h0
      by_cases h3 : 240 ≤ b ∧ b < 245
      · rw [if_pos h3] at hj; exact .inr (.inr ⟨by omega, h3⟩)
      · rw [if_neg h3] at h0; omega
section
variable {s : ByteArray} (h128 : ¬ (s.get! 0).toNat < 128)
include h128 in
set_option maxRecDepth 100000 in
set_option maxHeartbeats 4000000 in
theorem rn_short (h : nB (s.get! 0).toNat = 0 ∨ s.size < nB (s.get! 0).toNat) (h1 : 1 ≤ s.size) : runM s 0 = -1 ∧ wid s 0 = 1 := by
  refine runM_no ?_
  have l1 := UInt8.toNat_lt (s.get! 1)
  have l2 := UInt8.toNat_lt (s.get! 2)
  have l3 := UInt8.toNat_lt (s.get! 3)
  have l0 := UInt8.toNat_lt (s.get! 0)
  unfold decP
  generalize (s.get! 0).toNat = b0 at *
  generalize (s.get! 1).toNat = b1 at *
  generalize (s.get! 2).toNat = b2 at *
  generalize (s.get! 3).toNat = b3 at *
  unfold nB at h
  unfold Lib.decodeN
  repeat' split
  all_goals first | rfl | (exfalso; split at h <;> (try split at h) <;> (try split at h) <;> omega)
set_option maxRecDepth 100000 in
set_option maxHeartbeats 4000000 in
theorem rn_cont {j : Nat} (hj : j + 1 < nB (s.get! 0).toNat) (h : (s.get! (j + 1)).toNat < 128 ∨ 192 ≤ (s.get! (j + 1)).toNat) : runM s 0 = -1 ∧ wid s 0 = 1 := by
  refine runM_no ?_
  have l1 := UInt8.toNat_lt (s.get! 1)
  have l2 := UInt8.toNat_lt (s.get! 2)
  have l3 := UInt8.toNat_lt (s.get! 3)
  have l0 := UInt8.toNat_lt (s.get! 0)
  have hj4 : j = 0 ∨ j = 1 ∨ j = 2 := by
    unfold nB at hj
    repeat' split at hj
    all_goals omega
  unfold decP
  rcases hj4 with rfl | rfl | rfl <;> simp only [Nat.zero_add, Nat.reduceAdd] at h hj <;> generalize (s.get! 0).toNat = b0 at * <;> generalize (s.get! 1).toNat = b1 at * <;> generalize (s.get! 2).toNat = b2 at * <;> generalize (s.get! 3).toNat = b3 at * <;> unfold nB at hj <;> unfold Lib.decodeN
  all_goals repeat' split
  all_goals first | rfl | (exfalso; split at hj <;> (try split at hj) <;> (try split at hj) <;> omega)
set_option maxRecDepth 2000 in
set_option maxHeartbeats 4000000 in
theorem rn_all (h0 : nB (s.get! 0).toNat ≠ 0) (hs : nB (s.get! 0).toNat ≤ s.size) {j : Nat} (hj : j + 1 = nB (s.get! 0).toNat) (hc : ∀ i, i < j → 128 ≤ (s.get! (i + 1)).toNat ∧ (s.get! (i + 1)).toNat < 192) :
    decP s s.size = if accR s (cB (s.get! 0).toNat) j < lowB (s.get! 0).toNat ∨ 1114111 < accR s (cB (s.get! 0).toNat) j ∨ (55296 ≤ accR s (cB (s.get! 0).toNat) j ∧ accR s (cB (s.get! 0).toNat) j < 57344) then (65533, 1) else (accR s (cB (s.get! 0).toNat) j, nB (s.get! 0).toNat) := by
  have l0 := UInt8.toNat_lt (s.get! 0)
  have hj4 := nB_cases h0 hj
  refine hj4.elim (fun ⟨e, q⟩ => ?_) (fun h => h.elim (fun ⟨e, q⟩ => ?_) (fun ⟨e, q⟩ => ?_))
  · rw [e]
    have c1 := hc 0 (by rw [e]; exact Nat.one_pos)
    rw [Nat.zero_add] at c1
    rw [accR1]
    unfold decP
    clear hc hj h0
    generalize (s.get! 0).toNat = b0 at *
    generalize (s.get! 1).toNat = b1 at *
    have e1 : nB b0 = 2 := by unfold nB; rw [if_pos q]
    have e2 : cB b0 = b0 - 192 := by unfold cB; rw [if_pos q]
    have e3 : lowB b0 = 128 := by unfold lowB; rw [if_pos q]
    rw [e1] at hs
    rw [e1, e2, e3]
    unfold Lib.decodeN
    repeat' split
    all_goals first | (exfalso; omega) | (apply Prod.ext <;> simp only <;> omega)
  · rw [e]
    have c1 := hc 0 (by omega)
    have c2 := hc 1 (by omega)
    simp only [Nat.zero_add, Nat.reduceAdd] at c1 c2
    rw [accR2]
    clear hc hj h0
    unfold decP
    generalize (s.get! 0).toNat = b0 at *
    generalize (s.get! 1).toNat = b1 at *
    generalize (s.get! 2).toNat = b2 at *
    have e1 : nB b0 = 3 := by unfold nB; rw [if_neg (by omega), if_pos q]
    have e2 : cB b0 = b0 - 224 := by unfold cB; rw [if_neg (by omega), if_pos q]
    have e3 : lowB b0 = 2048 := by unfold lowB; rw [if_neg (by omega), if_pos q]
    rw [e1] at hs
    rw [e1, e2, e3]
    unfold Lib.decodeN
    repeat' split
    all_goals first | (exfalso; omega) | (apply Prod.ext <;> simp only <;> omega)
  · rw [e]
    have c1 := hc 0 (by omega)
    have c2 := hc 1 (by omega)
    have c3 := hc 2 (by omega)
    simp only [Nat.zero_add, Nat.reduceAdd] at c1 c2 c3
    rw [accR3]
    clear hc hj h0
    unfold decP
    generalize (s.get! 0).toNat = b0 at *
    generalize (s.get! 1).toNat = b1 at *
    generalize (s.get! 2).toNat = b2 at *
    generalize (s.get! 3).toNat = b3 at *
    have e1 : nB b0 = 4 := by unfold nB; rw [if_neg (by omega), if_neg (by omega), if_pos q]
    have e2 : cB b0 = b0 - 240 := by unfold cB; rw [if_neg (by omega), if_neg (by omega), if_pos q]
    have e3 : lowB b0 = 65536 := by unfold lowB; rw [if_neg (by omega), if_neg (by omega), if_pos q]
    rw [e1] at hs
    rw [e1, e2, e3]
    unfold Lib.decodeN
    repeat' split
    all_goals first | (exfalso; omega) | (apply Prod.ext <;> simp only <;> omega)
end
theorem nb2 {b : Nat} (h : 194 ≤ b ∧ b < 224) : nB b = 2 ∧ cB b = b - 192 ∧ lowB b = 128 := by unfold nB cB lowB; rw [if_pos h, if_pos h, if_pos h]; exact ⟨rfl, rfl, rfl⟩
theorem nb3 {b : Nat} (h : 224 ≤ b ∧ b < 240) : nB b = 3 ∧ cB b = b - 224 ∧ lowB b = 2048 := by
  have h1 : ¬ (194 ≤ b ∧ b < 224) := by omega
  unfold nB cB lowB; rw [if_neg h1, if_neg h1, if_neg h1, if_pos h, if_pos h, if_pos h]; exact ⟨rfl, rfl, rfl⟩
theorem nb4 {b : Nat} (h : 240 ≤ b ∧ b < 245) : nB b = 4 ∧ cB b = b - 240 ∧ lowB b = 65536 := by
  have h1 : ¬ (194 ≤ b ∧ b < 224) := by omega
  have h2 : ¬ (224 ≤ b ∧ b < 240) := by omega
  unfold nB cB lowB; rw [if_neg h1, if_neg h1, if_neg h1, if_neg h2, if_neg h2, if_neg h2, if_pos h, if_pos h, if_pos h]; exact ⟨rfl, rfl, rfl⟩
theorem nb0 {b : Nat} (h1 : ¬ (194 ≤ b ∧ b < 224)) (h2 : ¬ (224 ≤ b ∧ b < 240)) (h3 : ¬ (240 ≤ b ∧ b < 245)) : nB b = 0 ∧ cB b = b ∧ lowB b = 0 := by
  unfold nB cB lowB; rw [if_neg h1, if_neg h1, if_neg h1, if_neg h2, if_neg h2, if_neg h2, if_neg h3, if_neg h3, if_neg h3]; exact ⟨rfl, rfl, rfl⟩
theorem nb_bd (b : Nat) : nB b ≤ 4 ∧ (nB b ≠ 0 → cB b ≤ 31) := by
  by_cases h1 : 194 ≤ b ∧ b < 224
  · have := nb2 h1; omega
  · by_cases h2 : 224 ≤ b ∧ b < 240
    · have := nb3 h2; omega
    · by_cases h3 : 240 ≤ b ∧ b < 245
      · have := nb4 h3; omega
      · have := nb0 h1 h2 h3; omega
theorem acc_bd {s : ByteArray} {c j : Nat} (hc : c ≤ 63) (h : ∀ i, i < j → 128 ≤ (s.get! (i + 1)).toNat ∧ (s.get! (i + 1)).toNat < 192) (hj : j ≤ 3) : accR s c j < 16777216 := by
  have h3 : j = 0 ∨ j = 1 ∨ j = 2 ∨ j = 3 := by omega
  rcases h3 with e | e | e | e
  · rw [e]; show c < _; omega
  · have h0 := h 0 (by omega)
    rw [e, accR1]; simp only [Nat.zero_add] at h0; omega
  · have h0 := h 0 (by omega); have h1 := h 1 (by omega)
    rw [e, accR2]; simp only [Nat.zero_add, Nat.reduceAdd] at h0 h1; omega
  · have h0 := h 0 (by omega); have h1 := h 1 (by omega); have h2 := h 2 (by omega)
    rw [e, accR3]; simp only [Nat.zero_add, Nat.reduceAdd] at h0 h1 h2; omega
theorem acc_snoc {s : ByteArray} {j : Nat} (h : ∀ i, i < j → 128 ≤ (s.get! (i + 1)).toNat ∧ (s.get! (i + 1)).toNat < 192) (h1 : 128 ≤ (s.get! (j + 1)).toNat) (h2 : (s.get! (j + 1)).toNat < 192) : ∀ i, i < j + 1 → 128 ≤ (s.get! (i + 1)).toNat ∧ (s.get! (i + 1)).toNat < 192 := by
  intro i hi
  by_cases e : i = j
  · rw [e]; exact ⟨h1, h2⟩
  · exact h i (by omega)
theorem rn_bad {s : ByteArray} (h0 : nB (s.get! 0).toNat ≠ 0) (hs : nB (s.get! 0).toNat ≤ s.size) {j : Nat} (hj : j + 1 = nB (s.get! 0).toNat) (hc : ∀ i, i < j → 128 ≤ (s.get! (i + 1)).toNat ∧ (s.get! (i + 1)).toNat < 192)
    (h : accR s (cB (s.get! 0).toNat) j < lowB (s.get! 0).toNat ∨ 1114111 < accR s (cB (s.get! 0).toNat) j ∨ (55296 ≤ accR s (cB (s.get! 0).toNat) j ∧ accR s (cB (s.get! 0).toNat) j < 57344)) : runM s 0 = -1 ∧ wid s 0 = 1 :=
  runM_no (by rw [rn_all h0 hs hj hc, if_pos h])
theorem rn_ok {s : ByteArray} (h0 : nB (s.get! 0).toNat ≠ 0) (hs : nB (s.get! 0).toNat ≤ s.size) {j : Nat} (hj : j + 1 = nB (s.get! 0).toNat) (hc : ∀ i, i < j → 128 ≤ (s.get! (i + 1)).toNat ∧ (s.get! (i + 1)).toNat < 192)
    (h : ¬ (accR s (cB (s.get! 0).toNat) j < lowB (s.get! 0).toNat ∨ 1114111 < accR s (cB (s.get! 0).toNat) j ∨ (55296 ≤ accR s (cB (s.get! 0).toNat) j ∧ accR s (cB (s.get! 0).toNat) j < 57344))) : runM s 0 = accR s (cB (s.get! 0).toNat) j ∧ wid s 0 = nB (s.get! 0).toNat :=
  runM_of (by rw [rn_all h0 hs hj hc, if_neg h]) (by have := nB_cases h0 hj; omega)
/-! ### All runes of a text -/
def runsF (s : ByteArray) : Nat → Nat → List Int
  | 0, _ => []
  | f + 1, p => if p < s.size then runM s p :: runsF s f (p + wid s p) else []
def runsL (s : ByteArray) : List Int := runsF s s.size 0
theorem runsF_end {s : ByteArray} {f p : Nat} (h : s.size ≤ p) : runsF s f p = [] := by cases f <;> simp [runsF, show ¬ p < s.size by omega]
theorem runsF_step {s : ByteArray} {f p : Nat} {xs zs : List Int} (h : xs ++ runsF s f p = zs) (hp : p < s.size) (hf : s.size ≤ f + p) : (xs ++ [runM s p]) ++ runsF s (f - 1) (p + wid s p) = zs := by
  obtain ⟨f, rfl⟩ : ∃ g, f = g + 1 := ⟨f - 1, by omega⟩
  rw [runsF, if_pos hp] at h
  rw [← h]; simp
theorem get_ext {s : ByteArray} {p i : Nat} : (s.extract p s.size).get! i = s.get! (p + i) := by
  have hsz : (s.extract p s.size).size = s.size - p := by rw [ByteArray.size_extract]; omega
  by_cases h : i < s.size - p
  · have h1 : i < (s.extract p s.size).size := by omega
    rw [get_list h1, get_list (s := s) (i := p + i) (by omega)]
    simp [ByteArray.data_extract]
  · have a1 : (s.extract p s.size).get! i = default := by
      show (s.extract p s.size).data[i]! = default
      rw [getElem!_neg]
      show ¬ i < (s.extract p s.size).size
      omega
    have a2 : s.get! (p + i) = default := by
      show s.data[p + i]! = default
      rw [getElem!_neg]
      show ¬ p + i < s.size
      omega
    rw [a1, a2]
theorem dec_ext (s : ByteArray) (p : Nat) : Utf8.decode (s.extract p s.size) 0 = Utf8.decode s p := by
  have hsz : (s.extract p s.size).size = s.size - p := by rw [ByteArray.size_extract]; omega
  rw [Lib.decode_at, Lib.decode_at, hsz, get_ext, get_ext, get_ext, get_ext]
  simp only [Nat.add_zero, Nat.zero_add, Nat.sub_zero]
theorem ext_run (s : ByteArray) (p : Nat) : runM (s.extract p s.size) 0 = runM s p ∧ wid (s.extract p s.size) 0 = wid s p := by
  unfold runM run1 wid; rw [dec_ext]; exact ⟨rfl, rfl⟩
theorem wid_in {s : ByteArray} {p : Nat} (h : p < s.size) : p + wid s p ≤ s.size := by
  have hw : wid s p ≤ s.size - p := by
    unfold wid
    rw [Lib.decode_at]
    unfold Lib.decodeN
    repeat' split
    all_goals (simp only; omega)
  omega
theorem ext_ext {s : ByteArray} {p n : Nat} (h : p + n ≤ s.size) : (s.extract p s.size).extract n (s.extract p s.size).size = s.extract (p + n) s.size := by
  rw [ByteArray.extract_extract, ByteArray.size_extract]
  congr 1
  omega
end Go.KL

/- What the law RowSays wants beside: cycles as the document finds them, text by signs. -/
namespace Go.KL
end Go.KL

/- Patterns of bells: the maths. -/
namespace Go.KL
theorem runsF_cons {s : ByteArray} {f p : Nat} (hp : p < s.size) (hf : s.size ≤ f + p) : runsF s f p = runM s p :: runsF s (f - 1) (p + wid s p) := by
  obtain ⟨f, rfl⟩ : ∃ g, f = g + 1 := ⟨f - 1, by omega⟩
  rw [runsF, if_pos hp]; rfl
/-! ### Signs -/
theorem run_m (s : ByteArray) (p : Nat) : runM s p = ((run1 s p : Nat) : Int) ∨ (runM s p = -1 ∧ run1 s p = 65533) := by
  unfold runM
  split
  · rename_i h; exact .inr ⟨rfl, h.1⟩
  · exact .inl rfl
/-! ### Ahead of the star and behind it -/
/-! ### What was seen -/
/-! ### Like a pattern -/
/-! ### Steps -/
/-! ### A pattern that may be -/
/-! ### The walks of Like and fits -/
end Go.KL

/- Results of which the first lies in a struct's variable. -/
namespace Go.KL
open Go.RowKit
variable {P : Program} {fn : Func} {σ0 σ : GW} {a : Act} {N d e f : Nat} {D : List Deferred} {L : List Nat} {R : Value → GW → Prop}
theorem run_cell {t k : Nat} {T : TypeId} {fs : Array Field} {z : Value} {by_ : Nat} {ts : List Ty} (hT : P.underlying T = some (.struct fs)) (he : Info P T z ts.length by_) (h : OwnP σ k (a.eval (.tmp t)) ts) :
    ∃ ad cur, a.tmps.getD t undef = .pointer (some ad) ∧ (loadVar T ad).run P σ.w = .ok (.agg cur) σ.w ∧ (Ty.agg ts).has σ (.agg cur) := by
  obtain ⟨gg, e', cur, e1, h2, h3, h4, h5⟩ := h
  have hl := run_loadVar (P := P) hT he (w := σ.w) (ad := ⟨gg, 0, none⟩) (us := cur.toList) (by simp [h4]) (fun j u hj => by
    rw [Addr.add_lit, Nat.zero_add]
    simp at hj
    simp [World.cell?, h3, hj])
  exact ⟨_, cur, e1, by simpa using hl, cur, rfl, h4, h5⟩
theorem retL2c {t k : Nat} {T : TypeId} {fs : Array Field} {z : Value} {by_ : Nat} {ts : List Ty} (hr : fn.results = #[.cell t T, .tmp e]) (ok : Ok N [] a) (hF : FromL L σ0 σ) (hT : P.underlying T = some (.struct fs)) (he : Info P T z ts.length by_) (h : OwnP σ k (a.eval (.tmp t)) ts)
    (hR : ∀ v, (Ty.agg ts).has σ v → R (.tuple #[v, a.eval (.tmp e)]) σ) : bodyPost P fn (RetL σ0 L R) .ret a σ.w := by
  obtain ⟨ad, cur, e2, hl, hv⟩ := run_cell hT he h
  refine bodyPost_ret (v := .tuple #[.agg cur, a.eval (.tmp e)]) ?_ ok.defers ⟨_, σ, rfl, hF, rfl, hR _ hv⟩
  have e3 : a.tmps[t]?.getD undef = .pointer (some ad) := by rw [← e2, Array.getD_eq_getD_getElem?]
  simp [results, hr, e3, asAddr, hl, Act.eval]
theorem nil_has {α : Type} {f : α → Ty} {xs : List α} {σ : GW} (e : xs = []) : (Ty.lst f xs).has σ (.slice none 0 0) := by subst e; exact sl_nil
end Go.KL

/- How many rows are like patterns. -/
namespace Go.KL
abbrev Ty.str (s : ByteArray) : Ty := Ty.val (.string s)
end Go.KL

/- Rows whose elements are structs of c cells. -/
namespace Go.KL
open Go.RowKit
variable {P : Program} {d : Option Tmp} {ty : TypeId} {pos : String} {af : Array Edge} {g : Option (Nat × Bool)} {a : Act} {σ : GW}
abbrev Ty.lstc {α : Type} (c : Nat) (F : α → List Ty) (xs : List α) : Ty := Ty.sl c xs.length (xs.flatMap F)
theorem flat_get {α : Type} {c : Nat} {F : α → List Ty} (hF : ∀ x, (F x).length = c) (dd : α) : ∀ {xs : List α} {i : Nat}, i < xs.length → ∀ j, j < c → (xs.flatMap F)[i * c + j]? = (F (xs.getD i dd))[j]?
  | [], i, h, _, _ => by simp at h
  | x :: xs, 0, _, j, hj => by
    rw [List.flatMap_cons, Nat.zero_mul, Nat.zero_add, List.getElem?_append_left (by rw [hF]; exact hj)]
    simp
  | x :: xs, i + 1, h, j, hj => by
    rw [List.flatMap_cons, List.getElem?_append_right (by rw [hF, Nat.succ_mul]; omega), hF, show (i + 1) * c + j - c = i * c + j by rw [Nat.succ_mul]; omega, flat_get hF dd (by simpa using h) j hj]
    simp
theorem y_indexc {α : Type} {c : Nat} {F : α → List Ty} {xs : List α} (dd : α) {x y : Operand} {t e : TypeId} {z : Value} {b : Nat} {k : IntKind} {i : Int} (ht : P.underlying t = some (.slice e)) (he : Info P e z c b)
    (hx : At (Ty.lstc c F xs) σ a x) (hy : a.eval y = .int k i) (h0 : 0 ≤ i) (h1 : i.toNat < xs.length) (hc : 0 < c) (hF : ∀ x, (F x).length = c) :
    Yld P ⟨d, .indexAddr t x y, ty, pos, af, g⟩ a σ (Ty.ref (F (xs.getD i.toNat dd))).pr :=
  y_indexAddr ht he hx hy h0 (by omega) hc (fun j hj => flat_get hF dd h1 j hj) (hF _)
theorem fold_set : ∀ (vs : List Value) (o : Nat) (cur : Array Value), o + vs.length ≤ cur.size → ((vs.zipIdx o).foldl (fun (q : Array Value) (p : Value × Nat) => q.setIfInBounds p.2 p.1) cur).size = cur.size ∧
      (∀ j, j < vs.length → ((vs.zipIdx o).foldl (fun (q : Array Value) (p : Value × Nat) => q.setIfInBounds p.2 p.1) cur)[o + j]? = vs[j]?) ∧ ∀ i, i < o → ((vs.zipIdx o).foldl (fun (q : Array Value) (p : Value × Nat) => q.setIfInBounds p.2 p.1) cur)[i]? = cur[i]?
  | [], o, cur, _ => ⟨rfl, fun j hj => by simp at hj, fun i _ => rfl⟩
  | v :: vs, o, cur, h => by
    simp only [List.length_cons] at h
    obtain ⟨k1, k2, k3⟩ := fold_set vs (o + 1) (cur.setIfInBounds o v) (by simp; omega)
    simp only [List.zipIdx_cons, List.foldl_cons]
    refine ⟨by rw [k1]; simp, fun j hj => ?_, fun i hi => ?_⟩
    · cases j with
      | zero =>
        have := k3 o (by omega)
        rw [Array.getElem?_setIfInBounds_self_of_lt (by omega)] at this
        simpa using this
      | succ j =>
        have := k2 j (by simpa using hj)
        rw [show o + (j + 1) = o + 1 + j by omega, this]; simp
    · rw [k3 i (by omega), Array.getElem?_setIfInBounds_ne (by omega)]
theorem fold_whole {cs z : Array Value} (h : z.size = cs.size) : (cs.zipIdx.foldl (fun (q : Array Value) (p : Value × Nat) => q.setIfInBounds p.2 p.1) z) = cs := by
  rw [← Array.foldl_toList, Array.toList_zipIdx]
  obtain ⟨k1, k2, _⟩ := fold_set cs.toList 0 z (by simp [h])
  refine Array.ext (by rw [k1, h]) fun j h1 h2 => ?_
  have := k2 j (by simpa using h2)
  rw [Nat.zero_add] at this
  simp only [Array.getElem?_toList] at this
  rw [Array.getElem?_eq_getElem h1, Array.getElem?_eq_getElem h2] at this
  exact Option.some.inj this
theorem y_build1c {c : Nat} {x : Operand} {t e : TypeId} {ts : List Ty} {z : Value} {b : Nat} (ht : P.underlying t = some (.slice e)) (he : Info P e z c b) (hz : z.cells.size = c) (hc : 0 < c) (hc2 : c ≤ 16777216) (hl : ts.length = c) (hx : At (.agg ts) σ a x) :
    Yld P ⟨d, .buildSlice t 1 #[(0, x)], ty, pos, af, g⟩ a σ (Ty.sl c 1 ts).pr := by
  obtain ⟨cs, e1, hcs, hcl⟩ := hx
  have hsz : cs.size = c := by omega
  intro K Q hk
  have hr : (execOp a.eval ⟨d, .buildSlice t 1 #[(0, x)], ty, pos, af, g⟩).run P σ.w = .ok (.value (.slice (some ⟨σ.w.heap.size, 0, none⟩) 1 1)) (σ.w.alloc (.cells cs e)) := by
    simp only [execOp, List.map_toArray, List.map_cons, List.map_nil, e1]
    have hw : ∀ q : Array Value, q.size = c → cs.zipIdx.foldl (fun (q : Array Value) (p : Value × Nat) => q.setIfInBounds p.2 p.1) q = cs := fun q hq => fold_whole (by omega)
    have h1 : ¬ c > 16777216 := by omega
    have h2 : ¬ c = 0 := by omega
    simp [Instr.buildSlice, run_underlying ht, he.size, he.zero, Instr.fill, Value.cells, hsz, h2, newRow, newObj, Sem.run, Sem.run_bind, show ¬ 16777216 < c by omega]
    generalize hq : Array.map _ (Array.range c) = q
    have hqs : q.size = c := by rw [← hq]; simp
    have h5 := hw q hqs
    simp only [Array.size_zipIdx] at h5
    first | rw [h5] | (rw [hsz] at h5; rw [h5])
  unfold Oper.wp
  rw [hr]
  refine hk _ (σ.seal (.cells cs e)) (Stp.seal _ _) ⟨_, 1, σ.w.heap.size, 0, rfl, ⟨Nat.le_refl _, by decide⟩, by omega, .inr ⟨rfl, by simp [GW.seal]⟩, fun j V hj => ?_⟩
  have hj2 : j < cs.size := by rw [hsz, ← hl]; exact (List.getElem?_eq_some_iff.1 hj).1
  refine ⟨cs[j], ?_, V.up (Stp.seal _ _).le0 (hcl j V _ hj (by simp [hj2]))⟩
  show World.cell? (σ.w.alloc _) _ = _
  simp only [World.cell?, heap_alloc_new]
  simp [hj2]
theorem one_flat {α : Type} {F : α → List Ty} {xs : List α} (h : ∀ x, ∀ U ∈ F x, One U) : ∀ U, U ∈ xs.flatMap F → One U := fun U hU => by
  obtain ⟨x, _, hx⟩ := List.mem_flatMap.1 hU; exact h x U hx
/-! ### Patterns -/
end Go.KL

/- Plain maths: calls and touches. -/
namespace Go.KL
abbrev BCall := Int × List (List Int)
/-! ### Which calls may be -/
abbrev D0 : BCall := (0, [])
theorem mem_getDD {α : Type} (d : α) {l : List α} {k : Nat} (h : k < l.length) : l.getD k d ∈ l := by
  rw [List.getD_eq_getElem?_getD, List.getElem?_eq_getElem h]; exact List.getElem_mem _
/-! ### The changes of a lead -/
/-! ### The rows of a touch -/
section
variable {nm : ByteArray} {n : Nat} {l : List (List Int)} {cs : List BCall} {leads : List Int}
end
/-! ### Which touches may be -/
end Go.KL

/- Closures over one variable; slices.Grow of nothing; cuts of rows of structs. -/
namespace Go.KL
open Go.RowKit
variable {P : Program} {d : Option Tmp} {ty : TypeId} {pos : String} {af : Array Edge} {g : Option (Nat × Bool)} {a : Act} {σ : GW}
/-! ### slices.Grow of nothing -/
/-! ### Cuts of rows of structs -/
theorem flat_take {α : Type} {c : Nat} {F : α → List Ty} (hF : ∀ x, (F x).length = c) : ∀ (xs : List α) (h : Nat), (xs.flatMap F).take (h * c) = (xs.take h).flatMap F
  | [], h => by simp
  | x :: xs, 0 => by simp
  | x :: xs, h + 1 => by
    rw [List.flatMap_cons, List.take_succ_cons, List.flatMap_cons, List.take_append, hF, ← flat_take hF xs h, List.take_of_length_le (by rw [hF, Nat.succ_mul]; omega), Nat.succ_mul, Nat.add_sub_cancel]
/-! ### Signs of calls -/
theorem getD_fst (cs : List BCall) (j : Nat) : (cs.map (·.1)).getD j 0 = (cs.getD j D0).1 := by
  rw [List.getD_eq_getElem?_getD, List.getD_eq_getElem?_getD, List.getElem?_map]
  cases cs[j]? <;> rfl
theorem idxC_yes {cs : List BCall} {s : Int} {k : Nat} (hk : k < cs.length) (h : (cs.getD k D0).1 = s) (hno : ∀ j, j < k → (cs.getD j D0).1 ≠ s) : indexL (cs.map (·.1)) s = k :=
  indexL_yes (by rw [List.length_map]; exact hk) (by rw [getD_fst]; exact h.symm) (fun j hj => by rw [getD_fst]; exact hno j hj)
end Go.KL

/- Plain maths: is a touch true? -/
namespace Go.KL
end Go.KL
namespace Go.KL
theorem getD_takeD {α : Type} (d : α) {l : List α} {m k : Nat} (h : k < m) : (l.take m).getD k d = l.getD k d := by
  rw [List.getD_eq_getElem?_getD, List.getD_eq_getElem?_getD, List.getElem?_take_of_lt h]
end Go.KL

/- Plain maths: names by their runes. -/
namespace Go.KL
theorem run0_facts {s : ByteArray} (h1 : 1 ≤ s.size) : ((s.get! 0).toNat < 128 ∧ runM s 0 = (s.get! 0).toNat ∧ wid s 0 = 1) ∨ (runM s 0 ≠ 32 ∧ 128 ≤ (s.get! (wid s 0 - 1)).toNat) := by
  by_cases hb : (s.get! 0).toNat < 128
  · exact .inl ⟨hb, rn_low hb⟩
  · refine .inr ?_
    have bad : runM s 0 = -1 ∧ wid s 0 = 1 → runM s 0 ≠ 32 ∧ 128 ≤ (s.get! (wid s 0 - 1)).toNat := fun ⟨a, b⟩ => by rw [a, b]; exact ⟨by decide, by simpa using hb⟩
    by_cases h2 : nB (s.get! 0).toNat = 0 ∨ s.size < nB (s.get! 0).toNat
    · exact bad (rn_short hb h2 h1)
    · have h0 : nB (s.get! 0).toNat ≠ 0 := fun e => h2 (.inl e)
      have hs : nB (s.get! 0).toNat ≤ s.size := by omega
      obtain ⟨j, hj⟩ : ∃ j, j + 1 = nB (s.get! 0).toNat := ⟨nB (s.get! 0).toNat - 1, by omega⟩
      have hjc := nB_cases h0 hj
      by_cases hc : ∀ i, i < j → 128 ≤ (s.get! (i + 1)).toNat ∧ (s.get! (i + 1)).toNat < 192
      · by_cases hv : accR s (cB (s.get! 0).toNat) j < lowB (s.get! 0).toNat ∨ 1114111 < accR s (cB (s.get! 0).toNat) j ∨ (55296 ≤ accR s (cB (s.get! 0).toNat) j ∧ accR s (cB (s.get! 0).toNat) j < 57344)
        · exact bad (rn_bad h0 hs hj hc hv)
        · obtain ⟨a, b⟩ := rn_ok h0 hs hj hc hv
          have hlow : 128 ≤ lowB (s.get! 0).toNat := by
            rcases hjc with ⟨_, h⟩ | ⟨_, h⟩ | ⟨_, h⟩
            · rw [(nb2 h).2.2]; omega
            · rw [(nb3 h).2.2]; omega
            · rw [(nb4 h).2.2]; omega
          rw [a, b]
          refine ⟨by omega, ?_⟩
          have := hc (j - 1) (by omega)
          rw [show nB (s.get! 0).toNat - 1 = j - 1 + 1 by omega]; exact this.1
      · obtain ⟨i, hi⟩ := Classical.not_forall.1 hc
        obtain ⟨hi1, hi2⟩ := Classical.not_imp.1 hi
        exact bad (rn_cont (j := i) (by omega) (by omega))
theorem run_facts {s : ByteArray} {p : Nat} (h : p < s.size) : ((s.get! p).toNat < 128 ∧ runM s p = (s.get! p).toNat ∧ wid s p = 1) ∨ (runM s p ≠ 32 ∧ 128 ≤ (s.get! (p + (wid s p - 1))).toNat) := by
  have h0 := run0_facts (s := s.extract p s.size) (by rw [ByteArray.size_extract]; omega)
  rwa [(ext_run s p).1, (ext_run s p).2, get_ext, get_ext, Nat.add_zero] at h0
theorem letter_m (s : ByteArray) (p : Nat) : letterB (runM s p) = letterB ((run1 s p : Nat) : Int) := by
  rcases run_m s p with h | ⟨h1, h2⟩
  · rw [h]
  · rw [h1, h2]; rfl
theorem runs_all (s : ByteArray) : ∀ (f p : Nat), (runsF s f p).all letterB = (runesF s f p).all (fun (c : Nat) => letterB (c : Int)) ∧ (runsF s f p).length = (runesF s f p).length
  | 0, p => ⟨rfl, rfl⟩
  | f + 1, p => by
    rw [runsF, runesF]
    obtain ⟨h1, h2⟩ := runs_all s f (p + wid s p)
    split
    · exact ⟨by rw [List.all_cons, List.all_cons, h1, letter_m], by rw [List.length_cons, List.length_cons, h2]⟩
    · exact ⟨rfl, rfl⟩
theorem runs_last {s : ByteArray} : ∀ (f p : Nat), p < s.size → s.size ≤ f + p → ((runsF s f p).getD ((runsF s f p).length - 1) 0 = 32 ↔ (s.get! (s.size - 1)).toNat = 32)
  | 0, p, h1, h2 => by omega
  | f + 1, p, h1, h2 => by
    have hw := wid_pos s p
    have hi := wid_in h1
    rw [runsF, if_pos h1]
    by_cases e : p + wid s p < s.size
    · have ih := runs_last f (p + wid s p) e (by omega)
      have hne : 1 ≤ (runsF s f (p + wid s p)).length := by
        rw [runsF_cons e (by omega), List.length_cons]; omega
      rw [List.length_cons, Nat.add_sub_cancel]
      obtain ⟨m, hm⟩ : ∃ m, (runsF s f (p + wid s p)).length = m + 1 := ⟨_, (Nat.sub_add_cancel hne).symm⟩
      rw [hm, List.getD_cons_succ]
      rw [hm, Nat.add_sub_cancel] at ih
      exact ih
    · rw [runsF_end (by omega)]
      show runM s p = 32 ↔ _
      rcases run_facts h1 with ⟨_, h4, h5⟩ | ⟨h3, h4⟩
      · rw [h4, show s.size - 1 = p by omega]; omega
      · rw [show p + (wid s p - 1) = s.size - 1 by omega] at h4
        constructor
        · intro h; exact absurd h h3
        · intro h; omega
def nameI (l : List Int) : Bool := decide (1 ≤ l.length ∧ l.length ≤ 20 ∧ l.getD 0 0 ≠ 32 ∧ l.getD (l.length - 1) 0 ≠ 32) && l.all letterB
theorem name_eq (s : ByteArray) : nameI (runsL s) = nameL s := by
  obtain ⟨h1, h2⟩ := runs_all s s.size 0
  unfold nameI nameL runsL runesL
  rw [h1, ← h2, Bool.and_comm]
  congr 1
  by_cases hz : s.size = 0
  · rw [runsF_end (s := s) (f := s.size) (p := 0) (by omega)]
    simp
  · have hl := runs_last (s := s) s.size 0 (by omega) (by omega)
    have hf : (runsF s s.size 0).getD 0 0 = 32 ↔ (s.get! 0).toNat = 32 := by
      rw [runsF_cons (s := s) (f := s.size) (p := 0) (by omega) (by omega), List.getD_cons_zero]
      rcases run_facts (s := s) (p := 0) (by omega) with ⟨_, h4, _⟩ | ⟨h3, h4⟩
      · rw [h4]; omega
      · constructor
        · intro h; exact absurd h h3
        · intro h
          have := (rn_low (s := s) (by omega)).1
          rw [h] at this; exact absurd this h3
    rw [Bool.eq_iff_iff]
    simp only [Bool.and_eq_true, decide_eq_true_eq]
    constructor
    · rintro ⟨a, b, c, d⟩
      exact ⟨⟨⟨by omega, by omega⟩, fun h => c (hf.2 (by omega))⟩, fun h => d (hl.2 (by omega))⟩
    · rintro ⟨⟨⟨a, b⟩, c⟩, d⟩
      exact ⟨by omega, by omega, fun h => c (by have := hf.1 h; omega), fun h => d (by have := hl.1 h; omega)⟩
theorem name_bad {l : List Int} (h : l.length < 1 ∨ 20 < l.length ∨ l.getD 0 0 = 32 ∨ l.getD (l.length - 1) 0 = 32) : nameI l = false := by
  unfold nameI
  rw [decide_eq_false (by omega), Bool.false_and]
theorem name_let {l : List Int} {i : Nat} (hi : i < l.length) (h : letterB (l.getD i 0) = false) : nameI l = false := by
  unfold nameI
  rw [Bool.and_eq_false_iff]; right
  rw [List.all_eq_false]
  exact ⟨_, mem_getDD 0 hi, by rw [h]; exact Bool.false_ne_true⟩
theorem name_good {l : List Int} (h : ¬ (l.length < 1 ∨ 20 < l.length ∨ l.getD 0 0 = 32 ∨ l.getD (l.length - 1) 0 = 32)) (h2 : ∀ i, i < l.length → letterB (l.getD i 0) = true) : nameI l = true := by
  unfold nameI
  rw [decide_eq_true (by omega), Bool.true_and, List.all_eq_true]
  intro x hx
  obtain ⟨i, hi, rfl⟩ := List.getElem_of_mem hx
  have := h2 i hi
  rw [List.getD_eq_getElem?_getD, List.getElem?_eq_getElem hi] at this; exact this
end Go.KL

/- Literals of structs in rows of one's own. -/
namespace Go.KL
open Go.RowKit
variable {P : Program} {d : Option Tmp} {ty : TypeId} {pos : String} {af : Array Edge} {g : Option (Nat × Bool)} {a : Act} {σ : GW}
end Go.KL

/- Structs that are built of structs; 'append' of what is owned. -/
namespace Go.KL
open Go.RowKit
variable {P : Program}
theorem Own.src {σ : GW} {k : Nat} {e : TypeId} {c : Nat} {v : Value} {n : Nat} {ts : List Ty} (h : Own σ k e c v n ts) : ∃ ad cap b o, v = .slice ad n cap ∧ ts.length = n * c ∧ (ts = [] ∨ ad = some (⟨b, o, none⟩ : Addr)) ∧ Cells σ b o ts := by
  have hl := h.len
  obtain ⟨us, h1, h2, h3, h4⟩ := h
  rcases h1.2 with ⟨rfl, rfl⟩ | ⟨g, cap, cur, rfl, _⟩
  · have : ts = [] := List.eq_nil_of_length_eq_zero (by omega)
    subst this
    exact ⟨none, 0, 0, 0, rfl, by simp, .inl rfl, fun j T hj => by simp at hj⟩
  · refine ⟨_, cap, g, 0, rfl, hl, .inr rfl, fun j T hj => ?_⟩
    have hlt := (List.getElem?_eq_some_iff.1 hj).1
    have hu : us[j]? = some us[j] := by simp [show j < us.length by omega]
    refine ⟨us[j], ?_, h3 j T _ hj hu⟩
    have := h1.cells (g := g) rfl j _ hu
    rwa [Addr.add_lit] at this
variable {d : Option Tmp} {ty : TypeId} {pos : String} {af : Array Edge} {g : Option (Nat × Bool)} {a : Act} {σ : GW}
/-! ### Structs of structs -/
def Fits (σ : GW) (v : Value) (us : List Ty) : Prop := v.cells.size = us.length ∧ ∀ (j : Nat) (T : Ty) (u : Value), us[j]? = some T → v.cells[j]? = some u → T.has σ u
theorem fits_agg {ts : List Ty} {v : Value} (h : (Ty.agg ts).has σ v) : Fits σ v ts := by
  obtain ⟨cs, rfl, h1, h2⟩ := h
  exact ⟨h1, h2⟩
def splice (ts : List Ty) (o : Nat) (us : List Ty) : List Ty := ts.take o ++ us ++ ts.drop (o + us.length)
theorem splice_len {ts us : List Ty} {o : Nat} (h : o + us.length ≤ ts.length) : (splice ts o us).length = ts.length := by
  unfold splice; simp only [List.length_append, List.length_take, List.length_drop]; omega
theorem splice_in {ts us : List Ty} {o j : Nat} (h : o + us.length ≤ ts.length) (hj : j < us.length) : (splice ts o us)[o + j]? = us[j]? := by
  unfold splice
  rw [List.append_assoc, List.getElem?_append_right (by rw [List.length_take]; omega), List.length_take, show o + j - min o ts.length = j by omega, List.getElem?_append_left hj]
theorem splice_out {ts us : List Ty} {o i : Nat} (h : o + us.length ≤ ts.length) (hi : i < o ∨ o + us.length ≤ i) : (splice ts o us)[i]? = ts[i]? := by
  unfold splice
  rcases hi with hi | hi
  · rw [List.append_assoc, List.getElem?_append_left (by rw [List.length_take]; omega), List.getElem?_take_of_lt hi]
  · rw [List.getElem?_append_right (by rw [List.length_append, List.length_take]; omega), List.length_append, List.length_take, List.getElem?_drop]
    congr 1; omega
theorem fold_at : ∀ (vs : List Value) (o j0 : Nat) (cur : Array Value), o + j0 + vs.length ≤ cur.size → ((vs.zipIdx j0).foldl (fun (q : Array Value) (p : Value × Nat) => q.setIfInBounds (o + p.2) p.1) cur).size = cur.size ∧
      (∀ j, j < vs.length → ((vs.zipIdx j0).foldl (fun (q : Array Value) (p : Value × Nat) => q.setIfInBounds (o + p.2) p.1) cur)[o + j0 + j]? = vs[j]?) ∧
      ∀ i, (i < o + j0 ∨ o + j0 + vs.length ≤ i) → ((vs.zipIdx j0).foldl (fun (q : Array Value) (p : Value × Nat) => q.setIfInBounds (o + p.2) p.1) cur)[i]? = cur[i]?
  | [], o, j0, cur, _ => ⟨rfl, fun j hj => by simp at hj, fun i _ => rfl⟩
  | v :: vs, o, j0, cur, h => by
    simp only [List.length_cons] at h
    obtain ⟨k1, k2, k3⟩ := fold_at vs o (j0 + 1) (cur.setIfInBounds (o + j0) v) (by simp; omega)
    simp only [List.zipIdx_cons, List.foldl_cons]
    refine ⟨by rw [k1]; simp, fun j hj => ?_, fun i hi => ?_⟩
    · cases j with
      | zero =>
        have := k3 (o + j0) (.inl (by omega))
        rw [Array.getElem?_setIfInBounds_self_of_lt (by omega)] at this
        simpa using this
      | succ j =>
        have := k2 j (by simpa using hj)
        rw [show o + j0 + (j + 1) = o + (j0 + 1) + j by omega, this]; simp
    · simp only [List.length_cons] at hi
      rw [k3 i (by omega), Array.getElem?_setIfInBounds_ne (by omega)]
def bldT2 (l : List (Nat × Nat)) : List (Nat × Operand × List Ty) → List Ty → List Ty
  | [], ts => ts
  | p :: ps, ts => bldT2 l ps (match l[p.1]? with | some (off, _) => splice ts off p.2.2 | none => ts)
def bldOk2 (l : List (Nat × Nat)) (n : Nat) (is : List (Nat × Nat)) : Bool := is.all fun i => match l[i.1]? with | some (off, sz) => decide (sz = i.2 ∧ off + i.2 ≤ n) | _ => false
theorem Typed.splice {σ : GW} {cs : Array Value} {ts us : List Ty} (h : Typed σ cs ts) {off : Nat} {v : Value} (hv : Fits σ v us) (ho : off + us.length ≤ ts.length) :
    Typed σ (v.cells.zipIdx.foldl (fun (q : Array Value) (p : Value × Nat) => q.setIfInBounds (off + p.2) p.1) cs) (splice ts off us) := by
  obtain ⟨k1, k2, k3⟩ := fold_at v.cells.toList off 0 cs (by rw [Array.length_toList, hv.1, h.1]; omega)
  rw [← Array.foldl_toList, Array.toList_zipIdx]
  refine ⟨by rw [k1, splice_len ho, h.1], fun j T u hj hu => ?_⟩
  by_cases hin : off ≤ j ∧ j < off + us.length
  · obtain ⟨i, rfl⟩ : ∃ i, j = off + i := ⟨j - off, by omega⟩
    have h2 := k2 i (by rw [Array.length_toList, hv.1]; omega)
    rw [Nat.add_zero] at h2
    rw [h2] at hu
    rw [splice_in ho (by omega)] at hj
    exact hv.2 i T u hj (by simpa using hu)
  · have h3 := k3 j (by rw [Array.length_toList, hv.1]; omega)
    rw [h3] at hu
    rw [splice_out ho (by omega)] at hj
    exact h.2 j T u hj hu
theorem fill_typed2 {σ : GW} {a : Act} {l : List (Nat × Nat)} {n : Nat} : ∀ (ps : List (Nat × Operand × List Ty)) (cur : Array Value) (ts : List Ty), cur.size = n → ts.length = n → Typed σ cur ts → (∀ p ∈ ps, Fits σ (a.eval p.2.1) p.2.2) → bldOk2 l n (ps.map fun p => (p.1, p.2.2.length)) = true →
    ∃ cells, Instr.fill (fun i => l[i]?) cur (ps.map fun p => (p.1, a.eval p.2.1)) = some cells ∧ Typed σ cells (bldT2 l ps ts)
  | [], cur, ts, _, _, h, _, _ => ⟨cur, rfl, h⟩
  | p :: ps, cur, ts, hn, hn2, h, hp, hb => by
    have h1 := hp p (by simp)
    rw [bldOk2, List.map_cons, List.all_cons, Bool.and_eq_true] at hb
    obtain ⟨hb1, hb2⟩ := hb
    cases hl : l[p.1]? with
    | none => simp only [hl] at hb1; cases hb1
    | some q =>
      obtain ⟨off, sz⟩ := q
      simp only [hl, decide_eq_true_eq] at hb1
      obtain ⟨hsz, hoff⟩ := hb1
      have ht := h.splice h1 (off := off) (by omega)
      have hcur := ht.1
      rw [splice_len (by omega)] at hcur
      obtain ⟨cells, e1, e2⟩ := fill_typed2 ps _ _ (hcur.trans hn2) ((splice_len (by omega)).trans hn2) ht (fun q hq => hp q (by simp [hq])) hb2
      refine ⟨cells, ?_, ?_⟩
      · rw [List.map_cons, Instr.fill]
        have hz : (a.eval p.2.1).cells.size = sz := by rw [h1.1, hsz]
        simp only [hl]
        rw [if_neg (by simp [hz]; omega)]
        exact e1
      · rw [bldT2, hl]; exact e2
theorem y_bld2 {t : TypeId} {l : List (Nat × Nat)} {z : Value} {c by_ : Nat} (ps : List (Nat × Operand × List Ty)) (ts : List Ty) (hp : placesOk P t l = true) (he : Info P t z c by_) (hz : z.cells.size = ts.length) (hT : ∀ (j : Nat) (T : Ty) (u : Value), ts[j]? = some T → z.cells[j]? = some u → ∀ σ, T.has σ u)
    (hok : bldOk2 l z.cells.size (ps.map fun p => (p.1, p.2.2.length)) = true) (hps : ∀ p ∈ ps, Fits σ (a.eval p.2.1) p.2.2) :
    Yld P ⟨d, .build t (ps.map fun p => (p.1, p.2.1)).toArray, ty, pos, af, g⟩ a σ (Ty.agg (bldT2 l ps ts)).pr := by
  obtain ⟨cells, e1, e2⟩ := fill_typed2 (σ := σ) ps z.cells ts rfl hz.symm ⟨hz, fun j T u h1 h2 => hT j T u h1 h2 σ⟩ hps hok
  refine Yld.of_run (v := .agg cells) ?_ ⟨cells, rfl, e2.1, e2.2⟩
  simp only [execOp]
  have := run_build (P := P) (parts := (ps.map fun p => (p.1, a.eval p.2.1)).toArray) (cells := cells) hp he (by simpa using e1) σ.w
  simp only [List.map_toArray, List.map_map]
  have e : (fun (p : Nat × Operand) => (p.1, a.eval p.2)) ∘ (fun (p : Nat × Operand × List Ty) => (p.1, p.2.1)) = fun p => (p.1, a.eval p.2.1) := rfl
  rw [e]
  simp [this]
theorem ownp_loadsub {k o n : Nat} {x : Operand} {ts : List Ty} {t : TypeId} {fs : Array Field} {z v : Value} {by_ : Nat} (ht : P.underlying t = some (.struct fs)) (he : Info P t z n by_) (hl : o + n ≤ ts.length) (h : OwnP σ k v ts) (hx : a.eval x = ptrAt v o) :
    Yld P ⟨d, .load t x, ty, pos, af, g⟩ a σ (Ty.agg ((ts.drop o).take n)).pr := by
  obtain ⟨gg, e', cur, rfl, h2, h3, h4, h5⟩ := h
  have hx' : a.eval x = .pointer (some ⟨gg, o, none⟩) := hx
  have hlen : ((cur.toList.drop o).take n).length = n := by rw [List.length_take, List.length_drop, Array.length_toList]; omega
  have hget : ∀ j, j < n → ((cur.toList.drop o).take n)[j]? = cur[o + j]? := fun j hj => by rw [List.getElem?_take_of_lt hj, List.getElem?_drop]; simp
  refine Yld.of_run (v := .agg ((cur.toList.drop o).take n).toArray) ?_ ⟨_, rfl, ?_, fun j T u hj hu => ?_⟩
  · simp only [execOp, hx']
    have := run_loadVar (P := P) ht he (w := σ.w) (ad := ⟨gg, o, none⟩) (us := (cur.toList.drop o).take n) hlen (fun j u hj => by
      have hlt : j < n := by have := (List.getElem?_eq_some_iff.1 hj).1; omega
      rw [hget j hlt] at hj
      rw [Addr.add_lit]
      simp [World.cell?, h3, hj])
    simp [Instr.loadAt, Instr.sureAddr, this]
  · simp only [List.size_toArray, hlen]; rw [List.length_take, List.length_drop]; omega
  · have hlt : j < n := by have := (List.getElem?_eq_some_iff.1 hj).1; rw [List.length_take] at this; omega
    rw [List.getElem?_take_of_lt hlt, List.getElem?_drop] at hj
    have hu2 : ((cur.toList.drop o).take n)[j]? = some u := by simpa using hu
    rw [hget j hlt] at hu2
    exact h5 _ T u hj hu2
end Go.KL

/- Plain maths: touches that are searched. -/
namespace Go.KL
structure Qst where
  met : Nat
  found : List (List Int)
  full : Bool
section
variable (n : Nat) (l : List (List Int)) (cs : List BCall) (leads many : Nat)
end
section
variable {n : Nat} {l : List (List Int)} {cs : List BCall} {leads many : Nat}
/-! ### One lead more -/
/-! ### What was met -/
variable {nm : ByteArray}
/-! ### What is answered -/
end
end Go.KL
namespace Go.KL
section
variable {n : Nat} {l : List (List Int)} {cs : List BCall} {leads many f k : Nat} {path : List Int} {s0 s : Qst}
end
end Go.KL
namespace Go.KL
section
variable {n : Nat} {l : List (List Int)} {cs : List BCall} {leads many f k : Nat} {path : List Int} {s0 s : Qst} {nm : ByteArray}
end
end Go.KL

/- A callee that answers with what is new, called with what is owned. -/
namespace Go.KL
open Go.RowKit
variable {P : Program}
variable {d : Option Tmp} {ty : TypeId} {pos : String} {af : Array Edge} {g : Option (Nat × Bool)} {a : Act} {σ : GW}
theorem y_slnil {x y : Operand} {t u : TypeId} {e' : TypeId} {c n : Nat} {ts : List Ty} (ht : P.underlying t = some (.slice e')) (h : At (.sl c n ts) σ a x) (hn : ts ≠ []) (hy : a.eval y = .slice none 0 0) :
    Yld P ⟨d, .binOp .eql t x y u, ty, pos, af, g⟩ a σ (Ty.bool false).pr := by
  obtain ⟨ad, cap, b, o, e1, _, _, hs, _⟩ := h
  obtain ⟨rfl, _⟩ := hs.resolve_left hn
  refine Yld.of_run (v := .bool false) ?_ rfl
  simp only [execOp, e1, hy]
  have h1 := Go.Lib.run_eql_slice_nil (P := P) σ.w t e' (some ⟨b, o, none⟩) n cap 0 0 ht
  simp [eqGuard, run_underlying ht, h1]
end Go.KL

/- Touches that are read. -/
namespace Go.KL
abbrev sgOf (cs : List BCall) : List Int := cs.map (·.1)
structure NumP where
  err : Int
  n : Int
  some : Bool
  rest : List Int
def numR : Int → Bool → List Int → NumP
  | n, b, [] => ⟨0, n, b, []⟩
  | n, b, c :: r => if 48 ≤ c ∧ c ≤ 57 then (if n * 10 + c - 48 = 0 ∨ 99 < n * 10 + c - 48 then ⟨12, 0, true, r⟩ else numR (n * 10 + c - 48) true r) else ⟨0, n, b, c :: r⟩
structure ItP where
  err : Int
  out : List Int
  rest : List Int
def repL (n : Nat) (one : List Int) : List Int := (List.replicate n one).flatten
def rpM (n : Int) (one r : List Int) : ItP := if 400 < n * one.length then ⟨3, [], []⟩ else ⟨0, repL n.toNat one, r⟩
def oneM (sg : List Int) (F : Nat → List Int → List Int → ItP) (deep : Nat) (r : List Int) : ItP :=
  if r.getD 0 0 = 40 then
    (if deep = 6 then ⟨13, [], []⟩ else if (F (deep + 1) [] (r.drop 1)).err ≠ 0 then ⟨(F (deep + 1) [] (r.drop 1)).err, [], []⟩
    else if (F (deep + 1) [] (r.drop 1)).rest = [] then ⟨5, [], []⟩ else if (F (deep + 1) [] (r.drop 1)).out = [] then ⟨4, [], []⟩
    else ⟨0, (F (deep + 1) [] (r.drop 1)).out, (F (deep + 1) [] (r.drop 1)).rest.drop 1⟩)
  else if r.getD 0 0 ∉ sg ∨ r.getD 0 0 < 0 then ⟨4, [], []⟩ else ⟨0, [indexL sg (r.getD 0 0)], r.drop 1⟩
def timesM (x : NumP) : Int := if x.some = true then x.n else 1
def itemM (sg : List Int) (F : Nat → List Int → List Int → ItP) (deep : Nat) (rest : List Int) : ItP :=
  if (numR 0 false rest).err ≠ 0 then ⟨12, [], []⟩ else if (numR 0 false rest).rest = [] then ⟨5, [], []⟩
  else if (oneM sg F deep (numR 0 false rest).rest).err ≠ 0 then ⟨(oneM sg F deep (numR 0 false rest).rest).err, [], []⟩
  else rpM (timesM (numR 0 false rest)) (oneM sg F deep (numR 0 false rest).rest).out (oneM sg F deep (numR 0 false rest).rest).rest
def itemsM (sg : List Int) : Nat → Nat → List Int → List Int → ItP
  | 0, _, out, rest => ⟨0, out, rest⟩
  | f + 1, deep, out, rest =>
    if rest = [] ∨ rest.getD 0 0 = 41 then ⟨0, out, rest⟩
    else if (itemM sg (itemsM sg f) deep rest).err ≠ 0 then ⟨(itemM sg (itemsM sg f) deep rest).err, [], []⟩
    else if 400 < (out ++ (itemM sg (itemsM sg f) deep rest).out).length then ⟨3, [], []⟩
    else itemsM sg f deep (out ++ (itemM sg (itemsM sg f) deep rest).out) (itemM sg (itemsM sg f) deep rest).rest
section
variable {sg : List Int}
/-! What is left is a tail. -/
theorem numR_tail : ∀ (r : List Int) (n : Int) (b : Bool), (numR n b r).err = 0 → ∃ k, k ≤ r.length ∧ (numR n b r).rest = r.drop k
  | [], n, b, _ => ⟨0, Nat.le_refl _, rfl⟩
  | c :: r, n, b, h => by
    rw [numR] at h ⊢
    split
    · split
      · rename_i h1 h2; rw [if_pos h1, if_pos h2] at h; cases h
      · rename_i h1 h2
        rw [if_pos h1, if_neg h2] at h
        obtain ⟨k, h3, h4⟩ := numR_tail r _ _ h
        exact ⟨k + 1, by rw [List.length_cons]; omega, by rw [h4, List.drop_succ_cons]⟩
    · exact ⟨0, Nat.zero_le _, rfl⟩
def Tail (a r : List Int) : Prop := ∃ k, k ≤ r.length ∧ a = r.drop k
theorem Tail.refl (r : List Int) : Tail r r := ⟨0, Nat.zero_le _, rfl⟩
theorem Tail.trans {a b c : List Int} (h : Tail a b) (k : Tail b c) : Tail a c := by
  obtain ⟨i, h1, rfl⟩ := h
  obtain ⟨j, h2, rfl⟩ := k
  rw [List.length_drop] at h1
  exact ⟨j + i, by omega, by rw [List.drop_drop]⟩
theorem Tail.drop1 {a r : List Int} (h : Tail a r) (hne : a ≠ []) : Tail (a.drop 1) r ∧ (a.drop 1).length < r.length := by
  obtain ⟨i, h1, rfl⟩ := h
  have hl : (r.drop i).length ≠ 0 := fun e => hne (List.eq_nil_of_length_eq_zero e)
  rw [List.length_drop] at hl
  rw [List.drop_drop]
  exact ⟨⟨i + 1, by omega, rfl⟩, by rw [List.length_drop]; omega⟩
theorem rpM_rest {n : Int} {one r : List Int} (h : (rpM n one r).err = 0) : (rpM n one r).rest = r ∧ (rpM n one r).out = repL n.toNat one ∧ ¬ 400 < n * one.length := by
  unfold rpM at h ⊢
  split at h
  · cases h
  · rename_i h2; rw [if_neg h2]; exact ⟨rfl, rfl, h2⟩
theorem oneM_tail {F : Nat → List Int → List Int → ItP} (hF : ∀ d o r, (F d o r).err = 0 → Tail (F d o r).rest r) {deep : Nat} {r : List Int} (hne : r ≠ []) (h : (oneM sg F deep r).err = 0) : Tail (oneM sg F deep r).rest r ∧ (oneM sg F deep r).rest.length < r.length := by
  obtain ⟨t1, t2⟩ := Tail.drop1 (Tail.refl r) hne
  unfold oneM at h ⊢
  split at h
  · rename_i h3
    rw [if_pos h3]
    split at h
    · cases h
    rename_i h4
    rw [if_neg h4]
    split at h
    · rename_i h5; exact absurd h h5
    rename_i h5
    rw [if_neg h5]
    have h5 := Classical.not_not.1 h5
    split at h
    · cases h
    rename_i h6
    rw [if_neg h6]
    split at h
    · cases h
    rename_i h7
    rw [if_neg h7]
    obtain ⟨t3, t4⟩ := Tail.drop1 (hF _ _ _ h5) h6
    exact ⟨t3.trans t1, by show ((F (deep + 1) [] (r.drop 1)).rest.drop 1).length < _; omega⟩
  · rename_i h3
    rw [if_neg h3]
    split at h
    · cases h
    rename_i h4
    rw [if_neg h4]
    exact ⟨t1, t2⟩
theorem itemM_tail {F : Nat → List Int → List Int → ItP} (hF : ∀ d o r, (F d o r).err = 0 → Tail (F d o r).rest r) {deep : Nat} {rest : List Int} (h : (itemM sg F deep rest).err = 0) : Tail (itemM sg F deep rest).rest rest ∧ (itemM sg F deep rest).rest.length < rest.length := by
  unfold itemM at h ⊢
  split at h
  · cases h
  rename_i h1
  rw [if_neg h1]
  have h1 := Classical.not_not.1 h1
  have ht : Tail (numR 0 false rest).rest rest := numR_tail rest 0 false h1
  split at h
  · cases h
  rename_i h2
  rw [if_neg h2]
  split at h
  · rename_i h3; exact absurd h h3
  rename_i h3
  rw [if_neg h3]
  have h3 := Classical.not_not.1 h3
  rw [(rpM_rest h).1]
  obtain ⟨t1, t2⟩ := oneM_tail hF h2 h3
  refine ⟨t1.trans ht, ?_⟩
  obtain ⟨k, hk, e⟩ := ht
  rw [e] at t2
  rw [List.length_drop] at t2
  rw [e]; omega
theorem itemsM_tail : ∀ (f deep : Nat) (out rest : List Int), (itemsM sg f deep out rest).err = 0 → Tail (itemsM sg f deep out rest).rest rest
  | 0, _, _, rest, _ => Tail.refl _
  | f + 1, deep, out, rest, h => by
    rw [itemsM] at h ⊢
    split at h
    · rename_i h1; rw [if_pos h1]; exact Tail.refl _
    rename_i h1
    rw [if_neg h1]
    split at h
    · rename_i h2; exact absurd h h2
    rename_i h2
    rw [if_neg h2]
    have h2 := Classical.not_not.1 h2
    split at h
    · cases h
    rename_i h3
    rw [if_neg h3]
    exact (itemsM_tail f deep _ _ h).trans (itemM_tail (fun d o r => itemsM_tail f d o r) h2).1
theorem itemM_tl {f deep : Nat} {rest : List Int} (h : (itemM sg (itemsM sg f) deep rest).err = 0) : Tail (itemM sg (itemsM sg f) deep rest).rest rest ∧ (itemM sg (itemsM sg f) deep rest).rest.length < rest.length := itemM_tail (fun d o r => itemsM_tail f d o r) h
/-! Fuel. -/
theorem oneM_congr {F G : Nat → List Int → List Int → ItP} {deep : Nat} {r : List Int} (h : F (deep + 1) [] (r.drop 1) = G (deep + 1) [] (r.drop 1)) : oneM sg F deep r = oneM sg G deep r := by unfold oneM; rw [h]
theorem itemM_congr {F G : Nat → List Int → List Int → ItP} {deep : Nat} {rest : List Int} (h : ∀ r, r.length < rest.length → F (deep + 1) [] r = G (deep + 1) [] r) : itemM sg F deep rest = itemM sg G deep rest := by
  by_cases h1 : (numR 0 false rest).err = 0
  · by_cases h2 : (numR 0 false rest).rest = []
    · unfold itemM; rw [if_neg (by rw [h1]; simp), if_pos h2, if_neg (by rw [h1]; simp), if_pos h2]
    · have ht : Tail (numR 0 false rest).rest rest := numR_tail rest 0 false h1
      have := (Tail.drop1 ht h2).2
      unfold itemM
      rw [oneM_congr (h _ this)]
  · unfold itemM; rw [if_pos h1, if_pos h1]
theorem itemsM_fuel : ∀ (f g deep : Nat) (out rest : List Int), rest.length < f → rest.length < g → itemsM sg f deep out rest = itemsM sg g deep out rest
  | 0, _, _, _, _, h, _ => absurd h (by omega)
  | _, 0, _, _, _, _, h => absurd h (by omega)
  | f + 1, g + 1, deep, out, rest, h1, h2 => by
    have e : itemM sg (itemsM sg f) deep rest = itemM sg (itemsM sg g) deep rest := itemM_congr fun r hr => itemsM_fuel f g (deep + 1) [] r (by omega) (by omega)
    rw [itemsM, itemsM, e]
    split
    · rfl
    split
    · rfl
    rename_i h3
    split
    · rfl
    have := (itemM_tl (f := g) (Classical.not_not.1 h3)).2
    exact itemsM_fuel f g deep _ _ (by omega) (by omega)
def parM (sg : List Int) (deep : Nat) (out rest : List Int) : ItP := itemsM sg (rest.length + 1) deep out rest
def itM (sg : List Int) (deep : Nat) (rest : List Int) : ItP := itemM sg (parM sg) deep rest
theorem itM_fuel (f deep : Nat) (rest : List Int) (h : rest.length ≤ f) : itemM sg (itemsM sg f) deep rest = itM sg deep rest := itemM_congr fun r hr => itemsM_fuel _ _ _ _ _ (by omega) (by omega)
theorem par_stop {deep : Nat} {out rest : List Int} (h : rest = [] ∨ rest.getD 0 0 = 41) : parM sg deep out rest = ⟨0, out, rest⟩ := by unfold parM; rw [itemsM, if_pos h]
theorem itM_tl {deep : Nat} {rest : List Int} (h : (itM sg deep rest).err = 0) : Tail (itM sg deep rest).rest rest ∧ (itM sg deep rest).rest.length < rest.length := itemM_tail (fun _ _ r h => itemsM_tail _ _ _ r h) h
theorem par_go {deep : Nat} {out rest : List Int} (h : ¬ (rest = [] ∨ rest.getD 0 0 = 41)) (h2 : (itM sg deep rest).err = 0) (h3 : ¬ 400 < (out ++ (itM sg deep rest).out).length) : parM sg deep (out ++ (itM sg deep rest).out) (itM sg deep rest).rest = parM sg deep out rest := by
  have ht := (itM_tl h2).2
  have e : parM sg deep out rest = itemsM sg rest.length deep (out ++ (itM sg deep rest).out) (itM sg deep rest).rest := by
    conv => lhs; unfold parM
    rw [itemsM, if_neg h, itM_fuel _ _ _ (Nat.le_refl _), if_neg (by rw [h2]; simp), if_neg h3]
  rw [e]
  exact itemsM_fuel _ _ _ _ _ (by omega) (by omega)
/-! What is told of errors. -/
/-! Step by step. -/
theorem it_rp {deep : Nat} {r s : List Int} {v : Int} {b : Bool} (h : numR 0 false r = ⟨0, v, b, s⟩) (hs : s ≠ []) (h2 : (oneM sg (parM sg) deep s).err = 0) : itM sg deep r = rpM (if b = true then v else 1) (oneM sg (parM sg) deep s).out (oneM sg (parM sg) deep s).rest := by
  unfold itM itemM; rw [h, if_neg (by simp), if_neg hs, if_neg (by rw [h2]; simp)]; rfl
theorem rp_ok {n : Int} {one r : List Int} (h : ¬ 400 < n * one.length) : rpM n one r = ⟨0, repL n.toNat one, r⟩ := by unfold rpM; rw [if_neg h]
theorem repL_succ (k : Nat) (one : List Int) : repL (k + 1) one = repL k one ++ one := by unfold repL; rw [List.replicate_succ', List.flatten_append]; simp
theorem one_sign {F : Nat → List Int → List Int → ItP} {deep : Nat} {s : List Int} (h : ¬ s.getD 0 0 = 40) (h2 : ¬ (s.getD 0 0 ∉ sg ∨ s.getD 0 0 < 0)) : oneM sg F deep s = ⟨0, [indexL sg (s.getD 0 0)], s.drop 1⟩ := by unfold oneM; rw [if_neg h, if_neg h2]
theorem sign_at {cs : List BCall} {c : Int} {k : Nat} (hk : k < cs.length) (hno : ∀ j, j < k → (cs.getD j D0).1 ≠ c) (h : (cs.getD k D0).1 = c) : c ∈ cs.map (·.1) ∧ indexL (cs.map (·.1)) c = k := by
  have e := idxC_yes hk h hno
  exact ⟨indexL_iff.1 (by rw [e]; omega), e⟩
theorem x_go {deep : Nat} {out r o s : List Int} {X : ItP} (hx : parM sg deep out r = X) (hne : ¬ (r = [] ∨ r.getD 0 0 = 41)) (h : itM sg deep r = ⟨0, o, s⟩) (h2 : ¬ 400 < (out ++ o).length) : parM sg deep (out ++ o) s = X := by
  have := par_go (sg := sg) (deep := deep) (out := out) hne (by rw [h]) (by rw [h]; exact h2)
  rw [h] at this
  rw [← hx, ← this]
end
/-! Runes of a text, as a loop over it gives them. -/
abbrev Ty.rune (n : Int) : Ty := .val (.int .i32 n)
theorem Tail.len {a r : List Int} (h : Tail a r) : a.length ≤ r.length := by
  obtain ⟨k, h1, rfl⟩ := h; rw [List.length_drop]; omega
section
variable {sg : List Int} {deep : Nat} {l s : List Int}
end
def ptM (sg : List Int) (s : ByteArray) : ItP :=
  if 4000 < s.size then ⟨3, [], []⟩ else if (parM sg 0 [] (runsL s)).err ≠ 0 then ⟨(parM sg 0 [] (runsL s)).err, [], []⟩
  else if (parM sg 0 [] (runsL s)).rest ≠ [] then ⟨4, [], []⟩ else if (parM sg 0 [] (runsL s)).out = [] then ⟨5, [], []⟩ else ⟨0, (parM sg 0 [] (runsL s)).out, []⟩
section
variable {sg : List Int} {s : ByteArray} {X : ItP}
theorem pt_ok (h : ¬ 4000 < s.size) (hX : X = parM sg 0 [] (runsL s)) (h1 : X.err = 0) (h2 : X.rest = []) (h3 : X.out ≠ []) : ptM sg s = ⟨0, X.out, []⟩ := by unfold ptM; rw [if_neg h, ← hX, if_neg (by rw [h1]; simp), if_neg (by rw [h2]; simp), if_neg h3]
end
end Go.KL

/- 'copy' into a row that is owned; a row told several times. -/
namespace Go.KL
open Go.RowKit
variable {P : Program} {d : Option Tmp} {ty : TypeId} {pos : String} {af : Array Edge} {g : Option (Nat × Bool)} {a : Act} {σ : GW}
def SlForm (v : Value) (n : Nat) : Prop := ∃ ad cap, v = .slice ad n cap ∧ n ≤ cap ∧ cap ≤ 9223372036854775807
section
variable {x y : Operand} {n : Nat} {t e' : TypeId} {z v : Value} {b : Nat} {ki : IntKind} (ht : P.underlying t = some (.slice e')) (he : Info P e' z 1 b) (ho : SlForm v n) (hx : a.eval x = v)
include ht he ho hx
end
/-! Some arithmetic of 64 bits without a sign. -/
theorem wrap_u64 {c : Int} (h0 : 0 ≤ c) (h1 : c < 18446744073709551616) : IntKind.u64.wrap c = c := by
  simp [IntKind.wrap, IntKind.bits, IntKind.signed]; omega
theorem wrap_u32 {c : Int} (h0 : 0 ≤ c) (h1 : c < 4294967296) : IntKind.u32.wrap c = c := by
  simp [IntKind.wrap, IntKind.bits, IntKind.signed]; omega
/-! A row told several times. -/
end Go.KL

/- Arrays as values: built of two parts, and what stands at a place. -/
namespace Go.KL
open Go.RowKit
variable {P : Program} {d : Option Tmp} {ty : TypeId} {pos : String} {af : Array Edge} {g : Option (Nat × Bool)} {a : Act} {σ : GW}
/-! ### Bells that are told -/
end Go.KL

/- How many rows are like a pattern: as many as there are ways to place the other bells. -/
namespace Go.KL
/-! ### A pattern as one list -/
end Go.KL

/- Of all rows so many are like a pattern as there are ways to place the other bells. -/
namespace Go.KL
section
variable {P : Program} {d : Option Tmp} {ty : TypeId} {pos : String} {af : Array Edge} {g : Option (Nat × Bool)} {a : Act} {σ : GW}
end
theorem asc_runs {l : List UInt8} (h : ∀ b ∈ l, b.toNat < 128) : runsL (bsL l) = l.map fun b => ((b.toNat : Nat) : Int) := by
  have key : ∀ (f p : Nat), l.length ≤ f + p → runsF (bsL l) f p = (l.drop p).map fun b => ((b.toNat : Nat) : Int) := by
    intro f
    induction f with
    | zero => intro p hp; rw [List.drop_eq_nil_of_le (by omega)]; rfl
    | succ f ih =>
      intro p hp
      by_cases hpl : p < l.length
      · have hg := bsL_get hpl
        have hb := h l[p] (List.getElem_mem hpl)
        have hr := run1_lo (s := bsL l) (p := p) (by rw [hg]; exact hb)
        have hm : runM (bsL l) p = ((l[p].toNat : Nat) : Int) := by
          unfold runM
          rw [if_neg (by rw [hr.1, hg]; omega), hr.1, hg]
        rw [runsF_cons (by rw [bsL_size]; exact hpl) (by rw [bsL_size]; omega), hm, hr.2, Nat.add_sub_cancel, ih (p + 1) (by omega), List.drop_eq_getElem_cons hpl, List.map_cons]
      · rw [runsF_end (by rw [bsL_size]; omega), List.drop_eq_nil_of_le (by omega)]; rfl
  have := key (bsL l).size 0 (by rw [bsL_size]; omega)
  unfold runsL
  rw [this, List.drop_zero]
section
variable (raw r : List Int) (star : Nat)
end
section
variable {raw r : List Int} {star : Nat}
end
end Go.KL

/- Bytes of a text, appended; touches, printed. -/
namespace Go.KL
open Go.RowKit Go.Lib
variable {P : Program} {d : Option Tmp} {ty : TypeId} {pos : String} {af : Array Edge} {g : Option (Nat × Bool)} {a : Act} {σ : GW}
theorem str_typed {s : ByteArray} {σ : GW} : ∀ (j : Nat) (T : Ty) (u : Value), (s.data.toList.map Ty.byte)[j]? = some T → (strCells s)[j]? = some u → T.has σ u := by
  intro j T u h1 h2
  unfold strCells at h2
  rw [List.getElem?_map] at h1 h2
  cases hq : s.data.toList[j]? with
  | none => rw [hq] at h1; cases h1
  | some b => rw [hq] at h1 h2; cases h1; cases h2; rfl
theorem own_appendS {k : Nat} {t u ty e : TypeId} {v : Value} {n : Nat} {ts : List Ty} {s : ByteArray} (hk : 2 ≤ k) (ht : P.underlying t = some (.slice e)) (hu : P.underlying u = some .string) (he : Info P e (.int .u8 0) 1 1) (h : Own σ k e 1 v n ts)
    (hlen : n + s.size ≤ 140737488355328) :
    ∃ v' τ, (Builtin.append_ #[t, u] ty #[v, .string s]).run P σ.w = .ok v' τ.w ∧ Stp k σ τ ∧ Own τ k e 1 v' (n + s.size) (ts ++ s.data.toList.map Ty.byte) := by
  have h0 := h
  obtain ⟨vs, r1, r2, r3, r4⟩ := h
  obtain ⟨i, hi, hi1, hi2, hi3⟩ := he.get
  have hwl := strCells_length s
  have hxl : vs.length = n := by simpa using r1.1
  have hl' : (vs ++ strCells s).length = (ts ++ s.data.toList.map Ty.byte).length := by simp [r2, hwl]
  have hm9 : n + s.size ≤ maxLen := by unfold maxLen; omega
  have new : ∀ (old : Nat) (τw : World), old < n + s.size → τw = σ.w.drew.alloc (.cells (vs.toArray ++ (strCells s).toArray ++ Builtin.zeroCells (Value.int .u8 0).cells (grownCap σ.w (n + s.size) old e - (n + s.size))) e) →
      ∃ τ : GW, τ.w = τw ∧ Stp k σ τ ∧ Own τ k e 1 (.slice (some ⟨σ.w.heap.size, 0, none⟩) (n + s.size) (grownCap σ.w (n + s.size) old e)) (n + s.size) (ts ++ s.data.toList.map Ty.byte) := by
    intro old τw _ hτ
    subst hτ
    have hge := grownCap_ge σ.w (n + s.size) old e
    have hcm : grownCap σ.w (n + s.size) old e ≤ maxLen := grownCap_le_maxLen σ.w (n + s.size) old e hm9
    have hstp : Stp 0 σ (σ.drew.mk' k (.cells (vs.toArray ++ (strCells s).toArray ++ Builtin.zeroCells (Value.int .u8 0).cells (grownCap σ.w (n + s.size) old e - (n + s.size))) e)) := (Stp.drew σ).trans (Stp.mk' σ.drew k _)
    refine ⟨_, rfl, hstp.of0, Own.intro (us := vs ++ strCells s) (heap_alloc_new σ.w.drew _) (by show (if _ = _ then k else _) = k; rw [if_pos]; rfl) hge hcm ?_ ?_ hl' ?_⟩
    · have hz1 : (Value.int IntKind.u8 0).cells.size = 1 := rfl
      simp only [Array.size_append, List.size_toArray, size_zeroCells, hz1, hxl, hwl]; omega
    · simp only [Array.toList_append, List.append_assoc]
      rw [← List.append_assoc, show (n + s.size) * 1 = (vs ++ strCells s).length by rw [List.length_append, hxl, hwl, Nat.mul_one]]
      exact List.take_left
    · exact typed_append r2 (fun j T u hT hu => T.up hstp.le0 (r3 j T u hT hu)) str_typed
  rcases r1.2 with ⟨rfl, rfl⟩ | ⟨g, cap, cur, rfl, _, hg, hn, hm, hcs, htk⟩
  · have hvs : vs = [] := List.eq_nil_of_length_eq_zero hxl
    by_cases hm0 : s.size = 0
    · have hn : s.data.toList = [] := List.eq_nil_of_length_eq_zero (by simpa using hm0)
      refine ⟨.slice none 0 0, σ, ?_, Stp.refl _ _, by rw [hm0, hn]; simpa using h0⟩
      have hf := run_firstCells_string (P := P) (w := σ.w) 1 s
      have hn2 : strCells s = [] := List.eq_nil_of_length_eq_zero (by rw [hwl]; exact hm0)
      simp [Builtin.append_, run_underlying ht, run_underlying hu, sizeOf, typeInfo, hi, hi2, Builtin.lenOf, hm0, hn2] at hf ⊢
      simp [hf]
    · have hr := run_append_nil_string (P := P) (w := σ.w) t u ty e i (.int .u8 0) ht hu hi hi1 s (by omega) (by omega) (by rw [hi3]; omega)
      obtain ⟨τ, e1, e2, e3⟩ := new 0 _ (by omega) rfl
      have e4 : (s.data.map fun b => Value.int .u8 b.toNat) = (strCells s).toArray := by
        apply Array.ext'
        simp [strCells]
      rw [e4] at hr
      simp only [Nat.zero_add] at e1 e3 ⊢
      exact ⟨_, τ, by rw [hr, e1, hvs]; simp, e2, e3⟩
  · have hgk := r4 g rfl
    have hcs' : cur.size = cap := by simpa using hcs
    by_cases hroom : n + s.size ≤ cap
    · have hr := run_append_room_string (P := P) (w := σ.w) t u ty e i ht hu hi hi2 g n cap cur hg s hroom (by omega)
      have hstp : Stp k σ (σ.setRow g (cur.toList.take n ++ strCells s ++ cur.toList.drop (n + s.size)).toArray) := Stp.setRow hgk (by omega)
      have ht' : cur.toList.take n = vs := by simpa using htk
      refine ⟨_, _, hr, hstp, Own.intro (us := vs ++ strCells s) (setRow_heap σ.w g cur _ e (0, 0) hg) hgk hroom hm ?_ ?_ hl' ?_⟩
      · simp only [List.size_toArray, List.length_append, List.length_take, List.length_drop, Array.length_toList, hwl]
        omega
      · rw [ht', show (n + s.size) * 1 = (vs ++ strCells s).length by rw [List.length_append, hxl, hwl, Nat.mul_one]]
        exact List.take_left
      · exact typed_append r2 (fun j T u hT hu => T.up (hstp.le (by omega)) (r3 j T u hT hu)) str_typed
    · have holds : ∀ (j : Nat) (u : Value), vs[j]? = some u → σ.w.cell? ((⟨g, 0, none⟩ : Addr).add j) = some u := r1.cells (g := g) rfl
      have hr := run_append_grow_string (P := P) (w := σ.w) t u ty e i (.int .u8 0) ht hu hi hi1 ⟨g, 0, none⟩ n cap vs (by rw [hi2]; simpa using hxl) holds s (by omega) (by omega) (by rw [hi3]; exact growslice_fits (by omega) (by omega))
      obtain ⟨τ, e1, e2, e3⟩ := new cap _ (by omega) rfl
      exact ⟨_, τ, by rw [hr, e1], e2, e3⟩
theorem m_appendS {k : Nat} {t u e : TypeId} {x y : Operand} {n : Nat} {ts : List Ty} {s : ByteArray} (ht : P.underlying t = some (.slice e)) (hu : P.underlying u = some .string) (he : Info P e (.int .u8 0) 1 1) (hk : 2 ≤ k) (h : Own σ k e 1 (a.eval x) n ts) (hy : a.eval y = .string s)
    (hlen : n + s.size ≤ 140737488355328) : YldM k P ⟨d, .call ⟨.builtin .append, #[x, y], #[t, u]⟩, ty, pos, af, g⟩ a σ (fun v τ => Own τ k e 1 v (n + s.size) (ts ++ s.data.toList.map Ty.byte)) := by
  intro K Q hk'
  obtain ⟨v', τ, hr, hs, ho⟩ := own_appendS (ty := ty) hk ht hu he h hlen
  have hr' : (execOp a.eval ⟨d, .call ⟨.builtin .append, #[x, y], #[t, u]⟩, ty, pos, af, g⟩).run P σ.w = .ok (.value v') τ.w := by
    simp only [execOp, resolve, Sem.run_bind, Sem.run_pure, Result.andThen_ok, invoke, List.map_toArray, List.map_cons, List.map_nil, builtin, hy, hr]
  unfold Oper.wp
  rw [hr']
  exact hk' v' τ hs ho
/-! Numbers, printed. -/
def decL (n : Nat) : List UInt8 := if n < 10 then [(48 + n).toUInt8] else [(48 + n / 10).toUInt8, (48 + n % 10).toUInt8]
def decB (n : Nat) : ByteArray := bsL (decL n)
theorem cvByte {a : Act} {x : Operand} {e : Int} (h0 : 0 ≤ e) (h1 : e < 256) (h : a.eval x = .int .u8 e) : a.eval x = .int .u8 ((e.toNat.toUInt8.toNat : Nat) : Int) := by
  rw [h]
  have : e.toNat.toUInt8.toNat = e.toNat := by simp; omega
  rw [this, Int.toNat_of_nonneg h0]
theorem y_convBS {x : Operand} {t u e : TypeId} {bs : List UInt8} {n : Nat} (ht : P.underlying t = some (.slice e)) (he : P.underlying e = some (.int .u8)) (hu : P.underlying u = some .string) (hx : At (.sl 1 n (bs.map Ty.byte)) σ a x) :
    Yld P ⟨d, .convert t u x, ty, pos, af, g⟩ a σ (Ty.val (.string (bsL bs))).pr := by
  obtain ⟨ad, cap0, bb, o, e1, hcap0, hul, hs, hcl⟩ := hx
  have hn : n = bs.length := by simpa using hul.symm
  subst hn
  rcases hs with hs | ⟨rfl, _⟩
  · have hb : bs = [] := by simpa using hs
    subst hb
    have hr : (convert t u (.slice ad 0 cap0)).run P σ.w = .ok (.string (bsL [])) σ.w := by
      rw [run_convert_bytes_string σ.w t u e ad 0 cap0 ht he hu]
      cases ad <;> simp [Conv.bytesToString, loadCells, loadCellsFrom, bsL] <;> rfl
    exact Yld.of_run (v := .string (bsL [])) (by simp only [execOp, e1, List.length_nil, Sem.run_bind, hr, Result.andThen_ok, Sem.run_pure]) rfl
  · have hr := run_convert_bytes_back (P := P) σ.w t u e ⟨bb, o, none⟩ cap0 bs ht he hu (fun j hj => by
      obtain ⟨v, hv, hT⟩ := hcl j (Ty.byte bs[j]) (by simp [hj])
      rw [Addr.add_lit, hv, show v = _ from hT])
    exact Yld.of_run (v := .string (bsL bs)) (by simp only [execOp, e1, Sem.run_bind, hr, Result.andThen_ok, Sem.run_pure]; rfl) rfl
/-! Touches, printed. -/
def pcB (cs : List BCall) (n : Nat) (x : Int) : ByteArray := (if 1 < n then decB n else ByteArray.empty) ++ Utf8.encode (cs.getD x.toNat D0).1
def prR (cs : List BCall) : Nat → List Int → ByteArray
  | _, [] => ByteArray.empty
  | n, x :: r => if (r ≠ [] ∧ r.getD 0 0 = x) ∧ n + 1 < 99 then prR cs (n + 1) r else pcB cs (n + 1) x ++ prR cs 0 r
section
variable {cs : List BCall} {s T : ByteArray} {l : List Int} {i n : Nat}
end
def ptE (cs : List BCall) (l : List Int) : Int := if l.length < 1 ∨ 400 < l.length then 1 else if ∀ k, k < l.length → 0 ≤ l.getD k 0 ∧ l.getD k 0 < (cs.length : Int) then 0 else 12
def ptT (cs : List BCall) (l : List Int) : ByteArray := if ptE cs l = 0 then prR cs 0 l else ByteArray.empty
theorem pt_good {cs : List BCall} {l : List Int} (h : ¬ (l.length < 1 ∨ 400 < l.length)) (hv : ∀ k, k < l.length → 0 ≤ l.getD k 0 ∧ l.getD k 0 < (cs.length : Int)) : ptE cs l = 0 ∧ ptT cs l = prR cs 0 l := by
  have : ptE cs l = 0 := by unfold ptE; rw [if_neg h, if_pos hv]
  exact ⟨this, by unfold ptT; rw [if_pos this]⟩
end Go.KL

/- Runes, written as bytes: bits of bytes, rows of three and four new bytes. -/
namespace Go.KL
open Go.RowKit Go.Lib
section
variable {P : Program} {d : Option Tmp} {ty : TypeId} {pos : String} {af : Array Edge} {g : Option (Nat × Bool)} {a : Act} {σ : GW}
end
def bt (e : Int) : UInt8 := e.toNat.toUInt8
theorem enc_1 {c : Int} (h0 : 0 ≤ c) (h1 : c ≤ 127) : (Utf8.encode c).data.toList = [bt c] := by
  have hv : Utf8.valid c = true := by simp [Utf8.valid]; omega
  unfold Utf8.encode
  simp only [hv, if_true]
  rw [if_pos (by omega)]
  rfl
end Go.KL

/- What a search finds: all, in order. -/
namespace Go.KL
section
variable {nm : ByteArray} {n : Nat} {l : List (List Int)} {cs : List BCall} {leads many : Nat}
end
theorem pair_getD {L : List (List Int)} {R : List Int → List Int → Prop} (h : L.Pairwise R) {i j : Nat} (hij : i < j) (hj : j < L.length) : R (L.getD i []) (L.getD j []) := by
  have := List.pairwise_iff_getElem.1 h i j (by omega) hj hij
  simpa [show i < L.length by omega, hj] using this
theorem behind {L : List (List Int)} (h : L.Pairwise fun a b => belowL a b = true) {m : Nat} (hm : 1 ≤ m) {g : List Int} (hg : g ∈ L) (hn : g ∉ L.take m) : (L.take m).length = m ∧ belowL ((L.take m).getD (m - 1) []) g = true := by
  have hg2 : g ∈ L.drop m := by
    rw [← List.take_append_drop m L, List.mem_append] at hg
    exact hg.resolve_left hn
  obtain ⟨j, hj, rfl⟩ := List.getElem_of_mem hg2
  rw [List.length_drop] at hj
  have hlen : (L.take m).length = m := by rw [List.length_take]; omega
  refine ⟨hlen, ?_⟩
  have := pair_getD h (i := m - 1) (j := m + j) (by omega) (by omega)
  rw [List.getElem_drop]
  rw [getD_takeD [] (by omega)]
  simpa [show m + j < L.length by omega] using this
/-! ### What is made of raw numbers -/
end Go.KL

/- Touches there and back: what is printed of leads is read as these. -/
namespace Go.KL
open Go.RowKit Go.Lib
structure Sgn (cs : List BCall) : Prop where
  lo : ∀ k, k < cs.length → 58 ≤ (cs.getD k D0).1 ∧ (cs.getD k D0).1 < 128
  un : ∀ j k, j < k → k < cs.length → (cs.getD j D0).1 ≠ (cs.getD k D0).1
def sgn (cs : List BCall) (x : Int) : Int := (cs.getD x.toNat D0).1
def pcL (cs : List BCall) (n : Nat) (x : Int) : List UInt8 := (if 1 < n then decL n else []) ++ [bt (sgn cs x)]
def prL (cs : List BCall) : Nat → List Int → List UInt8
  | _, [] => []
  | n, x :: r => if (r ≠ [] ∧ r.getD 0 0 = x) ∧ n + 1 < 99 then prL cs (n + 1) r else pcL cs (n + 1) x ++ prL cs 0 r
def rn (l : List UInt8) : List Int := l.map fun b => ((b.toNat : Nat) : Int)
theorem rn_app (a b : List UInt8) : rn (a ++ b) = rn a ++ rn b := List.map_append
theorem bsL_app (a b : List UInt8) : bsL (a ++ b) = bsL a ++ bsL b := by apply ByteArray.ext; simp [bsL]
theorem bt_toNat {c : Int} (h0 : 0 ≤ c) (h : c < 256) : (((bt c).toNat : Nat) : Int) = c := by
  unfold bt
  have : c.toNat.toUInt8.toNat = c.toNat := by simp; omega
  rw [this, Int.toNat_of_nonneg h0]
section
variable {cs : List BCall}
theorem prR_L (hs : Sgn cs) : ∀ (n : Nat) (l : List Int), (∀ k, k < l.length → 0 ≤ l.getD k 0 ∧ l.getD k 0 < (cs.length : Int)) → prR cs n l = bsL (prL cs n l)
  | _, [], _ => rfl
  | n, x :: r, h => by
    have hr : ∀ k, k < r.length → 0 ≤ r.getD k 0 ∧ r.getD k 0 < (cs.length : Int) := fun k hk => by
      have := h (k + 1) (by simp; omega)
      simpa using this
    have hx := h 0 (by simp)
    simp only [List.getD_cons_zero] at hx
    rw [prR, prL]
    split
    · exact prR_L hs (n + 1) r hr
    · have hl := hs.lo x.toNat (by omega)
      have e : Utf8.encode (cs.getD x.toNat D0).1 = bsL [bt (sgn cs x)] := by
        apply ByteArray.ext
        apply Array.ext'
        rw [enc_1 (by omega) (by omega)]
        rfl
      rw [prR_L hs 0 r hr, bsL_app]
      congr 1
      unfold pcB pcL
      rw [bsL_app, e]
      congr 1
      split
      · rfl
      · rfl
theorem decL_lo (n : Nat) (h : n < 100) : ∀ b ∈ decL n, b.toNat < 128 := by
  have : ∀ m : Fin 100, ∀ b ∈ decL m.val, b.toNat < 128 := by decide +kernel
  exact this ⟨n, h⟩
theorem pcL_lo (hs : Sgn cs) {n : Nat} {x : Int} (hn : n < 100) (hx : 0 ≤ x ∧ x < (cs.length : Int)) : ∀ b ∈ pcL cs n x, b.toNat < 128 := by
  intro b hb
  have hl := hs.lo x.toNat (by omega)
  unfold pcL at hb
  rcases List.mem_append.1 hb with h | h
  · split at h
    · exact decL_lo n hn b h
    · cases h
  · rw [List.mem_singleton.1 h]
    have := bt_toNat (c := sgn cs x) (by unfold sgn; omega) (by unfold sgn; omega)
    have h2 : sgn cs x < 128 := hl.2
    omega
theorem prL_lo (hs : Sgn cs) : ∀ (n : Nat) (l : List Int), n ≤ 98 → (∀ k, k < l.length → 0 ≤ l.getD k 0 ∧ l.getD k 0 < (cs.length : Int)) → ∀ b ∈ prL cs n l, b.toNat < 128
  | _, [], _, _ => fun b hb => by cases hb
  | n, x :: r, hn, h => by
    have hr : ∀ k, k < r.length → 0 ≤ r.getD k 0 ∧ r.getD k 0 < (cs.length : Int) := fun k hk => by
      have := h (k + 1) (by simp; omega)
      simpa using this
    have hx := h 0 (by simp)
    simp only [List.getD_cons_zero] at hx
    intro b hb
    rw [prL] at hb
    split at hb
    · exact prL_lo hs (n + 1) r (by omega) hr b hb
    · rcases List.mem_append.1 hb with h1 | h1
      · exact pcL_lo hs (by omega) hx b h1
      · exact prL_lo hs 0 r (by omega) hr b h1
theorem num_none {c : Int} {r : List Int} (h : ¬ (48 ≤ c ∧ c ≤ 57)) (n : Int) (b : Bool) : numR n b (c :: r) = ⟨0, n, b, c :: r⟩ := by rw [numR, if_neg h]
theorem num_dec {n : Nat} {c : Int} {r : List Int} (h1 : 1 ≤ n) (h : n < 100) (hc : ¬ (48 ≤ c ∧ c ≤ 57)) : numR 0 false (rn (decL n) ++ c :: r) = ⟨0, (n : Int), true, c :: r⟩ := by
  by_cases hn : n < 10
  · have e : rn (decL n) = [48 + (n : Int)] := by
      have : ∀ m : Fin 10, rn (decL m.val) = [48 + (m.val : Int)] := by decide +kernel
      exact this ⟨n, hn⟩
    rw [e, List.singleton_append, numR, if_pos (by omega), if_neg (by omega), num_none hc]
    congr 1; omega
  · have e : rn (decL n) = [48 + ((n / 10 : Nat) : Int), 48 + ((n % 10 : Nat) : Int)] := by
      have : ∀ m : Fin 100, ¬ m.val < 10 → rn (decL m.val) = [48 + ((m.val / 10 : Nat) : Int), 48 + ((m.val % 10 : Nat) : Int)] := by decide +kernel
      exact this ⟨n, h⟩ hn
    rw [e, List.cons_append, numR, if_pos (by omega), if_neg (by omega), List.singleton_append, numR, if_pos (by omega), if_neg (by omega), num_none hc]
    congr 1; omega
theorem sgn_at (hs : Sgn cs) {x : Int} (hx : 0 ≤ x ∧ x < (cs.length : Int)) : sgn cs x ∈ sgOf cs ∧ indexL (sgOf cs) (sgn cs x) = x := by
  have := sign_at (cs := cs) (c := sgn cs x) (k := x.toNat) (by omega) (fun j hj => hs.un j x.toNat hj (by omega)) rfl
  exact ⟨this.1, by rw [this.2]; omega⟩
theorem repL_single (n : Nat) (x : Int) : repL n [x] = List.replicate n x := by
  induction n with
  | zero => rfl
  | succ n ih => rw [repL_succ, ih, List.replicate_succ']
theorem it_piece (hs : Sgn cs) {deep n : Nat} {x : Int} {tl : List Int} (h1 : 1 ≤ n) (h : n < 100) (hx : 0 ≤ x ∧ x < (cs.length : Int)) :
    itM (sgOf cs) deep (rn (pcL cs n x) ++ tl) = ⟨0, List.replicate n x, tl⟩ := by
  have hl := hs.lo x.toNat (by omega)
  have hsg : 58 ≤ sgn cs x ∧ sgn cs x < 128 := hl
  have e : rn (pcL cs n x) ++ tl = rn (if 1 < n then decL n else []) ++ sgn cs x :: tl := by
    unfold pcL
    rw [rn_app, List.append_assoc]
    congr 1
    show (((bt (sgn cs x)).toNat : Nat) : Int) :: tl = _
    rw [bt_toNat (by omega) (by omega)]
  have hs1 := sgn_at hs hx
  have one : oneM (sgOf cs) (parM (sgOf cs)) deep (sgn cs x :: tl) = ⟨0, [x], tl⟩ := by
    have h40 : ¬ (sgn cs x :: tl).getD 0 0 = 40 := by show ¬ sgn cs x = 40; omega
    rw [one_sign h40 (by
      show ¬ (sgn cs x ∉ sgOf cs ∨ sgn cs x < 0)
      rintro (h_ | h_)
      · exact h_ hs1.1
      · omega)]
    show (⟨0, [indexL (sgOf cs) (sgn cs x)], tl⟩ : ItP) = _
    rw [hs1.2]
  rw [e]
  by_cases hn : 1 < n
  · rw [if_pos hn]
    have hnum := num_dec (n := n) (c := sgn cs x) (r := tl) h1 h (by omega)
    rw [it_rp hnum (by simp) (by rw [one]), one, if_pos rfl, rp_ok (by simp; omega), Int.toNat_natCast, repL_single]
  · rw [if_neg hn]
    have hn1 : n = 1 := by omega
    have hnum : numR 0 false (rn [] ++ sgn cs x :: tl) = ⟨0, 0, false, sgn cs x :: tl⟩ := num_none (by omega) 0 false
    rw [it_rp hnum (by simp) (by rw [one]), one, if_neg (by simp), rp_ok (by simp), hn1]
    rfl
theorem rn_piece_ne (hs : Sgn cs) {n : Nat} {x : Int} {tl : List Int} (h : n < 100) (hx : 0 ≤ x ∧ x < (cs.length : Int)) : ¬ (rn (pcL cs n x) ++ tl = [] ∨ (rn (pcL cs n x) ++ tl).getD 0 0 = 41) := by
  have hl := hs.lo x.toNat (by omega)
  have hsg : 58 ≤ sgn cs x ∧ sgn cs x < 128 := hl
  unfold pcL
  split
  · rename_i hn
    have hd : ∀ m : Fin 100, 1 < m.val → rn (decL m.val) ≠ [] ∧ (rn (decL m.val)).getD 0 0 ≠ 41 := by decide +kernel
    have h2 := hd ⟨n, h⟩ hn
    simp only at h2
    obtain ⟨c, r, e⟩ := List.exists_cons_of_ne_nil h2.1
    have h3 := h2.2
    rw [e] at h3
    rw [rn_app, e]
    rintro (h_ | h_)
    · simp at h_
    · exact h3 h_
  · rintro (h_ | h_)
    · simp [rn] at h_
    · have : (((bt (sgn cs x)).toNat : Nat) : Int) = 41 := h_
      rw [bt_toNat (by omega) (by omega)] at this
      omega
theorem par_print (hs : Sgn cs) {deep : Nat} {tl : List Int} : ∀ (l : List Int) (n : Nat) (out : List Int), n ≤ 98 → (0 < n → l ≠ []) → (∀ k, k < l.length → 0 ≤ l.getD k 0 ∧ l.getD k 0 < (cs.length : Int)) → out.length + n + l.length ≤ 400 →
    parM (sgOf cs) deep out (rn (prL cs n l) ++ tl) = parM (sgOf cs) deep (out ++ List.replicate n (l.getD 0 0) ++ l) tl
  | [], n, out, _, hn, _, _ => by
    have : n = 0 := by
      rcases Nat.eq_zero_or_pos n with h | h
      · exact h
      · exact absurd rfl (hn h)
    subst this
    simp [prL, rn]
  | x :: r, n, out, hn, _, h, hlen => by
    have hr : ∀ k, k < r.length → 0 ≤ r.getD k 0 ∧ r.getD k 0 < (cs.length : Int) := fun k hk => by
      have := h (k + 1) (by simp; omega)
      simpa using this
    have hx := h 0 (by simp)
    simp only [List.getD_cons_zero] at hx ⊢
    simp only [List.length_cons] at hlen
    rw [prL]
    split
    · rename_i hc
      rw [par_print hs r (n + 1) out (by omega) (fun _ => hc.1.1) hr (by omega), hc.1.2]
      congr 1
      rw [List.replicate_succ']
      simp
    · have hp := it_piece hs (deep := deep) (n := n + 1) (x := x) (tl := rn (prL cs 0 r) ++ tl) (by omega) (by omega) hx
      have hne := rn_piece_ne hs (n := n + 1) (x := x) (tl := rn (prL cs 0 r) ++ tl) (by omega) hx
      rw [rn_app, List.append_assoc]
      have hg := x_go (deep := deep) (out := out) rfl hne hp (by simp; omega)
      rw [← hg, par_print hs r 0 (out ++ List.replicate (n + 1) x) (by omega) (fun h => absurd h (by omega)) hr (by simp; omega)]
      congr 1
      rw [List.replicate_succ']
      simp
theorem prL_len (n : Nat) (l : List Int) : (prL cs n l).length ≤ 3 * l.length := by
  induction l generalizing n with
  | nil => simp [prL]
  | cons x r ih =>
    rw [prL]
    split
    · have := ih (n + 1); simp; omega
    · have h1 := ih 0
      have h2 : (pcL cs (n + 1) x).length ≤ 3 := by
        unfold pcL
        split
        · have : (decL (n + 1)).length ≤ 2 := by unfold decL; split <;> simp
          simp; omega
        · simp
      simp only [List.length_append, List.length_cons]; omega
theorem there {l : List Int} (hs : Sgn cs) (h1 : 1 ≤ l.length) (h2 : l.length ≤ 60) (hv : ∀ k, k < l.length → 0 ≤ l.getD k 0 ∧ l.getD k 0 < (cs.length : Int)) :
    (ptM (sgOf cs) (ptT cs l)).err = 0 ∧ (ptM (sgOf cs) (ptT cs l)).out = l := by
  have hg := pt_good (cs := cs) (l := l) (by omega) hv
  rw [hg.2, prR_L hs 0 l hv]
  have hL := asc_runs (prL_lo hs 0 l (by omega) hv)
  have hsz : ¬ 4000 < (bsL (prL cs 0 l)).size := by rw [bsL_size]; have := prL_len (cs := cs) 0 l; omega
  have hp : parM (sgOf cs) 0 [] (runsL (bsL (prL cs 0 l))) = ⟨0, l, []⟩ := by
    rw [hL]
    have := par_print hs (deep := 0) (tl := []) l 0 [] (by omega) (fun h => absurd h (by omega)) hv (by simp; omega)
    rw [List.append_nil] at this
    show parM _ _ _ (rn _) = _
    rw [this, par_stop (.inl rfl)]
    simp
  rw [pt_ok hsz hp.symm rfl rfl (by intro e; simp only at e; rw [e] at h1; simp at h1)]
  exact ⟨rfl, rfl⟩
end
end Go.KL

/- A text cut at each byte of a kind. -/
namespace Go.KL
open Go.Lib
def cutL (c : UInt8) : List UInt8 → List (List UInt8)
  | [] => [[]]
  | b :: r => if b = c then [] :: cutL c r else match cutL c r with | [] => [[b]] | p :: ps => (b :: p) :: ps
def addH (a : List UInt8) : List (List UInt8) → List (List UInt8)
  | [] => [a]
  | p :: ps => (a ++ p) :: ps
theorem cutL_ne {c : UInt8} : ∀ {l : List UInt8}, cutL c l ≠ []
  | [] => by simp [cutL]
  | b :: r => by
    unfold cutL
    split
    · simp
    · split <;> simp
theorem addH_nil {c : UInt8} {l : List UInt8} : addH [] (cutL c l) = cutL c l := by
  cases h : cutL c l with
  | nil => exact absurd h cutL_ne
  | cons p ps => rfl
theorem addH_yes {c : UInt8} {a r : List UInt8} : addH a (cutL c (c :: r)) = a :: cutL c r := by
  rw [cutL, if_pos rfl]; simp [addH]
theorem addH_no {b c : UInt8} {a r : List UInt8} (h : b ≠ c) : addH a (cutL c (b :: r)) = addH (a ++ [b]) (cutL c r) := by
  rw [cutL, if_neg h]
  cases e : cutL c r with
  | nil => exact absurd e cutL_ne
  | cons p ps => simp [addH]
theorem cut_none {c : UInt8} : ∀ {l : List UInt8}, indexByte l c = -1 → cutL c l = [l]
  | [], _ => rfl
  | b :: r, h => by
    unfold indexByte at h
    split at h
    · cases h
    · rename_i hb
      have hbc : b ≠ c := by simpa using hb
      split at h
      · rename_i h1
        have h1' : indexByte r c = -1 := by simpa using h1
        rw [cutL, if_neg hbc, cut_none h1']
      · have := indexByte_ge r c
        rename_i h1
        have h1' : ¬ indexByte r c = -1 := by simpa using h1
        omega
theorem cut_at {c : UInt8} : ∀ {l : List UInt8} {o : Nat}, indexByte l c = o → cutL c l = l.take o :: cutL c (l.drop (o + 1))
  | [], o, h => by simp [indexByte] at h
  | b :: r, o, h => by
    unfold indexByte at h
    split at h
    · rename_i hb
      have hbc : b = c := by simpa using hb
      have : o = 0 := by omega
      subst this
      rw [cutL, if_pos hbc]; rfl
    · rename_i hb
      have hbc : b ≠ c := by simpa using hb
      split at h
      · omega
      · have h2 := indexByte_ge r c
        rename_i h1
        have h1' : ¬ indexByte r c = -1 := by simpa using h1
        obtain ⟨k, rfl⟩ : ∃ k, o = k + 1 := ⟨o - 1, by omega⟩
        have h3 : indexByte r c = k := by omega
        rw [cutL, if_neg hbc, cut_at h3]
        simp
theorem ix_count {c : UInt8} : ∀ {l : List UInt8}, indexByte l c = -1 ↔ l.count c = 0
  | [] => by simp [indexByte]
  | b :: r => by
    have ih := ix_count (c := c) (l := r)
    have hg := indexByte_ge r c
    unfold indexByte
    rw [List.count_cons]
    by_cases hb : (b == c) = true
    · simp [hb]
    · simp only [hb]
      by_cases h1 : indexByte r c = -1
      · simp [h1, ih.1 h1]
      · have : ¬ r.count c = 0 := fun e => h1 (ih.2 e)
        simp [h1]
        omega
theorem count_at {c : UInt8} : ∀ {l : List UInt8} {o : Nat}, indexByte l c = o → l.count c = (l.drop (o + 1)).count c + 1 ∧ o < l.length
  | [], o, h => by simp [indexByte] at h
  | b :: r, o, h => by
    unfold indexByte at h
    split at h
    · rename_i hb
      have hbc : b = c := by simpa using hb
      have : o = 0 := by omega
      subst this
      subst hbc
      simp
    · rename_i hb
      have hbc : b ≠ c := by simpa using hb
      split at h
      · omega
      · have h2 := indexByte_ge r c
        rename_i h1
        have h1' : ¬ indexByte r c = -1 := by simpa using h1
        obtain ⟨k, rfl⟩ : ∃ k, o = k + 1 := ⟨o - 1, by omega⟩
        obtain ⟨h4, h5⟩ := count_at (l := r) (c := c) (o := k) (by omega)
        rw [List.count_cons_of_ne hbc]
        simp only [List.drop_succ_cons, List.length_cons]
        exact ⟨h4, by omega⟩
def cutT (c : UInt8) (s : ByteArray) : List ByteArray := (cutL c s.data.toList).map bsL
theorem bsL_data (s : ByteArray) : bsL s.data.toList = s := by apply ByteArray.ext; simp [bsL]
theorem data_bsL (l : List UInt8) : (bsL l).data.toList = l := by simp [bsL]
theorem ext_bsL (s : ByteArray) (i j : Nat) : s.extract i j = bsL ((s.data.toList.take j).drop i) := by
  apply ByteArray.ext
  apply Array.ext'
  simp [bsL, ByteArray.data_extract, List.extract_eq_take_drop, List.drop_take]
end Go.KL
namespace Go.KL
section
variable {P : Program} {d : Option Tmp} {ty : TypeId} {pos : String} {af : Array Edge} {g : Option (Nat × Bool)} {a : Act} {σ : GW}
theorem y_min {x y : Operand} {t : Array TypeId} {m n : Int} (hx : a.eval x = .int .i64 m) (hy : a.eval y = .int .i64 n) : Yld P ⟨d, .call ⟨.builtin .min, #[x, y], t⟩, ty, pos, af, g⟩ a σ (Ty.int (min m n)).pr := by
  refine Yld.of_run (v := .int .i64 (min m n)) ?_ rfl
  have hx' := hx
  have hy' := hy
  have hb : ∀ cs, (builtin .min t ty cs #[.int .i64 m, .int .i64 n]).run P σ.w = .ok (.value (.int .i64 (min m n))) σ.w := by
    intro cs
    simp only [builtin, Builtin.min_, List.foldlM, Builtin.min2]
    simp [go_sem]
    omega
  simp only [execOp, resolve, Sem.run_bind, Sem.run_pure, Result.andThen_ok, invoke, List.map_toArray, List.map_cons, List.map_nil, hx, hy]
  exact hb _
end
end Go.KL
namespace Go.KL
open Go.Lib
theorem ext_head {l : List UInt8} {m k : Nat} (h : k = m) : (bsL l).extract 0 k = bsL (l.take m) := by
  rw [h, ext_bsL, data_bsL, List.drop_zero]
theorem ext_tail {l : List UInt8} {m k : Nat} (h : k = m) : (bsL l).extract k (bsL l).size = bsL (l.drop m) := by
  rw [h, ext_bsL, data_bsL, bsL_size, List.take_length]
variable {ys T : List ByteArray} {l : List UInt8} {i m : Nat} {c : UInt8} {v : ByteArray}
theorem set_take (hi : i < ys.length) : (ys.set i v).take (i + 1) = ys.take i ++ [v] := by
  rw [List.take_add_one, List.getElem?_set_self hi]
  rw [List.take_set_of_le (Nat.le_refl i)]
  rfl
theorem sp_go (hq : ys.take i ++ (cutL c l).map bsL = T) (hm : indexByte l c = m) (hi : i < ys.length) (hv : v = bsL (l.take m)) : (ys.set i v).take (i + 1) ++ (cutL c (l.drop (m + 1))).map bsL = T := by
  rw [set_take hi, hv, ← hq, cut_at hm]
  simp
theorem sp_end (hq : ys.take i ++ (cutL c l).map bsL = T) (hc : l.count c = 0) (hi : i < ys.length) : (ys.set i (bsL l)).take (i + 1) = T := by
  rw [set_take hi, ← hq, cut_none (ix_count.2 hc)]
  rfl
end Go.KL
namespace Go.KL
variable {ys T : List ByteArray} {L : List UInt8} {i j : Nat} {s : ByteArray}
theorem ct_0 {c : UInt8} : [] ++ (addH ((s.data.toList.take 0).drop 0) (cutL c (s.data.toList.drop 0))).map bsL = cutT c s := by
  rw [List.take_zero, List.drop_zero, List.drop_zero, addH_nil]; rfl
theorem drop_b (hi : i < L.length) : L.drop i = L[i] :: L.drop (i + 1) := List.drop_eq_getElem_cons hi
theorem take_b (hi : i < L.length) (hj : j ≤ i) : (L.take (i + 1)).drop j = (L.take i).drop j ++ [L[i]] := by
  rw [List.take_add_one, List.getElem?_eq_getElem hi, List.drop_append_of_le_length (by rw [List.length_take]; omega)]
  rfl
theorem get_L {L : List UInt8} (hL : L = s.data.toList) (hi : i < L.length) : s.get! i = L[i] := by
  subst hL
  exact get_list (by simpa using hi)
end Go.KL
namespace Go.KL
variable {ys T : List ByteArray} {L : List UInt8} {i j : Nat} {s : ByteArray}
end Go.KL

/- Numbers of digits. -/
namespace Go.KL
def dgF (v : Int) : List UInt8 → Int
  | [] => v
  | b :: r => if b.toNat < 48 ∨ 57 < b.toNat then -1 else dgF (if 1000000000 < v * 10 + ((b.toNat : Int) - 48) then 1000000000 else v * 10 + ((b.toNat : Int) - 48)) r
def noNum (s : ByteArray) : Prop := s.size = 0 ∨ (1 < s.size ∧ (s.get! 0).toNat = 48)
instance (s : ByteArray) : Decidable (noNum s) := by unfold noNum; infer_instance
def digE (s : ByteArray) : Int := if noNum s then -1 else dgF 0 s.data.toList
variable {s : ByteArray} {i : Nat} {v T : Int} {L : List UInt8}
theorem dig_no (h : noNum s) : digE s = -1 := by unfold digE; rw [if_pos h]
theorem dig_0 (h : ¬ noNum s) (hL : L = s.data.toList) : dgF 0 (L.drop 0) = digE s := by unfold digE; rw [if_neg h, hL, List.drop_zero]
theorem dig_bad (h : dgF v (L.drop i) = T) (hL : L = s.data.toList) (hi : i < L.length) (hb : (s.get! i).toNat < 48 ∨ 57 < (s.get! i).toNat) : T = -1 := by
  rw [drop_b hi, dgF, if_pos (by rw [← get_L hL hi]; exact hb)] at h
  exact h.symm
theorem dig_go {w : Int} (h : dgF v (L.drop i) = T) (hL : L = s.data.toList) (hi : i < L.length) (hb : ¬ ((s.get! i).toNat < 48 ∨ 57 < (s.get! i).toNat)) (hw : w = if 1000000000 < v * 10 + (((s.get! i).toNat : Int) - 48) then 1000000000 else v * 10 + (((s.get! i).toNat : Int) - 48)) : dgF w (L.drop (i + 1)) = T := by
  rw [drop_b hi, dgF, ← get_L hL hi, if_neg hb, ← hw] at h
  exact h
theorem dig_end (h : dgF v (L.drop i) = T) (hi : ¬ i < L.length) : v = T := by
  rw [List.drop_eq_nil_of_le (by omega), dgF] at h
  exact h
end Go.KL
namespace Go.KL
variable {s : ByteArray}
theorem ba_size0 : s = (ByteArray.mk #[]) ↔ s.size = 0 := by
  constructor
  · rintro rfl; rfl
  · intro h
    apply ByteArray.ext
    exact Array.eq_empty_of_size_eq_zero h
theorem dn_iff : ((decide (s = (ByteArray.mk #[]))) || ((decide ((1 : Int) < (((ByteArray.size s) : Nat) : Int))) && (decide ((((s.get! ((0 : Int)).toNat).toNat : Nat) : Int) = (48 : Int))))) = true ↔ noNum s := by
  unfold noNum
  simp only [Bool.or_eq_true, Bool.and_eq_true, decide_eq_true_eq, ba_size0]
  rw [show ((0 : Int)).toNat = 0 from rfl]
  omega
theorem dn_c (h : ((decide (s = (ByteArray.mk #[]))) || ((decide ((1 : Int) < (((ByteArray.size s) : Nat) : Int))) && (decide ((((s.get! ((0 : Int)).toNat).toNat : Nat) : Int) = (48 : Int))))) = true) : noNum s := dn_iff.1 h
theorem dn_c0 (h : ((decide (s = (ByteArray.mk #[]))) || ((decide ((1 : Int) < (((ByteArray.size s) : Nat) : Int))) && (decide ((((s.get! ((0 : Int)).toNat).toNat : Nat) : Int) = (48 : Int))))) = false) : ¬ noNum s := fun e => by rw [dn_iff.2 e] at h; cases h
end Go.KL

/- Digits trimmed off; numbers read by the library and by the document. -/
namespace Go.KL
open Go.Lib
def isDig (b : UInt8) : Prop := 48 ≤ b.toNat ∧ b.toNat ≤ 57
/-! ### The number itself -/
def stN (a : Nat) (b : UInt8) : Nat := a * 10 + (b.toNat - 48)
def exN (a : Nat) (l : List UInt8) : Nat := l.foldl stN a
theorem exN_nil (a : Nat) : exN a [] = a := List.foldl_nil ..
theorem exN_cons (a : Nat) (b : UInt8) (r : List UInt8) : exN a (b :: r) = exN (stN a b) r := List.foldl_cons ..
theorem stN_eq (a : Nat) (b : UInt8) : stN a b = a * 10 + (b.toNat - 48) := rfl
theorem stN_le (a : Nat) (b : UInt8) : a ≤ stN a b := by unfold stN; omega
attribute [irreducible] exN stN
theorem exN_le (l : List UInt8) : ∀ a : Nat, a ≤ exN a l := by
  induction l with
  | nil => intro a; rw [exN_nil]; exact Nat.le_refl _
  | cons b r ih =>
    intro a
    rw [exN_cons]
    exact Nat.le_trans (stN_le a b) (ih (stN a b))
theorem parse_dig : ∀ (l : List UInt8) (a : Nat), (∀ b ∈ l, isDig b) → (parseUint10 a l = .ok (exN a l)) ∨ (parseUint10 a l = .range ∧ 18446744073709551616 ≤ exN a l)
  | [], a, _ => .inl (by rw [parseUint10, exN_nil])
  | b :: r, a, h => by
    have hb : 48 ≤ b.toNat ∧ b.toNat ≤ 57 := h b (by simp)
    have ih := parse_dig r (stN a b) (fun x hx => h x (by simp [hx]))
    have hle := exN_le r (stN a b)
    have hst := stN_eq a b
    rw [parseUint10, exN_cons, if_pos hb, ← hst]
    by_cases h1 : 1844674407370955162 ≤ a
    · rw [if_pos h1]
      exact .inr ⟨rfl, by omega⟩
    · rw [if_neg h1]
      by_cases h2 : 18446744073709551616 ≤ stN a b
      · rw [if_pos h2]
        exact .inr ⟨rfl, by omega⟩
      · rw [if_neg h2]
        exact ih
theorem dgF_ex : ∀ (l : List UInt8) (a : Nat), (∀ b ∈ l, isDig b) → dgF ((min a 1000000000 : Nat) : Int) l = ((min (exN a l) 1000000000 : Nat) : Int)
  | [], a, _ => by rw [exN_nil]; rfl
  | b :: r, a, h => by
    have hb := h b (by simp)
    have ih := dgF_ex r (stN a b) (fun x hx => h x (by simp [hx]))
    have hst := stN_eq a b
    unfold isDig at hb
    rw [dgF, exN_cons, if_neg (by omega), ← ih]
    congr 1
    split <;> omega
end Go.KL

/- A book of peals: records, their lines, what is read of a text. -/
namespace Go.KL
open Go.Lib
theorem b_inner {s : ByteArray} {p j : Nat} (h1 : p < j) (h2 : j < p + wid s p) : 128 ≤ (s.get! j).toNat := by
  unfold wid at h2
  rw [Lib.decode_at] at h2
  have e1 : j = p + 1 ∨ j = p + 2 ∨ j = p + 3 ∨ p + 4 ≤ j := by omega
  revert h2
  unfold Lib.decodeN
  repeat' split
  all_goals (intro h2; simp only at h2; rcases e1 with rfl | rfl | rfl | e1 <;> omega)
theorem b_rune {s : ByteArray} {j : Nat} (hj : j < s.size) (hb : (s.get! j).toNat < 128) : ∀ (f p : Nat), s.size ≤ f + p → p ≤ j → (s.get! j).toNat ∈ runesF s f p
  | 0, p, h1, h2 => by omega
  | f + 1, p, h1, h2 => by
    rw [runesF, if_pos (by omega)]
    by_cases e : j = p
    · subst e
      rw [(run1_lo hb).1]; exact List.mem_cons_self ..
    · by_cases e2 : j < p + wid s p
      · have := b_inner (by omega) e2
        omega
      · have hw := wid_pos s p
        exact List.mem_cons_of_mem _ (b_rune hj hb f (p + wid s p) (by omega) (by omega))
theorem b_cut {c : UInt8} {r : List UInt8} : ∀ {a : List UInt8}, (∀ b ∈ a, b ≠ c) → cutL c (a ++ c :: r) = a :: cutL c r
  | [], _ => by rw [List.nil_append, cutL, if_pos rfl]
  | b :: a, h => by
    rw [List.cons_append, cutL, if_neg (h b (by simp)), b_cut (a := a) (fun x hx => h x (by simp [hx]))]
theorem b_cutno {c : UInt8} : ∀ {a : List UInt8}, (∀ b ∈ a, b ≠ c) → cutL c a = [a]
  | [], _ => rfl
  | b :: a, h => by
    rw [cutL, if_neg (h b (by simp)), b_cutno (a := a) (fun x hx => h x (by simp [hx]))]
abbrev Rec := Int × Int × ByteArray × List ByteArray
abbrev Rec0 : Rec := (0, 0, ByteArray.empty, [])
def hasSt (l : List ByteArray) (s : ByteArray) : Bool := l.any fun x => decide (x = s)
theorem hasSt_iff {l : List ByteArray} {s : ByteArray} : hasSt l s = true ↔ s ∈ l := by
  unfold hasSt
  rw [List.any_eq_true]
  constructor
  · rintro ⟨x, hx, h⟩
    rw [← of_decide_eq_true h]; exact hx
  · intro h; exact ⟨s, h, decide_eq_true rfl⟩
def rgM (seen : List ByteArray) : List ByteArray → Int
  | [] => 0
  | r :: l => if nameL r = false then 7 else if hasSt seen r = true then 8 else rgM (seen ++ [r]) l
def mayR (r : Rec) : Int :=
  if r.1 < 0 ∨ 1000000 < r.1 ∨ r.2.1 < 1 ∨ 1000000 < r.2.1 then 12
  else if nameL r.2.2.1 = false then 7
  else if r.2.2.2.length < 1 ∨ 12 < r.2.2.2.length then 1
  else rgM [] r.2.2.2
theorem rgM_cons {seen : List ByteArray} {r : ByteArray} {l : List ByteArray} : rgM seen (r :: l) = if nameL r = false then 7 else if hasSt seen r = true then 8 else rgM (seen ++ [r]) l := rfl
theorem rgM_zero : ∀ {l seen : List ByteArray}, rgM seen l = 0 → (∀ r ∈ l, nameL r = true) ∧ l.Nodup ∧ ∀ r ∈ l, r ∉ seen
  | [], _, _ => by simp
  | r :: l, seen, h => by
    rw [rgM_cons] at h
    split at h
    · cases h
    · rename_i h1
      split at h
      · cases h
      · rename_i h2
        obtain ⟨h3, h4, h5⟩ := rgM_zero h
        refine ⟨?_, ?_, ?_⟩
        · intro x hx
          rcases List.mem_cons.1 hx with rfl | hx
          · simpa using h1
          · exact h3 x hx
        · refine List.nodup_cons.2 ⟨fun hr => ?_, h4⟩
          have := h5 r hr
          simp at this
        · intro x hx
          rcases List.mem_cons.1 hx with rfl | hx
          · exact fun hm => h2 (hasSt_iff.2 hm)
          · have := h5 x hx
            simp only [List.mem_append, not_or] at this
            exact this.1
structure RecOk (r : Rec) : Prop where
  d0 : 0 ≤ r.1
  d1 : r.1 ≤ 1000000
  c0 : 1 ≤ r.2.1
  c1 : r.2.1 ≤ 1000000
  name : nameL r.2.2.1 = true
  n1 : 1 ≤ r.2.2.2.length
  n2 : r.2.2.2.length ≤ 12
  all : ∀ s ∈ r.2.2.2, nameL s = true
  nd : r.2.2.2.Nodup
theorem mayR_ok {r : Rec} (h : mayR r = 0) : RecOk r := by
  unfold mayR at h
  split at h
  · cases h
  · split at h
    · cases h
    · split at h
      · cases h
      · rename_i h1 h2 h3
        obtain ⟨h4, h5, _⟩ := rgM_zero h
        exact ⟨by omega, by omega, by omega, by omega, by simpa using h2, by omega, by omega, h4, h5⟩
/-! ### A line -/
def joinR (l : List ByteArray) : List UInt8 := join (l.map fun s => s.data.toList) [44]
def bodyR (r : Rec) : List UInt8 := decDigits r.1.toNat ++ 124 :: (decDigits r.2.1.toNat ++ 124 :: (r.2.2.1.data.toList ++ 124 :: joinR r.2.2.2))
def ckS (h : Nat) (b : UInt8) : Nat := (h * 33 % 4294967296) ^^^ b.toNat
def chk (l : List UInt8) : Nat := l.foldl ckS 5381
def stamp (l : List UInt8) : List UInt8 := l ++ 35 :: decDigits (chk l)
def lineR (r : Rec) : List UInt8 := stamp (bodyR r) ++ [10]
theorem ckS_lt {h : Nat} {b : UInt8} : ckS h b < 4294967296 := by
  unfold ckS
  have h1 : h * 33 % 4294967296 < 2 ^ 32 := Nat.mod_lt _ (by decide)
  have h2 : b.toNat < 2 ^ 32 := Nat.lt_trans (UInt8.toNat_lt b) (by decide)
  exact Nat.xor_lt_two_pow h1 h2
theorem foldck_lt : ∀ {l : List UInt8} {h : Nat}, h < 4294967296 → l.foldl ckS h < 4294967296
  | [], _, h => h
  | _ :: l, _, _ => foldck_lt (l := l) ckS_lt
theorem chk_lt {l : List UInt8} : chk l < 4294967296 := foldck_lt (by decide)
/-! ### Digits -/
theorem decDigits_dig : ∀ (n : Nat), ∀ b ∈ decDigits n, 48 ≤ b.toNat ∧ b.toNat ≤ 57 := by
  intro n
  induction n using Nat.strongRecOn with
  | _ n ih =>
    intro x hb
    rw [decDigits] at hb
    have key : ∀ k : Fin 10, 48 ≤ (UInt8.ofNat (48 + k.val)).toNat ∧ (UInt8.ofNat (48 + k.val)).toNat ≤ 57 := by decide +kernel
    split at hb
    · rename_i h
      rw [List.mem_singleton.1 hb]
      exact key ⟨n, h⟩
    · rcases List.mem_append.1 hb with hb | hb
      · exact ih (n / 10) (by omega) x hb
      · rw [List.mem_singleton.1 hb]
        exact key ⟨n % 10, by omega⟩
theorem decDigits_no {c : UInt8} (hc : c.toNat < 48 ∨ 57 < c.toNat) (n : Nat) : ∀ b ∈ decDigits n, b ≠ c := by
  intro b hb e
  subst e
  have := decDigits_dig n b hb
  omega
theorem decDigits_ne (n : Nat) : decDigits n ≠ [] := by
  rw [decDigits]; split <;> simp
theorem exN_dec : ∀ (n : Nat), exN 0 (decDigits n) = n := by
  intro n
  induction n using Nat.strongRecOn with
  | _ n ih =>
    have key : ∀ k : Fin 10, (UInt8.ofNat (48 + k.val)).toNat - 48 = k.val := by decide +kernel
    rw [decDigits]
    split
    · rename_i h
      rw [exN_cons, exN_nil, stN_eq, key ⟨n, h⟩]; simp
    · rename_i h
      have app : ∀ (l : List UInt8) (b : UInt8) (a : Nat), exN a (l ++ [b]) = stN (exN a l) b := by
        intro l
        induction l with
        | nil => intro b a; rw [List.nil_append, exN_cons, exN_nil, exN_nil]
        | cons c l ihl => intro b a; rw [List.cons_append, exN_cons, exN_cons, ihl]
      rw [app, ih (n / 10) (by omega), stN_eq, key ⟨n % 10, by omega⟩]
      simp only
      omega
theorem dg_hd : ∀ {n : Nat}, 10 ≤ n → ∀ c r, decDigits n = c :: r → c ≠ 48 := by
  intro n
  induction n using Nat.strongRecOn with
  | _ n ih =>
    intro h c r e
    rw [decDigits, dif_neg (by omega)] at e
    by_cases h2 : n / 10 < 10
    · rw [decDigits, dif_pos h2] at e
      cases e
      have key : ∀ k : Fin 10, k.val = 0 ∨ UInt8.ofNat (48 + k.val) ≠ 48 := by decide +kernel
      exact (key ⟨n / 10, h2⟩).resolve_left (by simp only; omega)
    · cases e2 : decDigits (n / 10) with
      | nil => exact absurd e2 (decDigits_ne _)
      | cons x y =>
        rw [e2] at e
        cases e
        exact ih (n / 10) (by omega) (by omega) _ _ e2
theorem digE_dec {n : Nat} (h : n ≤ 1000000000) : digE (bsL (decDigits n)) = n := by
  have hn : ¬ noNum (bsL (decDigits n)) := by
    unfold noNum
    rw [bsL_size]
    have h1 := decDigits_ne n
    cases e : decDigits n with
    | nil => exact absurd e h1
    | cons c r =>
      rintro (h2 | ⟨h2, h3⟩)
      · simp at h2
      · have hs : 10 ≤ n := by
          refine Nat.le_of_not_lt fun hl => ?_
          rw [decDigits, dif_pos hl] at e
          cases e
          simp at h2
        have h4 := dg_hd hs c r e
        have h5 : (bsL (c :: r)).get! 0 = c := rfl
        rw [h5] at h3
        exact h4 (by rw [← UInt8.toNat_inj]; exact h3)
  unfold digE
  rw [if_neg hn, data_bsL]
  have := dgF_ex (decDigits n) 0 (fun b hb => decDigits_dig n b hb)
  rw [show ((min 0 1000000000 : Nat) : Int) = 0 from rfl, exN_dec] at this
  rw [this]; omega
/-! ### A line is read -/
def partsR (body : List UInt8) : Option Rec :=
  match cutL 124 body with
  | [a, b, m, l] => if decDigits (exN 0 a) = a ∧ exN 0 a < 9223372036854775808 ∧ decDigits (exN 0 b) = b ∧ exN 0 b < 9223372036854775808 then some (((exN 0 a : Nat) : Int), ((exN 0 b : Nat) : Int), bsL m, (cutL 44 l).map bsL) else none
  | _ => none
def readR (s : List UInt8) : Option Rec :=
  if indexByte s 35 = -1 then none
  else if decDigits (chk (s.take (indexByte s 35).toNat)) ≠ s.drop ((indexByte s 35).toNat + 1) then none
  else match partsR (s.take (indexByte s 35).toNat) with
    | some r => if mayR r = 0 then some r else none
    | none => none
def refR (s : List UInt8) : Rec :=
  (digE (bsL (((cutL 124 ((cutL 35 s).getD 0 [])).getD 0 []))), digE (bsL (((cutL 124 ((cutL 35 s).getD 0 [])).getD 1 []))), bsL ((cutL 124 ((cutL 35 s).getD 0 [])).getD 2 []), (cutL 44 ((cutL 124 ((cutL 35 s).getD 0 [])).getD 3 [])).map bsL)
def refOk (s : List UInt8) : Prop := (cutL 124 ((cutL 35 s).getD 0 [])).length = 4 ∧ mayR (refR s) = 0 ∧ lineR (refR s) = s ++ [10]
/-! pieces joined again -/
theorem cut_join {c : UInt8} : ∀ (l : List UInt8), join (cutL c l) [c] = l
  | [] => by rw [cutL]; rfl
  | b :: r => by
    have ih := cut_join (c := c) r
    rw [cutL]
    by_cases h : b = c
    · rw [if_pos h]
      cases e : cutL c r with
      | nil => exact absurd e cutL_ne
      | cons p ps =>
        rw [e] at ih
        rw [join_cons, joinTail, List.map_cons, List.flatten_cons, List.nil_append]
        rw [join_cons, joinTail] at ih
        rw [List.append_assoc, ih, h]; rfl
    · rw [if_neg h]
      cases e : cutL c r with
      | nil => exact absurd e cutL_ne
      | cons p ps =>
        rw [e] at ih
        simp only
        rw [join_cons] at ih ⊢
        rw [List.cons_append, ih]
theorem join4 (a b m l : List UInt8) (c : UInt8) : join [a, b, m, l] [c] = a ++ c :: (b ++ c :: (m ++ c :: l)) := by
  rw [join_cons, joinTail]; simp
theorem map_bsL_data (l : List (List UInt8)) : (l.map bsL).map (fun s => s.data.toList) = l := by
  rw [List.map_map]
  conv => rhs; rw [← List.map_id l]
  exact List.map_congr_left fun x _ => data_bsL x
theorem joinR_cut (l : List UInt8) : joinR ((cutL 44 l).map bsL) = l := by
  unfold joinR; rw [map_bsL_data, cut_join]
theorem ix_none {c : UInt8} {l : List UInt8} : indexByte l c = -1 ↔ ∀ b ∈ l, b ≠ c := by
  rw [ix_count, List.count_eq_zero]
  constructor
  · intro h b hb e; exact h (e ▸ hb)
  · intro h hc; exact h c hc rfl
theorem ix_app {c : UInt8} {r : List UInt8} : ∀ {a : List UInt8}, (∀ b ∈ a, b ≠ c) → indexByte (a ++ c :: r) c = (a.length : Int)
  | [], _ => by simp [indexByte]
  | b :: a, h => by
    have ih := ix_app (r := r) (a := a) (fun x hx => h x (by simp [hx]))
    have hb : ¬ ((b == c) = true) := by simpa using h b (by simp)
    rw [List.cons_append, indexByte, if_neg hb, ih]
    rw [if_neg (by simp)]
    simp
theorem ix_split {c : UInt8} {l : List UInt8} (h : indexByte l c ≠ -1) : l = l.take (indexByte l c).toNat ++ c :: l.drop ((indexByte l c).toNat + 1) ∧ (∀ b ∈ l.take (indexByte l c).toNat, b ≠ c) := by
  induction l with
  | nil => exact absurd rfl h
  | cons b r ih =>
    rw [indexByte] at h ⊢
    by_cases hb : (b == c) = true
    · rw [if_pos hb]
      have : b = c := by simpa using hb
      subst this
      simp
    · rw [if_neg hb] at h ⊢
      by_cases h1 : (indexByte r c == -1) = true
      · rw [if_pos h1] at h; exact absurd rfl h
      · rw [if_neg h1] at h ⊢
        have h2 : indexByte r c ≠ -1 := by simpa using h1
        have hg := indexByte_ge r c
        obtain ⟨e1, e2⟩ := ih h2
        rw [show (indexByte r c + 1).toNat = (indexByte r c).toNat + 1 by omega]
        refine ⟨?_, ?_⟩
        · rw [List.take_succ_cons, List.cons_append, List.drop_succ_cons]
          exact congrArg _ e1
        · intro x hx
          rw [List.take_succ_cons] at hx
          rcases List.mem_cons.1 hx with rfl | hx
          · simpa using hb
          · exact e2 x hx
theorem cut_head {c : UInt8} {l : List UInt8} (h : indexByte l c ≠ -1) : (cutL c l).getD 0 [] = l.take (indexByte l c).toNat := by
  have hg := indexByte_ge l c
  have : indexByte l c = ((indexByte l c).toNat : Int) := by omega
  rw [cut_at this]; rfl
/-! ### What is read is printed so -/
theorem partsR_body {body : List UInt8} {r : Rec} (h : partsR body = some r) : bodyR r = body ∧ ∃ a b m l, cutL 124 body = [a, b, m, l] ∧ r = (((exN 0 a : Nat) : Int), ((exN 0 b : Nat) : Int), bsL m, (cutL 44 l).map bsL) ∧ decDigits (exN 0 a) = a ∧ decDigits (exN 0 b) = b := by
  unfold partsR at h
  split at h
  · rename_i a b m l e
    split at h
    · rename_i h2
      cases h
      refine ⟨?_, a, b, m, l, e, rfl, h2.1, h2.2.2.1⟩
      unfold bodyR
      simp only [Int.toNat_natCast, joinR_cut, data_bsL]
      rw [h2.1, h2.2.2.1, ← join4, ← e, cut_join]
    · cases h
  · cases h
theorem readR_some {s : List UInt8} {r : Rec} (h : readR s = some r) : indexByte s 35 ≠ -1 ∧ decDigits (chk (s.take (indexByte s 35).toNat)) = s.drop ((indexByte s 35).toNat + 1) ∧ partsR (s.take (indexByte s 35).toNat) = some r ∧ mayR r = 0 := by
  unfold readR at h
  split at h
  · cases h
  · rename_i h1
    split at h
    · cases h
    · rename_i h2
      have h2' := Classical.not_not.1 h2
      split at h
      · rename_i q hq
        split at h
        · rename_i h3
          cases h
          exact ⟨h1, h2', hq, h3⟩
        · cases h
      · cases h
theorem readR_line {s : List UInt8} {r : Rec} (h : readR s = some r) : lineR r = s ++ [10] := by
  obtain ⟨h1, h2, h3, h4⟩ := readR_some h
  obtain ⟨hb, _⟩ := partsR_body h3
  unfold lineR stamp
  rw [hb, h2]
  exact congrArg (· ++ [10]) (ix_split h1).1.symm
theorem name_no {s : ByteArray} {c : UInt8} (hc : c.toNat < 128) (hl : letterB ((c.toNat : Nat) : Int) = false) (h : nameL s = true) : ∀ b ∈ s.data.toList, b ≠ c := by
  intro b hb e
  subst e
  obtain ⟨j, hj, e⟩ := List.getElem_of_mem hb
  have hj2 : j < s.size := by simpa using hj
  have hg : s.get! j = b := by rw [get_list hj2]; exact e
  have hr := b_rune hj2 (by rw [hg]; exact hc) s.size 0 (by omega) (by omega)
  rw [hg] at hr
  unfold nameL at h
  rw [Bool.and_eq_true] at h
  have h2 := List.all_eq_true.1 h.1 _ hr
  rw [hl] at h2; cases h2
theorem mem_joinTail {c : UInt8} {l : List (List UInt8)} {b : UInt8} (h : b ∈ joinTail [c] l) : b = c ∨ ∃ p ∈ l, b ∈ p := by
  unfold joinTail at h
  obtain ⟨q, hq, hb⟩ := List.mem_flatten.1 h
  obtain ⟨p, hp, rfl⟩ := List.mem_map.1 hq
  rcases List.mem_append.1 hb with hb | hb
  · exact .inl (List.mem_singleton.1 hb)
  · exact .inr ⟨p, hp, hb⟩
theorem mem_join {c : UInt8} {l : List (List UInt8)} {b : UInt8} (h : b ∈ join l [c]) : b = c ∨ ∃ p ∈ l, b ∈ p := by
  cases l with
  | nil => cases h
  | cons p r =>
    rw [join_cons] at h
    rcases List.mem_append.1 h with hb | hb
    · exact .inr ⟨p, by simp, hb⟩
    · rcases mem_joinTail hb with hb | ⟨q, hq, hb⟩
      · exact .inl hb
      · exact .inr ⟨q, by simp [hq], hb⟩
theorem body_no {r : Rec} (h : RecOk r) {c : UInt8} (hc : c = 35 ∨ c = 10) : ∀ b ∈ bodyR r, b ≠ c := by
  intro b hb e
  subst e
  have hx : b.toNat < 48 ∨ 57 < b.toNat := by rcases hc with rfl | rfl <;> decide
  have h128 : b.toNat < 128 := by rcases hc with rfl | rfl <;> decide
  have hl : letterB ((b.toNat : Nat) : Int) = false := by rcases hc with rfl | rfl <;> decide
  have h124 : b ≠ 124 := by rcases hc with rfl | rfl <;> decide
  have h44 : b ≠ 44 := by rcases hc with rfl | rfl <;> decide
  unfold bodyR at hb
  simp only [List.mem_append, List.mem_cons] at hb
  rcases hb with hb | hb | hb | hb | hb | hb | hb
  · exact decDigits_no hx _ b hb rfl
  · exact h124 hb
  · exact decDigits_no hx _ b hb rfl
  · exact h124 hb
  · exact name_no h128 hl h.name b hb rfl
  · exact h124 hb
  · unfold joinR at hb
    rcases mem_join hb with hb | ⟨p, hp, hb⟩
    · exact h44 hb
    · obtain ⟨s, hs, rfl⟩ := List.mem_map.1 hp
      exact name_no h128 hl (h.all s hs) b hb rfl
theorem body_bar {r : Rec} (h : RecOk r) : cutL 124 (bodyR r) = [decDigits r.1.toNat, decDigits r.2.1.toNat, r.2.2.1.data.toList, joinR r.2.2.2] := by
  unfold bodyR
  rw [b_cut (decDigits_no (by decide) _), b_cut (decDigits_no (by decide) _), b_cut (name_no (by decide) (by decide) h.name), b_cutno]
  intro b hb e
  subst e
  unfold joinR at hb
  rcases mem_join hb with hb | ⟨p, hp, hb⟩
  · exact absurd hb (by decide)
  · obtain ⟨s, hs, rfl⟩ := List.mem_map.1 hp
    exact name_no (by decide) (by decide) (h.all s hs) _ hb rfl
theorem join_cut {c : UInt8} : ∀ {l : List (List UInt8)}, l ≠ [] → (∀ p ∈ l, ∀ b ∈ p, b ≠ c) → cutL c (join l [c]) = l
  | [p], _, h => by rw [join_one]; exact b_cutno (h p (by simp))
  | p :: q :: r, _, h => by
    have ih := join_cut (l := q :: r) (by simp) (fun x hx => h x (by simp [hx]))
    have e : join (p :: q :: r) [c] = p ++ c :: join (q :: r) [c] := by
      rw [join_cons, join_cons]; simp [joinTail]
    rw [e, b_cut (h p (by simp)), ih]
theorem parts_own {r : Rec} (h : RecOk r) : partsR (bodyR r) = some r := by
  have h1 := exN_dec r.1.toNat
  have h2 := exN_dec r.2.1.toNat
  have := h.d1; have := h.d0; have := h.c0; have := h.c1
  have hj : cutL 44 (joinR r.2.2.2) = r.2.2.2.map fun s => s.data.toList := by
    unfold joinR
    refine join_cut ?_ ?_
    · intro e
      have := h.n1
      have e2 : (r.2.2.2.map fun s => s.data.toList).length = 0 := by rw [e]; rfl
      rw [List.length_map] at e2
      omega
    · intro p hp b hb
      obtain ⟨s, hs, rfl⟩ := List.mem_map.1 hp
      exact name_no (by decide) (by decide) (h.all s hs) b hb
  have hm : (r.2.2.2.map fun s => s.data.toList).map bsL = r.2.2.2 := by
    rw [List.map_map]
    conv => rhs; rw [← List.map_id r.2.2.2]
    exact List.map_congr_left fun x _ => bsL_data x
  unfold partsR
  rw [body_bar h]
  simp only
  rw [if_pos (by rw [h1, h2]; exact ⟨rfl, by omega, rfl, by omega⟩), h1, h2, hj, hm, bsL_data]
  rw [show ((r.1.toNat : Nat) : Int) = r.1 by omega, show ((r.2.1.toNat : Nat) : Int) = r.2.1 by omega]
theorem read_own {r : Rec} (h : mayR r = 0) : readR (stamp (bodyR r)) = some r := by
  have ho := mayR_ok h
  have hi : indexByte (stamp (bodyR r)) 35 = ((bodyR r).length : Int) := ix_app (body_no ho (.inl rfl))
  unfold readR
  rw [hi]
  simp only [Int.toNat_natCast]
  have e1 : (stamp (bodyR r)).take (bodyR r).length = bodyR r := List.take_left
  have e2 : (stamp (bodyR r)).drop ((bodyR r).length + 1) = decDigits (chk (bodyR r)) := by
    unfold stamp
    rw [← List.drop_drop, List.drop_left]; rfl
  rw [if_neg (by omega), e1, e2, if_neg (by simp), parts_own ho]
  simp only
  rw [if_pos h]
theorem readR_ref {s : List UInt8} {r : Rec} (h : readR s = some r) : refOk s ∧ refR s = r := by
  obtain ⟨h1, h2, h3, h4⟩ := readR_some h
  obtain ⟨hb, a, b, m, l, e, hr, ha, hb2⟩ := partsR_body h3
  have ho := mayR_ok h4
  have hd0 := ho.d0; have hd1 := ho.d1; have hc0 := ho.c0; have hc1 := ho.c1
  have hh := cut_head h1
  have er : refR s = r := by
    unfold refR
    rw [hh, e, hr]
    rw [hr] at hd0 hd1 hc0 hc1
    simp only [List.getD_cons_zero, List.getD_cons_succ]
    have d1 : digE (bsL a) = ((exN 0 a : Nat) : Int) := by
      have := digE_dec (n := exN 0 a) (by simp only at hd1; omega)
      rw [ha] at this; exact this
    have d2 : digE (bsL b) = ((exN 0 b : Nat) : Int) := by
      have := digE_dec (n := exN 0 b) (by simp only at hc1; omega)
      rw [hb2] at this; exact this
    rw [d1, d2]
  refine ⟨⟨?_, ?_, ?_⟩, er⟩
  · rw [hh, e]; rfl
  · rw [er]; exact h4
  · rw [er]; exact readR_line h
theorem ref_readR {s : List UInt8} (h : refOk s) : readR s = some (refR s) := by
  obtain ⟨h1, h2, h3⟩ := h
  have : s = stamp (bodyR (refR s)) := by
    unfold lineR at h3
    exact (List.append_inj_left' h3 rfl).symm
  conv => lhs; rw [this]
  exact read_own h2
theorem ref_no {s : List UInt8} (h : ¬ refOk s) : readR s = none := by
  cases e : readR s with
  | none => rfl
  | some r => exact absurd (readR_ref e).1 h
/-! ### A book is opened -/
def opn : Nat → List UInt8 → List Rec × Nat
  | 0, _ => ([], 0)
  | k + 1, l => if indexByte l 10 = -1 then ([], 0) else match readR (l.take (indexByte l 10).toNat) with
    | none => ([], 0)
    | some r => (r :: (opn k (l.drop ((indexByte l 10).toNat + 1))).1, (indexByte l 10).toNat + 1 + (opn k (l.drop ((indexByte l 10).toNat + 1))).2)
def linesR (l : List Rec) : List UInt8 := l.flatMap lineR
theorem opn_end {k : Nat} {l : List UInt8} (h : indexByte l 10 = -1) : opn k l = ([], 0) := by
  cases k with
  | zero => rfl
  | succ k => rw [opn, if_pos h]
theorem opn_bad {k : Nat} {l : List UInt8} (h : indexByte l 10 ≠ -1) (h2 : readR (l.take (indexByte l 10).toNat) = none) : opn k l = ([], 0) := by
  cases k with
  | zero => rfl
  | succ k => rw [opn, if_neg h, h2]
theorem opn_good {k : Nat} {l : List UInt8} {r : Rec} (h : indexByte l 10 ≠ -1) (h2 : readR (l.take (indexByte l 10).toNat) = some r) : opn (k + 1) l = (r :: (opn k (l.drop ((indexByte l 10).toNat + 1))).1, (indexByte l 10).toNat + 1 + (opn k (l.drop ((indexByte l 10).toNat + 1))).2) := by
  rw [opn, if_neg h, h2]
theorem opn_lines : ∀ (k : Nat) (l : List UInt8), linesR (opn k l).1 = l.take (opn k l).2 ∧ (opn k l).2 ≤ l.length ∧ (∀ r ∈ (opn k l).1, mayR r = 0) ∧ (opn k l).1.length ≤ k
  | 0, l => by simp [opn, linesR]
  | k + 1, l => by
    by_cases h : indexByte l 10 = -1
    · rw [opn_end h]; simp [linesR]
    · cases h2 : readR (l.take (indexByte l 10).toNat) with
      | none => rw [opn_bad h h2]; simp [linesR]
      | some r =>
        rw [opn_good h h2]
        obtain ⟨i1, i2, i3, i4⟩ := opn_lines k (l.drop ((indexByte l 10).toNat + 1))
        have hs := ix_split h
        have hl := readR_line h2
        have hlen : (indexByte l 10).toNat + 1 ≤ l.length := by
          have := congrArg List.length hs.1
          rw [List.length_append, List.length_cons, List.length_take, List.length_drop] at this
          omega
        rw [List.length_drop] at i2
        refine ⟨?_, by simp only; omega, ?_, by simp only [List.length_cons]; omega⟩
        · simp only [linesR, List.flatMap_cons] at i1 ⊢
          rw [i1, hl, List.take_add]
          congr 1
          have e2 : List.take ((indexByte l 10).toNat + 1) l = List.take (indexByte l 10).toNat l ++ [10] := by
            rw [List.take_add]
            congr 1
            have e3 : List.drop (indexByte l 10).toNat (List.take (indexByte l 10).toNat l ++ 10 :: List.drop ((indexByte l 10).toNat + 1) l) = 10 :: List.drop ((indexByte l 10).toNat + 1) l := by
              rw [List.drop_append, List.drop_of_length_le (by rw [List.length_take]; omega), List.length_take, Nat.min_eq_left (by omega), Nat.sub_self]; rfl
            rw [← hs.1] at e3
            rw [e3]; rfl
          exact e2.symm
        · intro q hq
          rcases List.mem_cons.1 hq with rfl | hq
          · exact (readR_some h2).2.2.2
          · exact i3 q hq
end Go.KL

/- Records by day: what a stable sort makes is one list alone. -/
namespace Go.KL
open Go.Lib
abbrev rD (D : List Rec) (i : Nat) : Rec := D.getD i Rec0
def dayIs (d : Int) (r : Rec) : Bool := decide (r.1 = d)
def StEq (l m : List Rec) : Prop := ∀ d : Int, l.filter (dayIs d) = m.filter (dayIs d)
theorem StEq.refl (l : List Rec) : StEq l l := fun _ => rfl
theorem StEq.symm {l m : List Rec} (h : StEq l m) : StEq m l := fun d => (h d).symm
theorem StEq.trans {l m k : List Rec} (h : StEq l m) (g : StEq m k) : StEq l k := fun d => (h d).trans (g d)
theorem StEq.app {a b x y : List Rec} (h : StEq a b) (g : StEq x y) : StEq (a ++ x) (b ++ y) := fun d => by rw [List.filter_append, List.filter_append, h d, g d]
theorem StEq.swap {a b : List Rec} (h : ∀ x ∈ a, ∀ y ∈ b, x.1 ≠ y.1) : StEq (a ++ b) (b ++ a) := fun d => by
  rw [List.filter_append, List.filter_append]
  by_cases e : a.filter (dayIs d) = []
  · rw [e]; simp
  · have e2 : b.filter (dayIs d) = [] := by
      obtain ⟨x, hx⟩ := List.exists_mem_of_ne_nil _ e
      rw [List.mem_filter] at hx
      rw [List.filter_eq_nil_iff]
      intro y hy hd
      exact h x hx.1 y hy ((of_decide_eq_true hx.2).trans (of_decide_eq_true hd).symm)
    rw [e2]; simp
def SrtL (l : List Rec) : Prop := l.Pairwise fun a b => a.1 ≤ b.1
theorem st_head {x y : Rec} {l m : List Rec} (hl : SrtL (x :: l)) (h : StEq (x :: l) (y :: m)) : y.1 ≥ x.1 := by
  refine Int.not_lt.1 fun hlt => ?_
  have := h y.1
  have h1 : (x :: l).filter (dayIs y.1) = [] := by
    rw [List.filter_eq_nil_iff]
    intro z hz hd
    have hz1 : z.1 = y.1 := of_decide_eq_true hd
    rcases List.mem_cons.1 hz with rfl | hz
    · omega
    · have := (List.pairwise_cons.1 hl).1 z hz
      omega
  rw [h1, List.filter_cons_of_pos (by exact decide_eq_true rfl)] at this
  cases this
theorem st_one : ∀ {l m : List Rec}, SrtL l → SrtL m → StEq l m → l = m
  | [], [], _, _, _ => rfl
  | [], y :: m, _, _, h => by have := h y.1; rw [List.filter_nil, List.filter_cons_of_pos (by exact decide_eq_true rfl)] at this; cases this
  | x :: l, [], _, _, h => by have := h x.1; rw [List.filter_nil, List.filter_cons_of_pos (by exact decide_eq_true rfl)] at this; cases this
  | x :: l, y :: m, hl, hm, h => by
    have h1 := st_head hl h
    have h2 := st_head hm h.symm
    have hd : x.1 = y.1 := by omega
    have h3 := h x.1
    rw [List.filter_cons_of_pos (by exact decide_eq_true rfl), List.filter_cons_of_pos (by exact decide_eq_true hd.symm)] at h3
    have hxy : x = y := by injection h3
    subst hxy
    have : StEq l m := fun d => by
      have h4 := h d
      by_cases e : dayIs d x = true
      · rw [List.filter_cons_of_pos e, List.filter_cons_of_pos e] at h4
        injection h4
      · rw [List.filter_cons_of_neg e, List.filter_cons_of_neg e] at h4
        exact h4
    rw [st_one (List.pairwise_cons.1 hl).2 (List.pairwise_cons.1 hm).2 this]
/-! ### Parts of a row -/
def Srt (D : List Rec) (a b : Nat) : Prop := ∀ i j, a ≤ i → i < j → j < b → (rD D i).1 ≤ (rD D j).1
theorem srt_list {D : List Rec} (h : Srt D 0 D.length) : SrtL D := by
  unfold SrtL
  rw [List.pairwise_iff_getElem]
  intro i j hi hj hij
  have := h i j (by omega) hij hj
  rwa [show rD D i = D[i] by simp [rD, List.getD_eq_getElem?_getD, hi], show rD D j = D[j] by simp [rD, List.getD_eq_getElem?_getD, hj]] at this
structure Sg (a b : Nat) (D E : List Rec) : Prop where
  len : E.length = D.length
  fr : ∀ i, i < a ∨ b ≤ i → rD E i = rD D i
  mem : ∀ i, a ≤ i → i < b → ∃ k, a ≤ k ∧ k < b ∧ rD E i = rD D k
  st : StEq D E
theorem Sg.refl (a b : Nat) (D : List Rec) : Sg a b D D := ⟨rfl, fun _ _ => rfl, fun i h1 h2 => ⟨i, h1, h2, rfl⟩, StEq.refl D⟩
theorem Sg.trans {a b : Nat} {D E F : List Rec} (h : Sg a b D E) (g : Sg a b E F) : Sg a b D F :=
  ⟨g.len.trans h.len, fun i hi => (g.fr i hi).trans (h.fr i hi), fun i h1 h2 => by
    obtain ⟨k, k1, k2, e⟩ := g.mem i h1 h2
    obtain ⟨q, q1, q2, e2⟩ := h.mem k k1 k2
    exact ⟨q, q1, q2, e.trans e2⟩, h.st.trans g.st⟩
theorem Sg.mono {a b x y : Nat} {D E : List Rec} (h : Sg x y D E) (h1 : a ≤ x) (h2 : y ≤ b) : Sg a b D E :=
  ⟨h.len, fun i hi => h.fr i (by omega), fun i i1 i2 => by
    by_cases e : x ≤ i ∧ i < y
    · obtain ⟨k, k1, k2, e⟩ := h.mem i e.1 e.2
      exact ⟨k, by omega, by omega, e⟩
    · exact ⟨i, i1, i2, h.fr i (by omega)⟩, h.st⟩
theorem Sg.srt {a b x y : Nat} {D E : List Rec} (h : Sg a b D E) (hs : Srt D x y) (hd : y ≤ a ∨ b ≤ x) : Srt E x y := fun i j h1 h2 h3 => by
  rw [h.fr i (by omega), h.fr j (by omega)]; exact hs i j h1 h2 h3
def DayOk (D : List Rec) : Prop := ∀ i, 0 ≤ (rD D i).1 ∧ (rD D i).1 ≤ 1000000
theorem dayOk_of {D : List Rec} (h : ∀ r ∈ D, mayR r = 0) : DayOk D := fun i => by
  by_cases e : i < D.length
  · have hm : rD D i ∈ D := by unfold rD; rw [List.getD_eq_getElem?_getD, List.getElem?_eq_getElem e]; exact List.getElem_mem e
    have := mayR_ok (h _ hm)
    exact ⟨this.d0, this.d1⟩
  · unfold rD; rw [List.getD_eq_getElem?_getD, List.getElem?_eq_none (by omega)]; exact ⟨by decide, by decide⟩
theorem Sg.day {a b : Nat} {D E : List Rec} (h : Sg a b D E) (hd : DayOk D) : DayOk E := fun i => by
  by_cases e : a ≤ i ∧ i < b
  · obtain ⟨k, _, _, e⟩ := h.mem i e.1 e.2
    rw [e]; exact hd k
  · rw [h.fr i (by omega)]; exact hd i
theorem rD_set {D : List Rec} {i j : Nat} {x : Rec} (hi : i < D.length) : rD (D.set i x) j = if j = i then x else rD D j := by
  unfold rD
  rw [List.getD_eq_getElem?_getD, List.getD_eq_getElem?_getD, List.getElem?_set]
  by_cases e : i = j
  · subst e; rw [if_pos rfl, if_pos hi, if_pos rfl]; rfl
  · rw [if_neg e, if_neg (by omega)]
theorem rD_ext {D E : List Rec} (hl : D.length = E.length) (h : ∀ i, i < D.length → rD D i = rD E i) : D = E := by
  refine List.ext_getElem hl fun i h1 h2 => ?_
  have := h i h1
  unfold rD at this
  rwa [List.getD_eq_getElem?_getD, List.getD_eq_getElem?_getD, List.getElem?_eq_getElem h1, List.getElem?_eq_getElem h2] at this
theorem two_split : ∀ {D : List Rec} {i : Nat}, i + 1 < D.length → D = D.take i ++ ([rD D i] ++ [rD D (i + 1)]) ++ D.drop (i + 2)
  | x :: y :: D, 0, _ => rfl
  | x :: D, i + 1, h => by
    have := two_split (D := D) (i := i) (by simpa using h)
    conv => lhs; rw [this]
    rfl
theorem sg_two {a b i : Nat} {D : List Rec} (h1 : a ≤ i) (h2 : i + 1 < b) (hb : b ≤ D.length) (hne : (rD D i).1 ≠ (rD D (i + 1)).1) :
    Sg a b D ((D.set i (rD D (i + 1))).set (i + 1) (rD D i)) := by
  have hg : ∀ j, rD ((D.set i (rD D (i + 1))).set (i + 1) (rD D i)) j = if j = i + 1 then rD D i else if j = i then rD D (i + 1) else rD D j := fun j => by
    rw [rD_set (by rw [List.length_set]; omega), rD_set (by omega)]
  refine ⟨by simp, fun j hj => ?_, fun j j1 j2 => ?_, ?_⟩
  · rw [hg, if_neg (by omega), if_neg (by omega)]
  · rw [hg]
    by_cases e : j = i + 1
    · rw [if_pos e]; exact ⟨i, by omega, by omega, rfl⟩
    · rw [if_neg e]
      by_cases e2 : j = i
      · rw [if_pos e2]; exact ⟨i + 1, by omega, by omega, rfl⟩
      · rw [if_neg e2]; exact ⟨j, j1, j2, rfl⟩
  · have e1 := two_split (D := D) (i := i) (by omega)
    have e2 := two_split (D := (D.set i (rD D (i + 1))).set (i + 1) (rD D i)) (i := i) (by simp; omega)
    rw [hg i, hg (i + 1), if_neg (by omega), if_pos rfl, if_pos rfl] at e2
    have t1 : ((D.set i (rD D (i + 1))).set (i + 1) (rD D i)).take i = D.take i := by
      rw [List.take_set_of_le (by omega), List.take_set_of_le (by omega)]
    have t2 : ((D.set i (rD D (i + 1))).set (i + 1) (rD D i)).drop (i + 2) = D.drop (i + 2) := by
      rw [List.drop_set_of_lt (by omega), List.drop_set_of_lt (by omega)]
    rw [t1, t2] at e2
    rw [e2]
    conv => lhs; rw [e1]
    refine StEq.app (StEq.app (StEq.refl _) (StEq.swap ?_)) (StEq.refl _)
    intro x hx y hy
    rw [List.mem_singleton.1 hx, List.mem_singleton.1 hy]; exact hne
/-! ### Ranges change; a row is turned -/
def swx (p q n t : Nat) : Nat := if p ≤ t ∧ t < p + n then q + (t - p) else if q ≤ t ∧ t < q + n then p + (t - q) else t
def rtx (a m b t : Nat) : Nat := if a ≤ t ∧ t < a + (b - m) then m + (t - a) else if a + (b - m) ≤ t ∧ t < b then t - (b - m) else t
def by_x (D : List Rec) (f : Nat → Nat) : List Rec := (List.range D.length).map fun t => rD D (f t)
def swpF (D : List Rec) (p q n : Nat) : List Rec := by_x D (swx p q n)
def rotF (D : List Rec) (a m b : Nat) : List Rec := by_x D (rtx a m b)
theorem by_x_len {D : List Rec} {f : Nat → Nat} : (by_x D f).length = D.length := by simp [by_x]
theorem by_x_at {D : List Rec} {f : Nat → Nat} {t : Nat} (ht : t < D.length) : rD (by_x D f) t = rD D (f t) := by
  unfold by_x
  simp [rD, List.getD_eq_getElem?_getD, ht]
theorem swp_0 {D : List Rec} {p q : Nat} : swpF D p q 0 = D := by
  refine rD_ext by_x_len fun i hi => ?_
  rw [show (swpF D p q 0).length = D.length from by_x_len] at hi
  unfold swpF; rw [by_x_at hi]; unfold swx; rw [if_neg (by omega), if_neg (by omega)]
theorem swp_step {D : List Rec} {p q n : Nat} (h1 : p + (n + 1) ≤ q) (h2 : q + (n + 1) ≤ D.length) :
    ((swpF D p q n).set (p + n) (rD (swpF D p q n) (q + n))).set (q + n) (rD (swpF D p q n) (p + n)) = swpF D p q (n + 1) := by
  have hl : (swpF D p q n).length = D.length := by_x_len
  have hl2 : (swpF D p q (n + 1)).length = D.length := by_x_len
  refine rD_ext (by simp [hl, hl2]) fun i hi => ?_
  simp only [List.length_set, hl] at hi
  rw [rD_set (by rw [List.length_set]; omega), rD_set (by omega)]
  unfold swpF
  rw [by_x_at (by omega), by_x_at (by omega), by_x_at hi, by_x_at hi]
  unfold swx
  by_cases e1 : i = q + n
  · rw [if_pos e1, if_neg (by omega), if_neg (by omega), if_neg (by omega), if_pos (by omega)]; congr 1; omega
  · rw [if_neg e1]
    by_cases e2 : i = p + n
    · rw [if_pos e2, if_neg (by omega), if_neg (by omega), if_pos (by omega)]; congr 1; omega
    · rw [if_neg e2]
      congr 1
      (repeat' split) <;> omega
def RotI (D E : List Rec) (a m b i j : Nat) : Prop := E.length = D.length ∧ ∀ t, t < D.length → rD E (rtx (m - i) m (m + j) t) = rD D (rtx a m b t)
theorem rot_0 {D : List Rec} {a m b : Nat} (h : a ≤ m) (h2 : m ≤ b) : RotI D D a m b (m - a) (b - m) :=
  ⟨rfl, fun t _ => by rw [show m - (m - a) = a by omega, show m + (b - m) = b by omega]⟩
theorem rot_A {D E : List Rec} {a m b i j : Nat} (h : RotI D E a m b i j) (hij : j < i) (hi : i ≤ m) (hj : m + j ≤ D.length) : RotI D (swpF E (m - i) m j) a m b (i - j) j := by
  obtain ⟨hl, h⟩ := h
  refine ⟨by rw [← hl]; exact by_x_len, fun t ht => ?_⟩
  rw [← h t ht]
  have hb : rtx (m - (i - j)) m (m + j) t < E.length := by rw [hl]; unfold rtx; split; omega; split <;> omega
  unfold swpF; rw [by_x_at hb]
  congr 1
  unfold swx rtx
  split <;> rename_i c1
  · rw [if_neg (by omega), if_pos (by omega)]
    split <;> rename_i c2
    · omega
    · split <;> omega
  · split <;> rename_i c2
    · split <;> rename_i c3
      · omega
      · split <;> rename_i c4
        · omega
        · split <;> rename_i c5
          · omega
          · split <;> omega
    · split <;> rename_i c3
      · split <;> rename_i c4
        · omega
        · split <;> omega
      · split <;> rename_i c4
        · omega
        · split <;> rename_i c5
          · omega
          · split <;> omega
theorem rot_B {D E : List Rec} {a m b i j : Nat} (h : RotI D E a m b i j) (hij : i < j) (hi : i ≤ m) (hj : m + j ≤ D.length) : RotI D (swpF E (m - i) (m + j - i) i) a m b i (j - i) := by
  obtain ⟨hl, h⟩ := h
  refine ⟨by rw [← hl]; exact by_x_len, fun t ht => ?_⟩
  rw [← h t ht]
  have hb : rtx (m - i) m (m + (j - i)) t < E.length := by rw [hl]; unfold rtx; split; omega; split <;> omega
  unfold swpF; rw [by_x_at hb]
  congr 1
  unfold swx rtx
  split <;> rename_i c1
  · split <;> rename_i c2
    · omega
    · split <;> rename_i c3
      · split <;> rename_i c4
        · omega
        · split <;> omega
      · split <;> rename_i c4
        · omega
        · split <;> omega
  · split <;> rename_i c2
    · split <;> rename_i c3
      · split <;> rename_i c4
        · omega
        · split <;> omega
      · split <;> rename_i c4
        · omega
        · split <;> rename_i c5
          · omega
          · split <;> omega
    · split <;> rename_i c3
      · split <;> rename_i c4
        · omega
        · split <;> omega
      · split <;> rename_i c4
        · split <;> rename_i c5
          · omega
          · split <;> omega
        · split <;> rename_i c5
          · omega
          · split <;> omega
theorem rot_end {D E : List Rec} {a m b i : Nat} (h : RotI D E a m b i i) (hi : i ≤ m) : swpF E (m - i) m i = rotF D a m b := by
  obtain ⟨hl, h⟩ := h
  have hl2 : (swpF E (m - i) m i).length = D.length := by rw [← hl]; exact by_x_len
  refine rD_ext (by rw [hl2]; exact by_x_len.symm) fun t ht => ?_
  rw [hl2] at ht
  unfold rotF; rw [by_x_at ht, ← h t ht]
  unfold swpF; rw [by_x_at (by omega)]
  congr 1
  unfold swx rtx
  split <;> rename_i c1
  · rw [if_pos (by omega)]
  · split <;> rename_i c2
    · rw [if_neg (by omega), if_pos (by omega)]; omega
    · rw [if_neg (by omega), if_neg (by omega)]
end Go.KL

/- Merging in place, block by block; a record put among records of its day. -/
namespace Go.KL
open Go.Lib
theorem rD_app {x y : List Rec} {i : Nat} : rD (x ++ y) i = if i < x.length then rD x i else rD y (i - x.length) := by
  unfold rD
  rw [List.getD_eq_getElem?_getD, List.getD_eq_getElem?_getD, List.getD_eq_getElem?_getD, List.getElem?_append]
  split <;> rfl
theorem rD_take {D : List Rec} {n i : Nat} (h : i < n) : rD (D.take n) i = rD D i := by
  unfold rD; rw [List.getD_eq_getElem?_getD, List.getD_eq_getElem?_getD, List.getElem?_take_of_lt h]
theorem rD_drop {D : List Rec} {n i : Nat} : rD (D.drop n) i = rD D (n + i) := by
  unfold rD; rw [List.getD_eq_getElem?_getD, List.getD_eq_getElem?_getD, List.getElem?_drop]
theorem rD_mem {D : List Rec} {x : Rec} (h : x ∈ D) : ∃ i, i < D.length ∧ x = rD D i := by
  obtain ⟨i, hi, e⟩ := List.getElem_of_mem h
  exact ⟨i, hi, by rw [← e]; simp [rD, List.getD_eq_getElem?_getD, hi]⟩
theorem rot_at {D : List Rec} {s m e t : Nat} (ht : t < D.length) : rD (rotF D s m e) t = rD D (rtx s m e t) := by unfold rotF; exact by_x_at ht
theorem rot_sg {D : List Rec} {s m e : Nat} (h1 : s ≤ m) (h2 : m ≤ e) (h3 : e ≤ D.length) (hc : ∀ x y, s ≤ x → x < m → m ≤ y → y < e → (rD D y).1 < (rD D x).1) : Sg s e D (rotF D s m e) := by
  have hl : (rotF D s m e).length = D.length := by_x_len
  refine ⟨hl, fun i hi => ?_, fun i h4 h5 => ?_, ?_⟩
  · by_cases hd : i < D.length
    · rw [rot_at hd]; congr 1; unfold rtx; rw [if_neg (by omega), if_neg (by omega)]
    · unfold rD; rw [List.getD_eq_getElem?_getD, List.getD_eq_getElem?_getD, List.getElem?_eq_none (by omega), List.getElem?_eq_none (by omega)]
  · rw [rot_at (by omega)]
    exact ⟨rtx s m e i, by unfold rtx; (repeat' split) <;> omega, by unfold rtx; (repeat' split) <;> omega, rfl⟩
  · have e1 : D = D.take s ++ ((D.take m).drop s ++ (D.take e).drop m) ++ D.drop e := by
      refine rD_ext (by simp only [List.length_append, List.length_take, List.length_drop]; omega) fun i hi => ?_
      simp only [rD_app, List.length_append, List.length_take, List.length_drop]
      by_cases c1 : i < s
      · rw [if_pos (by omega), if_pos (by omega), rD_take c1]
      · by_cases c2 : i < m
        · rw [if_pos (by omega), if_neg (by omega), if_pos (by omega), rD_drop, rD_take (by omega)]; congr 1; omega
        · by_cases c3 : i < e
          · rw [if_pos (by omega), if_neg (by omega), if_neg (by omega), rD_drop, rD_take (by omega)]; congr 1; omega
          · rw [if_neg (by omega), rD_drop]; congr 1; omega
    have e2 : rotF D s m e = D.take s ++ ((D.take e).drop m ++ (D.take m).drop s) ++ D.drop e := by
      refine rD_ext (by simp only [hl, List.length_append, List.length_take, List.length_drop]; omega) fun i hi => ?_
      rw [hl] at hi
      rw [rot_at hi]
      simp only [rD_app, List.length_append, List.length_take, List.length_drop]
      unfold rtx
      by_cases c1 : i < s
      · rw [if_neg (by omega), if_neg (by omega), if_pos (by omega), if_pos (by omega), rD_take c1]
      · by_cases c2 : i < s + (e - m)
        · rw [if_pos (by omega), if_pos (by omega), if_neg (by omega), if_pos (by omega), rD_drop, rD_take (by omega)]; congr 1; omega
        · by_cases c3 : i < e
          · rw [if_neg (by omega), if_pos (by omega), if_pos (by omega), if_neg (by omega), if_neg (by omega), rD_drop, rD_take (by omega)]; congr 1; omega
          · rw [if_neg (by omega), if_neg (by omega), if_neg (by omega), rD_drop]; congr 1; omega
    rw [e2]
    conv => lhs; rw [e1]
    refine StEq.app (StEq.app (StEq.refl _) (StEq.swap ?_)) (StEq.refl _)
    intro x hx y hy
    obtain ⟨i, hi, rfl⟩ := rD_mem hx
    obtain ⟨j, hj, rfl⟩ := rD_mem hy
    simp only [List.length_drop, List.length_take] at hi hj
    rw [rD_drop, rD_drop, rD_take (by omega), rD_take (by omega)]
    have := hc (s + i) (m + j) (by omega) (by omega) (by omega) (by omega)
    omega
/-! ### Two sorted parts are merged -/
structure StCut (D : List Rec) (a m b s e : Nat) : Prop where
  o1 : a ≤ s
  o2 : s ≤ m
  o3 : m ≤ e
  o4 : e ≤ b
  lo : ∀ x y, a ≤ x → x < s → e ≤ y → y < b → (rD D x).1 ≤ (rD D y).1
  hi : ∀ x y, s ≤ x → x < m → m ≤ y → y < e → (rD D y).1 < (rD D x).1
theorem cut_of {D : List Rec} {a m b s mid lo hi : Nat} (h1 : a < m) (h2 : m < b) (hm : mid = (a + b) / 2) (hs1 : Srt D a m) (hs2 : Srt D m b)
    (hlh : (mid < m ∧ lo + b = mid + m ∧ hi = mid) ∨ (m ≤ mid ∧ lo = a ∧ hi = m)) (h3 : lo ≤ s) (h4 : s ≤ hi)
    (f1 : s = lo ∨ (rD D (s - 1)).1 ≤ (rD D (mid + m - s)).1) (f2 : s = hi ∨ (rD D (mid + m - 1 - s)).1 < (rD D s).1) : StCut D a m b s (mid + m - s) := by
  refine ⟨by omega, by omega, by omega, by omega, fun x y x1 x2 y1 y2 => ?_, fun x y x1 x2 y1 y2 => ?_⟩
  · have f1 := f1.resolve_left (by omega)
    have g1 : (rD D x).1 ≤ (rD D (s - 1)).1 := by
      by_cases e : x = s - 1
      · rw [e]; exact Int.le_refl _
      · exact hs1 x (s - 1) x1 (by omega) (by omega)
    have g2 : (rD D (mid + m - s)).1 ≤ (rD D y).1 := by
      by_cases e : y = mid + m - s
      · rw [e]; exact Int.le_refl _
      · exact hs2 (mid + m - s) y (by omega) (by omega) y2
    omega
  · have f2 := f2.resolve_left (by omega)
    have g1 : (rD D s).1 ≤ (rD D x).1 := by
      by_cases e : x = s
      · rw [e]; exact Int.le_refl _
      · exact hs1 s x (by omega) (by omega) x2
    have g2 : (rD D y).1 ≤ (rD D (mid + m - 1 - s)).1 := by
      by_cases e : y = mid + m - 1 - s
      · rw [e]; exact Int.le_refl _
      · exact hs2 y (mid + m - 1 - s) y1 (by omega) (by omega)
    omega
structure StHalf (D E : List Rec) (a s mid e b : Nat) : Prop where
  sg : Sg a b D E
  p1 : Srt E a s
  p2 : Srt E s mid
  p3 : Srt E mid e
  p4 : Srt E e b
  x : ∀ i j, a ≤ i → i < mid → mid ≤ j → j < b → (rD E i).1 ≤ (rD E j).1
theorem half_of {D : List Rec} {a m b s e mid : Nat} (hb : b ≤ D.length) (c : StCut D a m b s e) (hm : s + e = mid + m) (hs1 : Srt D a m) (hs2 : Srt D m b) : StHalf D (rotF D s m e) a s mid e b := by
  obtain ⟨o1, o2, o3, o4, lo, hi⟩ := c
  have at_ : ∀ t, t < b → rD (rotF D s m e) t = rD D (rtx s m e t) := fun t ht => rot_at (by omega)
  refine ⟨(rot_sg o2 o3 (by omega) hi).mono o1 o4, fun i j h1 h2 h3 => ?_, fun i j h1 h2 h3 => ?_, fun i j h1 h2 h3 => ?_, fun i j h1 h2 h3 => ?_, fun i j h1 h2 h3 h4 => ?_⟩
  · rw [at_ i (by omega), at_ j (by omega)]; unfold rtx
    rw [if_neg (by omega), if_neg (by omega), if_neg (by omega), if_neg (by omega)]; exact hs1 i j h1 h2 (by omega)
  · rw [at_ i (by omega), at_ j (by omega)]; unfold rtx
    rw [if_pos (by omega), if_pos (by omega)]; exact hs2 _ _ (by omega) (by omega) (by omega)
  · rw [at_ i (by omega), at_ j (by omega)]; unfold rtx
    rw [if_neg (by omega), if_pos (by omega), if_neg (by omega), if_pos (by omega)]; exact hs1 _ _ (by omega) (by omega) (by omega)
  · rw [at_ i (by omega), at_ j (by omega)]; unfold rtx
    rw [if_neg (by omega), if_neg (by omega), if_neg (by omega), if_neg (by omega)]; exact hs2 i j (by omega) h2 h3
  · rw [at_ i (by omega), at_ j h4]; unfold rtx
    by_cases c1 : i < s
    · rw [if_neg (by omega), if_neg (by omega), if_neg (show ¬ (s ≤ j ∧ j < s + (e - m)) by omega)]
      by_cases c2 : j < e
      · rw [if_pos (by omega)]; exact hs1 _ _ h1 (by omega) (by omega)
      · rw [if_neg (by omega)]; exact lo i j h1 c1 (by omega) h4
    · rw [if_pos (by omega), if_neg (show ¬ (s ≤ j ∧ j < s + (e - m)) by omega)]
      by_cases c2 : j < e
      · rw [if_pos (by omega)]; exact Int.le_of_lt (hi _ _ (by omega) (by omega) (by omega) (by omega))
      · rw [if_neg (by omega)]; exact hs2 _ _ (by omega) (by omega) h4
theorem half_fin {D E E1 E2 : List Rec} {a s mid e b : Nat} (h : StHalf D E a s mid e b) (hm1 : a ≤ mid) (hm2 : mid ≤ b) (g1 : Sg a mid E E1) (s1 : Srt E1 a mid) (g2 : Sg mid b E1 E2) (s2 : Srt E2 mid b) : Sg a b D E2 ∧ Srt E2 a b := by
  refine ⟨(h.sg.trans (g1.mono (Nat.le_refl _) hm2)).trans (g2.mono hm1 (Nat.le_refl _)), fun i j h1 h2 h3 => ?_⟩
  by_cases c1 : j < mid
  · rw [g2.fr i (by omega), g2.fr j (by omega)]; exact s1 i j h1 h2 c1
  · by_cases c2 : mid ≤ i
    · exact s2 i j c2 h2 h3
    · obtain ⟨k, k1, k2, e1⟩ := g2.mem j (by omega) h3
      obtain ⟨q, q1, q2, e2⟩ := g1.mem i h1 (by omega)
      rw [g2.fr i (by omega), e2, e1, g1.fr k (by omega)]
      exact h.x q k q1 q2 k1 k2
theorem srt_nil {D : List Rec} {a b : Nat} (h : b ≤ a + 1) : Srt D a b := fun i j h1 h2 h3 => by omega
theorem Srt.sub {D : List Rec} {a b x y : Nat} (h : Srt D a b) (h1 : a ≤ x) (h2 : y ≤ b) : Srt D x y := fun i j i1 i2 i3 => h i j (by omega) i2 (by omega)
/-! one against many -/
structure Mv1 (D E : List Rec) (a b k : Nat) : Prop where
  sg : Sg a b D E
  at_ : rD E k = rD D a
  ahead : ∀ t, a ≤ t → t < k → rD E t = rD D (t + 1)
  behind : ∀ t, k < t → t < b → rD E t = rD D t
theorem mv1_0 {D : List Rec} {a b : Nat} : Mv1 D D a b a := ⟨Sg.refl _ _ _, rfl, fun t h1 h2 => by omega, fun _ _ _ => rfl⟩
theorem mv1_step {D E : List Rec} {a b k i : Nat} (h : Mv1 D E a b k) (hb : b ≤ D.length) (hak : a ≤ k) (hki : k < i - 1) (hib : i ≤ b) (hs : Srt D (a + 1) b) (f : i = a + 1 ∨ (rD D (i - 1)).1 < (rD D a).1) :
    Mv1 D ((E.set k (rD E (k + 1))).set (k + 1) (rD E k)) a b (k + 1) := by
  have hl := h.sg.len
  have f := f.resolve_left (by omega)
  have hg : ∀ j, rD ((E.set k (rD E (k + 1))).set (k + 1) (rD E k)) j = if j = k + 1 then rD E k else if j = k then rD E (k + 1) else rD E j := fun j => by
    rw [rD_set (by rw [List.length_set]; omega), rD_set (by omega)]
  have hne : (rD E k).1 ≠ (rD E (k + 1)).1 := by
    rw [h.at_, h.behind (k + 1) (by omega) (by omega)]
    by_cases e : k + 1 = i - 1
    · rw [e]; omega
    · have := hs (k + 1) (i - 1) (by omega) (by omega) (by omega); omega
  refine ⟨h.sg.trans (sg_two hak (by omega) (by omega) hne), ?_, fun t h1 h2 => ?_, fun t h1 h2 => ?_⟩
  · rw [hg, if_pos rfl]; exact h.at_
  · rw [hg, if_neg (by omega)]
    by_cases e : t = k
    · rw [if_pos e, h.behind (k + 1) (by omega) (by omega), e]
    · rw [if_neg e]; exact h.ahead t h1 (by omega)
  · rw [hg, if_neg (by omega), if_neg (by omega)]; exact h.behind t (by omega) h2
theorem mv1_end {D E : List Rec} {a b i : Nat} (h : Mv1 D E a b (i - 1)) (h1 : a + 1 ≤ i) (h2 : i ≤ b) (hs : Srt D (a + 1) b) (f : i = a + 1 ∨ (rD D (i - 1)).1 < (rD D a).1) (g : i = b ∨ (rD D a).1 ≤ (rD D i).1) : Srt E a b := by
  intro t u t1 t2 t3
  by_cases c1 : u < i - 1
  · rw [h.ahead t t1 (by omega), h.ahead u (by omega) c1]; exact hs _ _ (by omega) (by omega) (by omega)
  · by_cases c2 : u = i - 1
    · rw [c2, h.at_, h.ahead t t1 (by omega)]
      have f := f.resolve_left (by omega)
      by_cases e : t + 1 = i - 1
      · rw [e]; omega
      · have := hs (t + 1) (i - 1) (by omega) (by omega) (by omega); omega
    · rw [h.behind u (by omega) t3]
      have g := g.resolve_left (by omega)
      have g2 : (rD D i).1 ≤ (rD D u).1 := by
        by_cases e : u = i
        · rw [e]; exact Int.le_refl _
        · exact hs i u (by omega) (by omega) t3
      by_cases c3 : t < i - 1
      · rw [h.ahead t t1 c3]; exact hs _ _ (by omega) (by omega) t3
      · by_cases c4 : t = i - 1
        · rw [c4, h.at_]; omega
        · rw [h.behind t (by omega) (by omega)]; exact hs _ _ (by omega) t2 t3
structure Mv2 (D E : List Rec) (a m k : Nat) : Prop where
  sg : Sg a (m + 1) D E
  at_ : rD E k = rD D m
  behind : ∀ t, k < t → t ≤ m → rD E t = rD D (t - 1)
  ahead : ∀ t, a ≤ t → t < k → rD E t = rD D t
theorem mv2_0 {D : List Rec} {a m : Nat} : Mv2 D D a m m := ⟨Sg.refl _ _ _, rfl, fun t h1 h2 => by omega, fun _ _ _ => rfl⟩
theorem mv2_step {D E : List Rec} {a m k i : Nat} (h : Mv2 D E a m k) (hb : m < D.length) (hik : i < k) (hkm : k ≤ m) (hai : a ≤ i) (hs : Srt D a m) (f : i = m ∨ (rD D m).1 < (rD D i).1) :
    Mv2 D ((E.set k (rD E (k - 1))).set (k - 1) (rD E k)) a m (k - 1) := by
  have hl := h.sg.len
  have f := f.resolve_left (by omega)
  have hne : (rD E (k - 1)).1 ≠ (rD E k).1 := by
    rw [h.at_, h.ahead (k - 1) (by omega) (by omega)]
    by_cases e : k - 1 = i
    · rw [e]; omega
    · have := hs i (k - 1) (by omega) (by omega) (by omega); omega
  have hsw : (E.set k (rD E (k - 1))).set (k - 1) (rD E k) = (E.set (k - 1) (rD E (k - 1 + 1))).set (k - 1 + 1) (rD E (k - 1)) := by
    rw [show k - 1 + 1 = k by omega, List.set_comm _ _ (by omega)]
  have hg : ∀ j, rD ((E.set k (rD E (k - 1))).set (k - 1) (rD E k)) j = if j = k - 1 then rD E k else if j = k then rD E (k - 1) else rD E j := fun j => by
    rw [rD_set (by rw [List.length_set]; omega), rD_set (by omega)]
  refine ⟨?_, ?_, fun t h1 h2 => ?_, fun t h1 h2 => ?_⟩
  · rw [hsw]
    exact h.sg.trans (sg_two (by omega) (by omega) (by omega) (by rw [show k - 1 + 1 = k by omega]; exact hne))
  · rw [hg, if_pos rfl]; exact h.at_
  · rw [hg, if_neg (by omega)]
    by_cases e : t = k
    · rw [if_pos e, h.ahead (k - 1) (by omega) (by omega), e]
    · rw [if_neg e]; exact h.behind t (by omega) h2
  · rw [hg, if_neg (by omega), if_neg (by omega)]; exact h.ahead t h1 (by omega)
theorem mv2_end {D E : List Rec} {a m i : Nat} (h : Mv2 D E a m i) (h1 : a ≤ i) (h2 : i ≤ m) (hs : Srt D a m) (f : i = m ∨ (rD D m).1 < (rD D i).1) (g : i = a ∨ (rD D (i - 1)).1 ≤ (rD D m).1) : Srt E a (m + 1) := by
  intro t u t1 t2 t3
  by_cases c1 : u < i
  · rw [h.ahead t t1 (by omega), h.ahead u (by omega) c1]; exact hs _ _ t1 t2 (by omega)
  · by_cases c2 : u = i
    · rw [c2, h.at_, h.ahead t t1 (by omega)]
      have g := g.resolve_left (by omega)
      by_cases e : t = i - 1
      · rw [e]; exact g
      · have := hs t (i - 1) t1 (by omega) (by omega); omega
    · rw [h.behind u (by omega) (by omega)]
      have f := f.resolve_left (by omega)
      have f2 : (rD D i).1 ≤ (rD D (u - 1)).1 := by
        by_cases e : u - 1 = i
        · rw [e]; exact Int.le_refl _
        · exact hs i (u - 1) h1 (by omega) (by omega)
      by_cases c3 : t < i
      · rw [h.ahead t t1 c3]; exact hs _ _ t1 (by omega) (by omega)
      · by_cases c4 : t = i
        · rw [c4, h.at_]; omega
        · rw [h.behind t (by omega) (by omega)]; exact hs _ _ (by omega) (by omega) (by omega)
/-! ### Insertion -/
structure InsJ (E : List Rec) (a i j : Nat) : Prop where
  rest : ∀ t u, a ≤ t → t < u → u ≤ i → t ≠ j → u ≠ j → (rD E t).1 ≤ (rD E u).1
  own : ∀ u, j < u → u ≤ i → (rD E j).1 ≤ (rD E u).1
theorem insJ_0 {E : List Rec} {a i : Nat} (h : Srt E a i) : InsJ E a i i := ⟨fun t u h1 h2 h3 _ h5 => h t u h1 h2 (by omega), fun u h1 h2 => by omega⟩
theorem insJ_step {E : List Rec} {a i j : Nat} (h : InsJ E a i j) (hj : a < j) (hi : j ≤ i) (hl : i < E.length) (hlt : (rD E j).1 < (rD E (j - 1)).1) :
    InsJ ((E.set j (rD E (j - 1))).set (j - 1) (rD E j)) a i (j - 1) := by
  have hg : ∀ t, rD ((E.set j (rD E (j - 1))).set (j - 1) (rD E j)) t = if t = j - 1 then rD E j else if t = j then rD E (j - 1) else rD E t := fun t => by
    rw [rD_set (by rw [List.length_set]; omega), rD_set (by omega)]
  refine ⟨fun t u h1 h2 h3 h4 h5 => ?_, fun u h1 h2 => ?_⟩
  · rw [hg, hg, if_neg h4, if_neg h5]
    by_cases c1 : t = j
    · rw [if_pos c1, if_neg (by omega)]; exact h.rest _ _ (by omega) (by omega) h3 (by omega) (by omega)
    · rw [if_neg c1]
      by_cases c2 : u = j
      · rw [if_pos c2]; exact h.rest _ _ h1 (by omega) (by omega) c1 (by omega)
      · rw [if_neg c2]; exact h.rest _ _ h1 h2 h3 c1 c2
  · rw [hg, if_pos rfl, hg, if_neg (by omega)]
    by_cases c2 : u = j
    · rw [if_pos c2]; omega
    · rw [if_neg c2]; exact h.own u (by omega) h2
theorem ins_sg {D E : List Rec} {a b j : Nat} (h : Sg a b D E) (h1 : a < j) (h2 : j < b) (h3 : b ≤ D.length) (hlt : (rD E j).1 < (rD E (j - 1)).1) : Sg a b D ((E.set j (rD E (j - 1))).set (j - 1) (rD E j)) := by
  have hl := h.len
  rw [show (E.set j (rD E (j - 1))).set (j - 1) (rD E j) = (E.set (j - 1) (rD E (j - 1 + 1))).set (j - 1 + 1) (rD E (j - 1)) by rw [show j - 1 + 1 = j by omega, List.set_comm _ _ (by omega)]]
  exact h.trans (sg_two (by omega) (by omega) (by omega) (by rw [show j - 1 + 1 = j by omega]; omega))
theorem insJ_end {E : List Rec} {a i j : Nat} (h : InsJ E a i j) (h2 : j ≤ i) (f : j = a ∨ (rD E (j - 1)).1 ≤ (rD E j).1) : Srt E a (i + 1) := by
  intro t u t1 t2 t3
  by_cases c1 : t = j
  · rw [c1]; exact h.own u (by omega) (by omega)
  · by_cases c2 : u = j
    · have f := f.resolve_left (by omega)
      rw [c2]
      by_cases e : t = j - 1
      · rw [e]; exact f
      · have := h.rest t (j - 1) t1 (by omega) (by omega) c1 (by omega); omega
    · exact h.rest t u t1 t2 (by omega) c1 c2
/-! ### Blocks -/
structure Blk (D : List Rec) (s q n : Nat) : Prop where
  big : ∀ k, k < q → Srt D (k * (s + s)) (k * (s + s) + (s + s))
  small : ∀ k, q + q ≤ k → Srt D (k * s) (min (k * s + s) n)
theorem blk_first {D E : List Rec} {s q : Nat} (h : ∀ k, k < q → Srt D (k * s) (k * s + s)) (g : Sg (q * s) (q * s + s) D E) (hs : Srt E (q * s) (q * s + s)) : ∀ k, k < q + 1 → Srt E (k * s) (k * s + s) := fun k hk => by
  by_cases e : k = q
  · rw [e]; exact hs
  · have : (k + 1) * s ≤ q * s := Nat.mul_le_mul_right s (by omega)
    rw [Nat.add_mul, Nat.one_mul] at this
    exact g.srt (h k (by omega)) (.inl this)
theorem blk_last {D E : List Rec} {s q n : Nat} (h : ∀ k, k < q → Srt D (k * s) (k * s + s)) (hq : n < q * s + s) (g : Sg (q * s) n D E) (hs : Srt E (q * s) n) : Blk E s 0 n := by
  refine ⟨fun k hk => by omega, fun k _ => ?_⟩
  by_cases e : k < q
  · have : (k + 1) * s ≤ q * s := Nat.mul_le_mul_right s (by omega)
    rw [Nat.add_mul, Nat.one_mul] at this
    exact (g.srt (h k e) (.inl this)).sub (Nat.le_refl _) (Nat.min_le_left _ _)
  · by_cases e2 : k = q
    · rw [e2]; exact hs.sub (Nat.le_refl _) (Nat.min_le_right _ _)
    · have : (q + 1) * s ≤ k * s := Nat.mul_le_mul_right s (by omega)
      rw [Nat.add_mul, Nat.one_mul] at this
      exact srt_nil (by omega)
theorem blk_step {D E : List Rec} {s q n : Nat} (h : Blk D s q n) (g : Sg (q * (s + s)) (q * (s + s) + (s + s)) D E) (hs : Srt E (q * (s + s)) (q * (s + s) + (s + s))) : Blk E s (q + 1) n := by
  refine ⟨fun k hk => ?_, fun k hk => ?_⟩
  · by_cases e : k = q
    · rw [e]; exact hs
    · have : (k + 1) * (s + s) ≤ q * (s + s) := Nat.mul_le_mul_right (s + s) (by omega)
      rw [Nat.add_mul, Nat.one_mul] at this
      exact g.srt (h.big k (by omega)) (.inl this)
  · have : (q + 1 + (q + 1)) * s ≤ k * s := Nat.mul_le_mul_right s hk
    have e : (q + 1 + (q + 1)) * s = q * (s + s) + (s + s) := by rw [Nat.add_mul, Nat.add_mul, Nat.mul_add]; omega
    rw [e] at this
    exact g.srt (h.small k (by omega)) (.inr this)
theorem blk_pair {D : List Rec} {s q n : Nat} (h : Blk D s q n) : Srt D (q * (s + s)) (min (q * (s + s) + s) n) ∧ Srt D (q * (s + s) + s) (min (q * (s + s) + s + s) n) := by
  have h1 := h.small (q + q) (Nat.le_refl _)
  have h2 := h.small (q + q + 1) (by omega)
  rw [show (q + q) * s = q * (s + s) by rw [Nat.add_mul, Nat.mul_add]] at h1
  rw [show (q + q + 1) * s = q * (s + s) + s by rw [Nat.add_mul, Nat.add_mul, Nat.mul_add]; omega] at h2
  exact ⟨h1, h2⟩
theorem blk_done {D E : List Rec} {s q n : Nat} (h : Blk D s q n) (hn : n < q * (s + s) + (s + s)) (g : Sg (q * (s + s)) n D E) (hs : Srt E (q * (s + s)) n) : Blk E (s + s) 0 n := by
  refine ⟨fun k hk => by omega, fun k _ => ?_⟩
  by_cases e : k < q
  · have : (k + 1) * (s + s) ≤ q * (s + s) := Nat.mul_le_mul_right (s + s) (by omega)
    rw [Nat.add_mul, Nat.one_mul] at this
    exact (g.srt (h.big k e) (.inl this)).sub (Nat.le_refl _) (Nat.min_le_left _ _)
  · by_cases e2 : k = q
    · rw [e2]; exact hs.sub (Nat.le_refl _) (Nat.min_le_right _ _)
    · have : (q + 1) * (s + s) ≤ k * (s + s) := Nat.mul_le_mul_right (s + s) (by omega)
      rw [Nat.add_mul, Nat.one_mul] at this
      exact srt_nil (by omega)
theorem blk_end {D : List Rec} {s n : Nat} (h : Blk D s 0 n) (hn : n ≤ s) : Srt D 0 n := by
  have := h.small 0 (Nat.zero_le _)
  rw [Nat.zero_mul, Nat.zero_add, Nat.min_eq_right hn] at this
  exact this
/-! ### One record put among the others -/
theorem day_put {D : List Rec} {r : Rec} {k : Nat} (hk : k ≤ D.length) (hs : SrtL D) (f : k = 0 ∨ (rD D (k - 1)).1 ≤ r.1) (g : k = D.length ∨ r.1 < (rD D k).1) : SrtL (D.take k ++ ([r] ++ D.drop k)) ∧ StEq (D ++ [r]) (D.take k ++ ([r] ++ D.drop k)) := by
  have hp := List.pairwise_iff_getElem.1 hs
  have srt : ∀ i j, i < j → j < D.length → (rD D i).1 ≤ (rD D j).1 := fun i j h1 h2 => by
    have := hp i j (by omega) h2 h1
    rwa [show D[i] = rD D i by simp [rD, List.getD_eq_getElem?_getD, show i < D.length by omega], show D[j] = rD D j by simp [rD, List.getD_eq_getElem?_getD, h2]] at this
  have lo : ∀ x ∈ D.take k, x.1 ≤ r.1 := fun x hx => by
    obtain ⟨i, hi, rfl⟩ := rD_mem hx
    rw [List.length_take] at hi
    rw [rD_take (by omega)]
    have f := f.resolve_left (by omega)
    by_cases e : i = k - 1
    · rw [e]; exact f
    · have := srt i (k - 1) (by omega) (by omega); omega
  have hi : ∀ x ∈ D.drop k, r.1 < x.1 := fun x hx => by
    obtain ⟨i, hi, rfl⟩ := rD_mem hx
    rw [List.length_drop] at hi
    rw [rD_drop]
    have g := g.resolve_left (by omega)
    by_cases e : i = 0
    · rw [e]; exact g
    · have := srt k (k + i) (by omega) (by omega); omega
  have hs2 : SrtL (D.take k ++ D.drop k) := by rw [List.take_append_drop]; exact hs
  have h2 := List.pairwise_append.1 hs2
  refine ⟨?_, ?_⟩
  · refine List.pairwise_append.2 ⟨h2.1, List.pairwise_append.2 ⟨List.pairwise_singleton .., h2.2.1, fun x hx y hy => ?_⟩, fun x hx y hy => ?_⟩
    · rw [List.mem_singleton.1 hx]; exact Int.le_of_lt (hi y hy)
    · rcases List.mem_append.1 hy with hy | hy
      · rw [List.mem_singleton.1 hy]; exact lo x hx
      · exact h2.2.2 x hx y hy
  · have e : D ++ [r] = D.take k ++ (D.drop k ++ [r]) := by rw [← List.append_assoc, List.take_append_drop]
    rw [e]
    refine StEq.app (StEq.refl _) (StEq.swap fun x hx y hy => ?_)
    rw [List.mem_singleton.1 hy]
    have := hi x hx; omega
end Go.KL

/- Rows of structs that are owned: an element's address, its fields, the whole of it (never beside KlRow3c). -/
namespace Go.KL
open Go.RowKit
section
variable {P : Program} {d : Option Tmp} {ty : TypeId} {pos : String} {af : Array Edge} {g : Option (Nat × Bool)} {a : Act} {σ : GW}
theorem y_idxc {k : Nat} {x y : Operand} {c n i : Nat} {ts : List Ty} {t e : TypeId} {z v : Value} {b : Nat} {ki : IntKind} (ht : P.underlying t = some (.slice e)) (he : Info P e z c b)
    (h : Own σ k e c v n ts) (hx : a.eval x = v) (hy : a.eval y = .int ki (i : Int)) (h1 : i < n) :
    Yld P ⟨d, .indexAddr t x y, ty, pos, af, g⟩ a σ (Ty.val (cellPtr v (i * c))).pr := by
  have := own_index (d := d) (ty := ty) (pos := pos) (af := af) (g := g) (i := (i : Int)) ht he h hx hy (by omega) (by omega)
  rwa [Int.toNat_natCast] at this
theorem own_loadst {k o n c m : Nat} {x : Operand} {ts : List Ty} {t e : TypeId} {fs : Array Field} {z v : Value} {by_ : Nat} (ht : P.underlying t = some (.struct fs)) (he : Info P t z c by_) (hl : o + c ≤ ts.length) (hc : 0 < c) (h : Own σ k e m v n ts) (hx : a.eval x = cellPtr v o) :
    Yld P ⟨d, .load t x, ty, pos, af, g⟩ a σ (Ty.agg ((ts.drop o).take c)).pr := by
  have hlen := h.len
  have hn : 0 < n := by
    rcases Nat.eq_zero_or_pos n with h0 | h0
    · subst h0; omega
    · exact h0
  obtain ⟨gg, cap, rfl, _, _⟩ := h.at hn
  obtain ⟨us, r1, r2, r3, _⟩ := h
  have hx' : a.eval x = .pointer (some ⟨gg, o, none⟩) := hx
  have hlen2 : ((us.drop o).take c).length = c := by rw [List.length_take, List.length_drop]; omega
  have hget : ∀ j, j < c → ((us.drop o).take c)[j]? = us[o + j]? := fun j hj => by rw [List.getElem?_take_of_lt hj, List.getElem?_drop]
  refine Yld.of_run (v := .agg ((us.drop o).take c).toArray) ?_ ⟨_, rfl, ?_, fun j T u hj hu => ?_⟩
  · simp only [execOp, hx']
    have := run_loadVar (P := P) ht he (w := σ.w) (ad := ⟨gg, o, none⟩) (us := (us.drop o).take c) hlen2 (fun j u hj => by
      have hlt : j < c := by have := (List.getElem?_eq_some_iff.1 hj).1; omega
      rw [hget j hlt] at hj
      rw [Addr.add_lit]
      have hc' := r1.cellAt (o + j) (by omega)
      rw [hj] at hc'
      exact hc')
    simp [Instr.loadAt, Instr.sureAddr, this]
  · simp only [List.size_toArray, hlen2]; rw [List.length_take, List.length_drop]; omega
  · have hlt : j < c := by have := (List.getElem?_eq_some_iff.1 hj).1; rw [List.length_take] at this; omega
    rw [List.getElem?_take_of_lt hlt, List.getElem?_drop] at hj
    have hu2 : ((us.drop o).take c)[j]? = some u := by simpa using hu
    rw [hget j hlt] at hu2
    exact r3 _ T u hj hu2
end
theorem yld_agg {P : Program} {o : Oper} {a : Act} {σ : GW} {ts us : List Ty} (e : ts = us) (h : Yld P o a σ (Ty.agg ts).pr) : Yld P o a σ (Ty.agg us).pr := e ▸ h
end Go.KL

