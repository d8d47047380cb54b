/- Plain maths: the rows of changes. -/
import Derived.Test.YtmeijdkjccfpmaaTopSumK1
import Derived.Lib.Builder
import Derived.Lib.UnsafeStr
import Derived.Lib.SliceRun
import Derived.Lib.DecodeN
namespace Go.KL

def okL : Int → List Int → Int → Prop
  | z, [], n => z ≤ n ∧ (n - z) % 2 = 0
  | z, p :: l, n => z < p ∧ p ≤ n ∧ (p - z) % 2 = 1 ∧ okL p l n
theorem okL_lt : ∀ {l : List Int} {z n : Int}, okL z l n → ∀ x ∈ l, z < x ∧ x ≤ n
  | [], _, _, _, x, hx => by simp at hx
  | p :: l, z, n, h, x, hx => by
    obtain ⟨h1, h2, _, h4⟩ := h
    rcases List.mem_cons.1 hx with e | hx
    · rw [e]; exact ⟨h1, h2⟩
    · have := okL_lt h4 x hx; omega
theorem okL_scan {n : Int} {l : List Int} (h : okL 0 l n) : ∀ k, k ≤ l.length → ∃ z, scanTo n l k = some z ∧ 0 ≤ z ∧ okL z (l.drop k) n
  | 0, _ => ⟨0, rfl, by omega, by simpa using h⟩
  | k + 1, hk => by
    obtain ⟨z, hs, hz, ho⟩ := okL_scan h k (by omega)
    have e : l.drop k = l.getD k 0 :: l.drop (k + 1) := by rw [List.drop_eq_getElem_cons (show k < l.length by omega), gd]
    rw [e] at ho
    obtain ⟨h1, h2, h3, h4⟩ := ho
    exact ⟨l.getD k 0, scan_step hs (by omega) (by omega) hz (by omega), by omega, h4⟩
theorem chgMay_of_okL {n : Int} {l : List Int} (hn : ¬ (n < 1 ∨ 12 < n)) (h : okL 0 l n) : chgMay n l = 0 := by
  obtain ⟨z, hs, hz, ho⟩ := okL_scan h l.length (Nat.le_refl _)
  rw [List.drop_length] at ho
  obtain ⟨h1, h2⟩ := ho
  exact chgMay_ok hn hs (by omega)
theorem chgMay_n {n : Int} {l : List Int} (h : chgMay n l = 0) : ¬ (n < 1 ∨ 12 < n) := fun hc => by rw [chgMay_cnt hc] at h; omega
theorem okL_of_chgMay {n : Int} {l : List Int} (h : chgMay n l = 0) : okL 0 l n := by
  have hn := chgMay_n h
  have key : ∀ d k, k + d = l.length → ∀ z, 0 ≤ z → z ≤ n → scanTo n l k = some z → okL z (l.drop k) n := by
    intro d
    induction d with
    | zero =>
      intro k hk z hz hzn hs
      have ek : k = l.length := by omega
      subst ek
      rw [List.drop_length]
      refine ⟨hzn, ?_⟩
      apply Classical.byContradiction; intro hc
      have := chgMay_odd hn hs (by omega)
      omega
    | succ d ih =>
      intro k hk z hz hzn hs
      have e : l.drop k = l.getD k 0 :: l.drop (k + 1) := by rw [List.drop_eq_getElem_cons (show k < l.length by omega), gd]
      have hb : ¬ (l.getD k 0 ≤ z ∨ n < l.getD k 0 ∨ (((l.getD k 0 - z).toNat % 2 : Nat) : Int) = 0) := fun hc => by
        have := chgMay_scan hn hs (show k < l.length by omega) hc
        omega
      rw [e]
      exact ⟨by omega, by omega, by omega, ih (k + 1) (by omega) _ (by omega) (by omega) (scan_step hs (by omega) (by omega) hz (by omega))⟩
  have := key l.length 0 (by omega) 0 (by omega) (by omega) rfl
  simpa using this
def rowF (l : List Int) (n : Nat) : Nat → Nat → List Int
  | 0, _ => []
  | f + 1, i => if n ≤ i then [] else if ((i : Int) + 1) ∈ l then (i : Int) :: rowF l n f (i + 1) else ((i : Int) + 1) :: (i : Int) :: rowF l n f (i + 2)
def chgRow (n : Nat) (l : List Int) : List Int := rowF l n n 0
theorem rowF_end {l : List Int} {n f i : Nat} (h : n ≤ i) : rowF l n f i = [] := by cases f <;> simp [rowF, h]
structure AtC (n : Nat) (l : List Int) (i : Nat) where
  ex : ∃ L, okL i L n ∧ ∀ x, (i : Int) < x → (x ∈ l ↔ x ∈ L)
theorem AtC.zero {n : Nat} {l : List Int} (h : okL 0 l n) : AtC n l 0 := ⟨l, h, fun _ _ => Iff.rfl⟩
theorem AtC.le {n : Nat} {l : List Int} {i : Nat} (h : AtC n l i) : i ≤ n := by
  obtain ⟨L, ho, _⟩ := h.ex
  cases L with
  | nil => exact Int.ofNat_le.1 ho.1
  | cons p L => have := ho.1; have := ho.2.1; omega
theorem AtC.yes {n : Nat} {l : List Int} {i : Nat} (h : AtC n l i) (hc : ((i : Int) + 1) ∈ l) : AtC n l (i + 1) := by
  obtain ⟨L, ho, hm⟩ := h.ex
  have hL := (hm _ (by omega)).1 hc
  cases L with
  | nil => simp at hL
  | cons p L =>
    obtain ⟨h1, h2, h3, h4⟩ := ho
    have e : p = (i : Int) + 1 := by
      rcases List.mem_cons.1 hL with e | hm2
      · exact e.symm
      · have := (okL_lt h4 _ hm2).1; omega
    subst e
    refine ⟨L, by simpa using h4, fun x hx => ?_⟩
    rw [hm x (by omega), List.mem_cons]
    exact ⟨fun h => h.resolve_left (by omega), .inr⟩
theorem AtC.no {n : Nat} {l : List Int} {i : Nat} (h : AtC n l i) (hi : i < n) (hc : ((i : Int) + 1) ∉ l) : i + 2 ≤ n ∧ AtC n l (i + 2) := by
  obtain ⟨L, ho, hm⟩ := h.ex
  cases L with
  | nil =>
    obtain ⟨h1, h2⟩ := ho
    exact ⟨by omega, [], ⟨by omega, by omega⟩, fun x hx => hm x (by omega)⟩
  | cons p L =>
    obtain ⟨h1, h2, h3, h4⟩ := ho
    have hp : p ≠ (i : Int) + 1 := fun e => hc ((hm _ (by omega)).2 (by rw [← e]; simp))
    exact ⟨by omega, p :: L, ⟨by omega, h2, by omega, h4⟩, fun x hx => hm x (by omega)⟩
theorem rowF_len {n : Nat} {l : List Int} : ∀ (f i : Nat), AtC n l i → n ≤ f + i → (rowF l n f i).length = n - i
  | 0, i, _, hf => by simp [rowF]; omega
  | f + 1, i, h, hf => by
    by_cases hi : n ≤ i
    · rw [rowF_end hi]; simp; omega
    · by_cases hc : ((i : Int) + 1) ∈ l
      · rw [rowF, if_neg hi, if_pos hc, List.length_cons, rowF_len f _ (h.yes hc) (by omega)]; omega
      · have h2 := h.no (by omega) hc
        rw [rowF, if_neg hi, if_neg hc, List.length_cons, List.length_cons, rowF_len f _ h2.2 (by omega)]; omega
theorem chgRow_len {n : Nat} {l : List Int} (h : okL 0 l n) : (chgRow n l).length = n := by
  unfold chgRow; have := rowF_len n 0 (AtC.zero h) (by omega); simpa using this

end Go.KL

/- Plain maths: a change twice is none; its parity. -/
namespace Go.KL

theorem gd_cons0 (x : Int) (l : List Int) : (x :: l).getD 0 0 = x := rfl
theorem gd_consS (x : Int) (l : List Int) (j : Nat) : (x :: l).getD (j + 1) 0 = l.getD j 0 := rfl
def ups (i : Nat) (l : List Int) : Nat := (List.range l.length).countP fun j => decide (((j + i : Nat) : Int) < l.getD j 0)
theorem ups_nil (i : Nat) : ups i [] = 0 := rfl
theorem ups_cons (i : Nat) (x : Int) (l : List Int) : ups i (x :: l) = (if (i : Int) < x then 1 else 0) + ups (i + 1) l := by
  unfold ups
  rw [List.length_cons, List.range_succ_eq_map, List.countP_cons, List.countP_map]
  have : ((fun j => decide (((j + i : Nat) : Int) < (x :: l).getD j 0)) ∘ Nat.succ) = fun j => decide (((j + (i + 1) : Nat) : Int) < l.getD j 0) := by
    funext j; simp only [Function.comp, Nat.succ_eq_add_one, gd_consS]; congr 2; omega
  rw [this, gd_cons0]
  simp only [Nat.zero_add, decide_eq_true_eq]
  omega

structure Piece (i : Nat) (n : Nat) (r : List Int) : Prop where
  len : r.length = n - i
  bd : ∀ j, i ≤ j → j < n → (i : Int) ≤ r.getD (j - i) 0 ∧ r.getD (j - i) 0 < n
  inv : ∀ j, i ≤ j → j < n → r.getD ((r.getD (j - i) 0).toNat - i) 0 = j
theorem Piece.one {i n : Nat} {r : List Int} (h : Piece (i + 1) n r) (hi : i < n) : Piece i n ((i : Int) :: r) := by
  refine ⟨by rw [List.length_cons, h.len]; omega, fun j h1 h2 => ?_, fun j h1 h2 => ?_⟩
  · by_cases e : j = i
    · subst e; rw [Nat.sub_self, gd_cons0]; omega
    · obtain ⟨d, rfl⟩ : ∃ d, j = i + 1 + d := ⟨j - (i + 1), by omega⟩
      have := h.bd (i + 1 + d) (by omega) h2
      rw [show i + 1 + d - (i + 1) = d by omega] at this
      rw [show i + 1 + d - i = d + 1 by omega, gd_consS]; omega
  · by_cases e : j = i
    · subst e; rw [Nat.sub_self, gd_cons0, Int.toNat_natCast, Nat.sub_self, gd_cons0]
    · obtain ⟨d, rfl⟩ : ∃ d, j = i + 1 + d := ⟨j - (i + 1), by omega⟩
      have hb := h.bd (i + 1 + d) (by omega) h2
      have hv := h.inv (i + 1 + d) (by omega) h2
      rw [show i + 1 + d - (i + 1) = d by omega] at hb hv
      rw [show i + 1 + d - i = d + 1 by omega, gd_consS]
      rw [show (r.getD d 0).toNat - i = ((r.getD d 0).toNat - (i + 1)) + 1 by omega, gd_consS, hv]
theorem Piece.two {i n : Nat} {r : List Int} (h : Piece (i + 2) n r) (hi : i + 2 ≤ n) : Piece i n (((i : Int) + 1) :: (i : Int) :: r) := by
  refine ⟨by rw [List.length_cons, List.length_cons, h.len]; omega, fun j h1 h2 => ?_, fun j h1 h2 => ?_⟩
  · by_cases e : j = i
    · subst e; rw [Nat.sub_self, gd_cons0]; omega
    · by_cases e2 : j = i + 1
      · subst e2; rw [show i + 1 - i = 1 by omega, gd_consS, gd_cons0]; omega
      · obtain ⟨d, rfl⟩ : ∃ d, j = i + 2 + d := ⟨j - (i + 2), by omega⟩
        have := h.bd (i + 2 + d) (by omega) h2
        rw [show i + 2 + d - (i + 2) = d by omega] at this
        rw [show i + 2 + d - i = d + 1 + 1 by omega, gd_consS, gd_consS]; omega
  · by_cases e : j = i
    · subst e; rw [Nat.sub_self, gd_cons0, show ((j : Int) + 1).toNat - j = 1 by omega, gd_consS, gd_cons0]
    · by_cases e2 : j = i + 1
      · subst e2; rw [show i + 1 - i = 1 by omega, gd_consS, gd_cons0, Int.toNat_natCast, Nat.sub_self, gd_cons0]; omega
      · obtain ⟨d, rfl⟩ : ∃ d, j = i + 2 + d := ⟨j - (i + 2), by omega⟩
        have hb := h.bd (i + 2 + d) (by omega) h2
        have hv := h.inv (i + 2 + d) (by omega) h2
        rw [show i + 2 + d - (i + 2) = d by omega] at hb hv
        rw [show i + 2 + d - i = d + 1 + 1 by omega, gd_consS, gd_consS]
        rw [show (r.getD d 0).toNat - i = ((r.getD d 0).toNat - (i + 2)) + 1 + 1 by omega, gd_consS, gd_consS, hv]
theorem Piece.end' (n : Nat) : Piece n n [] := ⟨by simp, fun j h1 h2 => by omega, fun j h1 h2 => by omega⟩
theorem rowF_piece {n : Nat} {l : List Int} : ∀ (f i : Nat) (L : List Int), okL i L n → (∀ x, (i : Int) < x → (x ∈ l ↔ x ∈ L)) → n ≤ f + i → i ≤ n → Piece i n (rowF l n f i) ∧ n - i = 2 * ups i (rowF l n f i) + L.length := by
  intro f
  induction f with
  | zero =>
    intro i L ho hm hf hi
    have e : i = n := by omega
    subst e
    have hL : L = [] := by
      cases L with
      | nil => rfl
      | cons p L => have := ho.1; have := ho.2.1; omega
    subst hL
    rw [rowF, ups_nil]; exact ⟨Piece.end' i, by simp⟩
  | succ f ih =>
    intro i L ho hm hf hi
    by_cases hn : n ≤ i
    · have e : i = n := by omega
      subst e
      have hL : L = [] := by
        cases L with
        | nil => rfl
        | cons p L => have := ho.1; have := ho.2.1; omega
      subst hL
      rw [rowF_end (Nat.le_refl _), ups_nil]; exact ⟨Piece.end' i, by simp⟩
    · by_cases hc : ((i : Int) + 1) ∈ l
      · have hL := (hm _ (by omega)).1 hc
        cases L with
        | nil => simp at hL
        | cons p L =>
          obtain ⟨h1, h2, h3, h4⟩ := ho
          have e : p = (i : Int) + 1 := by
            rcases List.mem_cons.1 hL with e | hm2
            · exact e.symm
            · have := (okL_lt h4 _ hm2).1; omega
          subst e
          have := ih (i + 1) L (by simpa using h4) (fun x hx => by
            rw [hm x (by omega), List.mem_cons]
            exact ⟨fun h => h.resolve_left (by omega), .inr⟩) (by omega) (by omega)
          rw [rowF, if_neg hn, if_pos hc, ups_cons, if_neg (by omega), List.length_cons]
          exact ⟨this.1.one (by omega), by omega⟩
      · have h2 := AtC.no ⟨L, ho, hm⟩ (by omega) hc
        have ho2 : okL ((i + 2 : Nat) : Int) L n := by
          cases L with
          | nil => obtain ⟨h3, h4⟩ := ho; exact ⟨by omega, by omega⟩
          | cons p L =>
            obtain ⟨h3, h4, h5, h6⟩ := ho
            have hp : p ≠ (i : Int) + 1 := fun e => hc ((hm _ (by omega)).2 (by rw [← e]; simp))
            exact ⟨by omega, h4, by omega, h6⟩
        have := ih (i + 2) L ho2 (fun x hx => hm x (by omega)) (by omega) h2.1
        rw [rowF, if_neg hn, if_neg hc, ups_cons, ups_cons, if_pos (by omega), if_neg (by omega)]
        exact ⟨this.1.two h2.1, by rw [show i + 1 + 1 = i + 2 from rfl]; omega⟩
theorem chgRow_piece {n : Nat} {l : List Int} (h : okL 0 l n) : Piece 0 n (chgRow n l) ∧ n = 2 * ups 0 (chgRow n l) + l.length := by
  have := rowF_piece n 0 l h (fun _ _ => Iff.rfl) (by omega) (by omega)
  exact this

/-! ### A row that is none twice -/
theorem piece_row {n : Nat} {r : List Int} (h : Piece 0 n r) (h1 : 1 ≤ n) (h2 : n ≤ 12) : IsRow r := by
  have hl : r.length = n := by have := h.len; omega
  apply rowMay_ok.1
  refine rowMay_of (by omega) (by omega) ?_ ?_
  · rw [List.nodup_iff_pairwise_ne, List.pairwise_iff_getElem]
    intro i j hi hj hij
    rw [gd r i hi, gd r j hj]
    intro e
    have a := h.inv i (by omega) (by omega)
    have b := h.inv j (by omega) (by omega)
    simp only [Nat.sub_zero] at a b
    rw [e] at a; omega
  · intro x hx
    obtain ⟨j, hj, e⟩ := List.getElem_of_mem hx
    rw [gd r j hj] at e
    have := h.bd j (by omega) (by omega)
    simp only [Nat.sub_zero] at this
    omega
theorem ordTo_pre {n : Nat} {r : List Int} (h : Piece 0 n r) (hr : IsRow r) (hl : r.length = n) {b : Nat} (hb : b < r.length) : per r b ≤ 2 ∧ itr r b 1 = (r.getD b 0).toNat ∧ itr r b 2 = b := by
  have hp := per_spec hr hb
  have e2 : itr r b 2 = b := by
    show (r.getD (itr r b 1) 0).toNat = b
    show (r.getD (r.getD b 0).toNat 0).toNat = b
    have := h.inv b (by omega) (by omega)
    simp only [Nat.sub_zero] at this
    rw [this]; rfl
  refine ⟨?_, rfl, e2⟩
  apply Classical.byContradiction; intro hc
  exact hp.2.2.2 2 (by omega) (by omega) e2
theorem per_iff {n : Nat} {r : List Int} (h : Piece 0 n r) (hr : IsRow r) (hl : r.length = n) {b : Nat} (hb : b < r.length) : per r b = if r.getD b 0 = b then 1 else 2 := by
  have hp := per_spec hr hb
  obtain ⟨h2, e1, e2⟩ := ordTo_pre h hr hl hb
  have hbd := h.bd b (by omega) (by omega)
  simp only [Nat.sub_zero] at hbd
  split
  · rename_i e
    apply Classical.byContradiction; intro hc
    exact hp.2.2.2 1 (by omega) (by omega) (by rw [e1, e]; omega)
  · rename_i e
    have : per r b ≠ 1 := fun hc => by
      have := hp.2.2.1; rw [hc, e1] at this; omega
    omega
theorem least_inv {n : Nat} {r : List Int} (h : Piece 0 n r) (hr : IsRow r) (hl : r.length = n) {b : Nat} (hb : b < r.length) : least r b = decide ((b : Int) ≤ r.getD b 0) := by
  have hp := per_iff h hr hl hb
  have hbd := h.bd b (by omega) (by omega)
  simp only [Nat.sub_zero] at hbd
  obtain ⟨h2, e1, e2⟩ := ordTo_pre h hr hl hb
  unfold least
  rw [hp]
  have r2 : List.range 2 = [0, 1] := rfl
  have r1 : List.range 1 = [0] := rfl
  have i0 : itr r b 0 = b := rfl
  split
  · rename_i e; rw [r1]; simp only [List.all_cons, List.all_nil, Bool.and_true, i0, Nat.le_refl, decide_true]; exact (decide_eq_true (by omega)).symm
  · rename_i e
    rw [r2]
    simp only [List.all_cons, List.all_nil, Bool.and_true, i0, e1, Nat.le_refl, decide_true, Bool.true_and, decide_eq_decide]
    omega
theorem oddTo_snoc (l : List (List Int)) (c : List Int) : oddTo (l ++ [c]) (l ++ [c]).length = (oddTo l l.length != decide (((c.length % 2 : Nat) : Int) = 0)) := by
  simp only [oddTo, List.take_length, List.foldl_append, List.foldl_cons, List.foldl_nil]
theorem ordTo_snoc (l : List (List Int)) (c : List Int) : ordTo (l ++ [c]) (l ++ [c]).length = ordTo l l.length * (c.length / Nat.gcd (ordTo l l.length) c.length) := by
  simp only [ordTo, List.take_length, List.foldl_append, List.foldl_cons, List.foldl_nil]
theorem inv_cycles {n : Nat} {r : List Int} (h : Piece 0 n r) (hr : IsRow r) (hl : r.length = n) : ∀ k, k ≤ n →
    (ordTo (cyclesTo r k) (cyclesTo r k).length = 1 ∨ ordTo (cyclesTo r k) (cyclesTo r k).length = 2) ∧
    oddTo (cyclesTo r k) (cyclesTo r k).length = decide ((List.range k).countP (fun (j : Nat) => decide ((j : Int) < r.getD j 0)) % 2 = 1)
  | 0, _ => ⟨.inl rfl, rfl⟩
  | k + 1, hk => by
    have ih := inv_cycles h hr hl k (by omega)
    have hle := least_inv h hr hl (b := k) (by omega)
    have hpe := per_iff h hr hl (b := k) (by omega)
    rw [List.range_succ, List.countP_append, List.countP_cons, List.countP_nil]
    by_cases hlt : (k : Int) ≤ r.getD k 0
    · rw [cyclesTo_yes r k (by rw [hle]; exact decide_eq_true hlt), oddTo_snoc, ordTo_snoc, orb_len, hpe, ih.2]
      by_cases e : r.getD k 0 = k
      · rw [if_pos e]
        refine ⟨?_, ?_⟩
        · rw [Nat.gcd_one_right]; simpa using ih.1
        · have : ¬ ((k : Int) < r.getD k 0) := by omega
          simp only [this, decide_false, Bool.false_eq_true, if_false]
          simp
      · rw [if_neg e]
        have e3 : ((k : Int) < r.getD k 0) := by omega
        refine ⟨?_, ?_⟩
        · rcases ih.1 with h1 | h1 <;> rw [h1] <;> decide
        · simp only [e3, decide_true, if_true]
          rcases Nat.mod_two_eq_zero_or_one ((List.range k).countP (fun (j : Nat) => decide ((j : Int) < r.getD j 0))) with h1 | h1
          · rw [show (0 + 1 : Nat) = 1 from rfl, Nat.add_mod, h1]; decide
          · rw [show (0 + 1 : Nat) = 1 from rfl, Nat.add_mod, h1]; decide
    · rw [cyclesTo_no r k (by rw [hle]; exact decide_eq_false hlt)]
      have e3 : ¬ ((k : Int) < r.getD k 0) := by omega
      simp only [e3, decide_false]
      simpa using ih
theorem ord_inv {n : Nat} {l : List Int} (h : okL 0 l n) (h1 : 1 ≤ n) (h2 : n ≤ 12) : IsRow (chgRow n l) ∧ ordL (chgRow n l) ≤ 2 ∧ oddL (chgRow n l) = decide (((n - l.length) / 2) % 2 = 1) ∧ l.length ≤ n := by
  obtain ⟨hp, hc⟩ := chgRow_piece h
  have hl : (chgRow n l).length = n := chgRow_len h
  have hr := piece_row hp h1 h2
  have hi := inv_cycles hp hr hl n (Nat.le_refl _)
  have e : cyclesL (chgRow n l) = cyclesTo (chgRow n l) n := by unfold cyclesL; rw [hl]
  refine ⟨hr, ?_, ?_, by omega⟩
  · unfold ordL; rw [e]; rcases hi.1 with h | h <;> rw [h] <;> decide
  · unfold oddL; rw [e, hi.2]
    congr 2
    have : (List.range n).countP (fun (j : Nat) => decide ((j : Int) < (chgRow n l).getD j 0)) = ups 0 (chgRow n l) := by
      unfold ups; rw [hl]; rfl
    rw [this]; omega
end Go.KL

/- Plain maths: methods. -/
namespace Go.KL

def letterB (c : Int) : Bool := ((((decide (65 ≤ c) && decide (c ≤ 90)) || (decide (97 ≤ c) && decide (c ≤ 122))) || (decide (48 ≤ c) && decide (c ≤ 57))) || decide (c = 32)) || (((decide (192 ≤ c) && decide (c ≤ 382)) && decide (c ≠ 215)) && decide (c ≠ 247))
def nameL (s : ByteArray) : Bool := (runesL s).all (fun (c : Nat) => letterB (c : Int)) && (decide ((1 : Int) ≤ (((runesL s).length : Nat) : Int)) && decide ((((runesL s).length : Nat) : Int) ≤ (20 : Int)) && decide ((((s.get! 0).toNat : Nat) : Int) ≠ 32) && decide ((((s.get! (s.size - 1)).toNat : Nat) : Int) ≠ 32))
/-! ### Which methods may be -/
def allMay (n : Int) : List (List Int) → Int
  | [] => 0
  | p :: l => if chgMay n p ≠ 0 then chgMay n p else allMay n l
def methMay (s : ByteArray) (n : Int) (l : List (List Int)) : Int :=
  if nameL s = false then 7 else if n < 2 ∨ 12 < n ∨ l.length < 1 ∨ 200 < l.length then 1 else allMay n l
theorem allMay_zero {n : Int} : ∀ {l : List (List Int)}, allMay n l = 0 ↔ ∀ p ∈ l, chgMay n p = 0
  | [] => by simp [allMay]
  | p :: l => by
    rw [allMay]
    split
    · rename_i h; simp [h]
    · rename_i h
      have h := Classical.not_not.1 h
      rw [allMay_zero]; simp [h]
structure MethOk (s : ByteArray) (n : Nat) (l : List (List Int)) : Prop where
  name : nameL s = true
  n1 : 2 ≤ n
  n2 : n ≤ 12
  l1 : 1 ≤ l.length
  l2 : l.length ≤ 200
  ok : ∀ k, k < l.length → okL 0 (l.getD k []) n
theorem methMay_ok {s : ByteArray} {n : Int} {l : List (List Int)} : methMay s n l = 0 ↔ ∃ m : Nat, n = m ∧ MethOk s m l := by
  unfold methMay
  constructor
  · intro h
    split at h
    · omega
    · rename_i h1
      split at h
      · omega
      · rename_i h2
        refine ⟨n.toNat, by omega, by simpa using h1, by omega, by omega, by omega, by omega, fun k hk => ?_⟩
        have := allMay_zero.1 h (l.getD k []) (by rw [List.getD_eq_getElem?_getD]; simp [hk])
        have := okL_of_chgMay this
        rwa [show ((n.toNat : Nat) : Int) = n by omega]
  · rintro ⟨m, rfl, h⟩
    rw [if_neg (by rw [h.name]; simp), if_neg (by have := h.n1; have := h.n2; have := h.l1; have := h.l2; omega), allMay_zero]
    intro p hp
    obtain ⟨k, hk, rfl⟩ := List.getElem_of_mem hp
    have := h.ok k hk
    rw [List.getD_eq_getElem?_getD] at this
    simp [hk] at this
    exact chgMay_of_okL (by have := h.n1; have := h.n2; omega) this

/-! ### Rows that come one behind the other -/
def curL (r : List Int) (l : List (List Int)) (k : Nat) : List Int := (l.take k).foldl (fun r p => byL r (chgRow r.length p)) r
theorem curL_succ (r : List Int) (l : List (List Int)) (k : Nat) (hk : k < l.length) : curL r l (k + 1) = byL (curL r l k) (chgRow (curL r l k).length (l.getD k [])) := by
  unfold curL
  rw [take_snoc l [] k hk, List.foldl_append]; rfl
/-! ### What is made of raw numbers -/
end Go.KL

/- Plain maths: courses. -/
namespace Go.KL

/-! ### A row's order -/
theorem least_of {r : List Int} (hr : IsRow r) : ∀ (b : Nat), b < r.length → ∃ k, k < r.length ∧ least r k = true ∧ Leads r k b := by
  intro b
  induction b using Nat.strongRecOn with
  | ind b ih =>
    intro hb
    by_cases hl : least r b = true
    · exact ⟨b, hb, hl, 0, rfl⟩
    · rw [least_iff hr hb] at hl
      obtain ⟨k, hk⟩ := Classical.not_forall.1 hl
      obtain ⟨h1, h2⟩ := Classical.not_imp.1 hk
      obtain ⟨m, h3, h4, h5⟩ := ih k (by omega) (h1.lt hr hb)
      exact ⟨m, h3, h4, h5.trans (h1.symm hr hb)⟩
/-! ### Products -/
theorem byL_row {a b : List Int} (ha : IsRow a) (hb : IsRow b) (hl : a.length = b.length) : IsRow (byL a b) := by
  apply rowMay_ok.1
  refine rowMay_of (by rw [byL_len]; exact hb.pos) (by rw [byL_len]; exact hb.le) ?_ ?_
  · unfold byL
    rw [List.nodup_iff_pairwise_ne, List.pairwise_iff_getElem]
    intro i j hi hj hij e
    simp only [List.length_map] at hi hj
    simp only [List.getElem_map] at e
    rw [gd b i hi, gd b j hj] at e
    have bi := hb.at hi
    have bj := hb.at hj
    have h1 := idxOf_at ha.nodup (k := (b.getD i 0).toNat) (by omega)
    have h2 := idxOf_at ha.nodup (k := (b.getD j 0).toNat) (by omega)
    rw [e] at h1
    have e2 : b.getD i 0 = b.getD j 0 := by omega
    have h3 := idxOf_at hb.nodup hi
    have h4 := idxOf_at hb.nodup hj
    rw [e2] at h3; omega
  · intro x hx
    unfold byL at hx
    obtain ⟨y, hy, rfl⟩ := List.mem_map.1 hx
    have := hb.bound y hy
    have := ha.at (i := y.toNat) (by omega)
    rw [byL_len]; omega

/-! ### The rows of a lead, of a course -/
theorem curL_row {n : Nat} {l : List (List Int)} (h1 : 1 ≤ n) (h2 : n ≤ 12) (h : ∀ k, k < l.length → okL 0 (l.getD k []) n) : ∀ k, k ≤ l.length → IsRow (curL (roundsL n) l k) ∧ (curL (roundsL n) l k).length = n
  | 0, _ => ⟨roundsL_row h1 h2, roundsL_len n⟩
  | k + 1, hk => by
    obtain ⟨hr, hl⟩ := curL_row h1 h2 h k (by omega)
    have ho := h k (by omega)
    have hc := (ord_inv ho h1 h2).1
    rw [curL_succ _ l k (by omega), hl]
    exact ⟨byL_row hr hc (by rw [hl, chgRow_len ho]), by rw [byL_len, chgRow_len ho]⟩
def headL (n : Nat) (l : List (List Int)) : List Int := curL (roundsL n) l l.length
theorem MethOk.head {s : ByteArray} {n : Nat} {l : List (List Int)} (h : MethOk s n l) : IsRow (headL n l) ∧ (headL n l).length = n := curL_row (by have := h.n1; omega) h.n2 h.ok _ (Nat.le_refl _)
theorem MethOk.may {s : ByteArray} {n : Nat} {l : List (List Int)} (h : MethOk s n l) : methMay s n l = 0 := methMay_ok.2 ⟨n, rfl, h⟩
end Go.KL

/- Plain maths: the sign of a row. -/
namespace Go.KL

theorem par_add (a b : Nat) : decide ((a + b) % 2 = 1) = (decide (a % 2 = 1) != decide (b % 2 = 1)) := by
  rcases Nat.mod_two_eq_zero_or_one a with h | h <;> rcases Nat.mod_two_eq_zero_or_one b with k | k <;> rw [Nat.add_mod, h, k] <;> decide
theorem row_perm {r : List Int} (h : IsRow r) : r.Perm (roundsL r.length) := by
  rw [List.perm_ext_iff_of_nodup h.nodup (roundsL_row h.pos h.le).nodup]
  intro x
  constructor
  · intro hx
    have := h.bound x hx
    exact List.mem_map.2 ⟨x.toNat, List.mem_range.2 (by omega), by omega⟩
  · intro hx
    obtain ⟨k, hk, rfl⟩ := List.mem_map.1 hx
    exact h.mem (List.mem_range.1 hk)
end Go.KL

/- Plain maths: a row's sign, by its cycles and by its inversions. -/
namespace Go.KL

/-! ### Inversions -/
/-! ### Cycles -/
theorem oddF (l : List (List Int)) : oddTo l l.length = decide ((l.flatten.length + l.length) % 2 = 1) := by
  have key : ∀ (l : List (List Int)) (b : Bool), l.foldl (fun b c => b != decide (((c.length % 2 : Nat) : Int) = (0 : Int))) b = (b != decide ((l.flatten.length + l.length) % 2 = 1)) := by
    intro l
    induction l with
    | nil => intro b; simp
    | cons c l ih =>
      intro b
      rw [List.foldl_cons, ih, List.flatten_cons, List.length_append, List.length_cons]
      rw [show c.length + l.flatten.length + (l.length + 1) = (c.length + 1) + (l.flatten.length + l.length) by omega, par_add (c.length + 1) (l.flatten.length + l.length)]
      have e : decide (((c.length % 2 : Nat) : Int) = (0 : Int)) = decide ((c.length + 1) % 2 = 1) := by rw [decide_eq_decide]; omega
      rw [e]
      generalize decide ((c.length + 1) % 2 = 1) = p
      generalize decide ((l.flatten.length + l.length) % 2 = 1) = q
      revert b p q; decide
  unfold oddTo
  rw [List.take_length, key]
  simp
theorem orb_mem {r : List Int} {b : Nat} {x : Int} : x ∈ orb r b ↔ ∃ m, m < per r b ∧ ((itr r b m : Nat) : Int) = x := by
  unfold orb; simp
theorem orb_nodup {r : List Int} (hr : IsRow r) {b : Nat} (hb : b < r.length) : (orb r b).Nodup := by
  unfold orb
  rw [List.nodup_iff_pairwise_ne, List.pairwise_map]
  refine List.Pairwise.imp_of_mem ?_ List.pairwise_lt_range
  intro i j hi hj hij e
  exact itr_inj hr hb hij (List.mem_range.1 hj) (by omega)
theorem cycles_perm {r : List Int} (hr : IsRow r) : (cyclesL r).flatten.Perm (roundsL r.length) := by
  rw [List.perm_ext_iff_of_nodup ?_ (roundsL_row hr.pos hr.le).nodup]
  · intro x
    rw [List.mem_flatten]
    constructor
    · rintro ⟨c, hc, hx⟩
      obtain ⟨b, hb, _, rfl⟩ := cyc_mem hc
      obtain ⟨m, _, rfl⟩ := orb_mem.1 hx
      exact List.mem_map.2 ⟨itr r b m, List.mem_range.2 (itr_lt hr hb m), rfl⟩
    · intro hx
      obtain ⟨k, hk, rfl⟩ := List.mem_map.1 hx
      have hk := List.mem_range.1 hk
      obtain ⟨b, hb, hl, hle⟩ := least_of hr k hk
      obtain ⟨m, hm, e⟩ := hle.small hr hb
      exact ⟨orb r b, List.mem_map.2 ⟨b, List.mem_filter.2 ⟨List.mem_range.2 hb, hl⟩, rfl⟩, orb_mem.2 ⟨m, hm, by rw [e]⟩⟩
  · rw [List.nodup_iff_pairwise_ne, List.pairwise_flatten]
    constructor
    · intro c hc
      obtain ⟨b, hb, _, rfl⟩ := cyc_mem hc
      exact List.nodup_iff_pairwise_ne.1 (orb_nodup hr hb)
    · unfold cyclesL cyclesTo
      rw [List.pairwise_map]
      refine List.Pairwise.imp_of_mem ?_ (List.Pairwise.filter _ List.pairwise_lt_range)
      intro b c hb hc hbc x hx y hy e
      subst e
      obtain ⟨hb1, hb2⟩ := List.mem_filter.1 hb
      obtain ⟨hc1, hc2⟩ := List.mem_filter.1 hc
      have hb1 := List.mem_range.1 hb1
      have hc1 := List.mem_range.1 hc1
      obtain ⟨m, _, e1⟩ := orb_mem.1 hx
      obtain ⟨m', _, e2⟩ := orb_mem.1 hy
      have e3 : itr r b m = itr r c m' := by omega
      have h1 : Leads r b (itr r c m') := ⟨m, e3⟩
      have h2 : Leads r c b := Leads.trans ⟨m', rfl⟩ (h1.symm hr hb1)
      have := (least_iff hr hc1).1 hc2 b h2
      omega
theorem oddL_count {r : List Int} (hr : IsRow r) : oddL r = decide ((r.length + (List.range r.length).countP (least r)) % 2 = 1) := by
  unfold oddL
  rw [oddF]
  have h1 := (cycles_perm hr).length_eq
  rw [roundsL_len] at h1
  have h2 : (cyclesL r).length = (List.range r.length).countP (least r) := by
    unfold cyclesL cyclesTo
    rw [List.length_map, List.countP_eq_length_filter]
  rw [h1, h2]
end Go.KL

/- Plain maths: the largest bell is taken out; the sign by cycles is that by inversions. -/
namespace Go.KL

def cutR (r : List Int) (n p : Nat) : List Int := (r.take n).set p (r.getD n 0)
structure Cut (r : List Int) (n p : Nat) : Prop where
  row : IsRow r
  len : r.length = n + 1
  pos : 1 ≤ n
  at' : r.getD p 0 = n
  le : p ≤ n
theorem Cut.len' {r : List Int} {n p : Nat} (h : Cut r n p) : (cutR r n p).length = n := by
  have := h.len
  simp [cutR]; omega
theorem Cut.get {r : List Int} {n p : Nat} (h : Cut r n p) {k : Nat} (hk : k < n) : (cutR r n p).getD k 0 = if k = p then r.getD n 0 else r.getD k 0 := by
  have hl := h.len
  unfold cutR
  rw [List.getD_eq_getElem?_getD, List.getElem?_set]
  by_cases e : p = k
  · subst e
    rw [if_pos rfl, if_pos rfl, if_pos (by simp; omega)]; rfl
  · rw [if_neg e, if_neg (fun q => e q.symm), List.getElem?_take, if_pos hk, ← List.getD_eq_getElem?_getD]
theorem Cut.only {r : List Int} {n p : Nat} (h : Cut r n p) {k : Nat} (hk : k ≤ n) : r.getD k 0 = n ↔ k = p := by
  have hl := h.len
  constructor
  · intro e
    have h1 := idxOf_at h.row.nodup (k := k) (by omega)
    have h2 := idxOf_at h.row.nodup (k := p) (by have := h.le; omega)
    rw [e] at h1; rw [h.at'] at h2; omega
  · rintro rfl; exact h.at'
theorem Cut.nxt {r : List Int} {n p : Nat} (h : Cut r n p) {k : Nat} (hk : k < n) : nxt (cutR r n p) k = if nxt r k = n then nxt r n else nxt r k := by
  have hl := h.len
  have hb := h.row.at (i := k) (by omega)
  have ho := h.only (k := k) (by omega)
  unfold Go.KL.nxt
  rw [h.get hk]
  by_cases e : k = p
  · have := ho.2 e
    rw [if_pos e, if_pos (by omega)]
  · have : r.getD k 0 ≠ n := fun q => e (ho.1 q)
    rw [if_neg e, if_neg (by omega)]
theorem Cut.row' {r : List Int} {n p : Nat} (h : Cut r n p) : IsRow (cutR r n p) := by
  have hl := h.len
  have hl' := h.len'
  have hle := h.row.le
  have hpos := h.pos
  have hbd : ∀ k, k < n → 0 ≤ (cutR r n p).getD k 0 ∧ (cutR r n p).getD k 0 < n := by
    intro k hk
    rw [h.get hk]
    have hb := h.row.at (i := k) (by omega)
    have hbn := h.row.at (i := n) (by omega)
    have ho := h.only (k := k) (by omega)
    have hon := h.only (k := n) (Nat.le_refl _)
    split
    · rename_i e
      have : ¬ r.getD n 0 = n := fun q => by have := hon.1 q; omega
      omega
    · rename_i e
      have : ¬ r.getD k 0 = n := fun q => e (ho.1 q)
      omega
  apply rowMay_ok.1
  refine rowMay_of (by omega) (by omega) ?_ ?_
  · rw [List.nodup_iff_pairwise_ne, List.pairwise_iff_getElem]
    intro i j hi hj hij
    rw [gd _ i hi, gd _ j hj, h.get (by omega), h.get (by omega)]
    have inj : ∀ a b, a < n + 1 → b < n + 1 → r.getD a 0 = r.getD b 0 → a = b := fun a b ha hb e => by
      have h1 := idxOf_at h.row.nodup (k := a) (by omega)
      have h2 := idxOf_at h.row.nodup (k := b) (by omega)
      rw [e] at h1; omega
    intro e
    split at e <;> split at e
    · omega
    · have := inj _ _ (by omega) (by omega) e; omega
    · have := inj _ _ (by omega) (by omega) e; omega
    · have := inj _ _ (by omega) (by omega) e; omega
  · intro x hx
    obtain ⟨k, hk, e⟩ := List.getElem_of_mem hx
    rw [gd _ k hk] at e
    have := hbd k (by omega)
    omega
theorem itr_one (r : List Int) (b : Nat) : itr r b 1 = nxt r b := rfl
theorem itr_step (r : List Int) (b m : Nat) : itr r b (m + 1) = nxt r (itr r b m) := rfl
theorem Cut.leads {r : List Int} {n p : Nat} (h : Cut r n p) {b : Nat} (hb : b < n) : ∀ m, Leads r b (itr (cutR r n p) b m)
  | 0 => ⟨0, rfl⟩
  | m + 1 => by
    have hi := itr_lt h.row' (b := b) (by rw [h.len']; exact hb) m
    rw [h.len'] at hi
    have ih := h.leads hb m
    rw [itr_step, h.nxt hi]
    split
    · rename_i e
      refine Leads.trans ih ⟨2, ?_⟩
      rw [itr_step, itr_one, e]
    · exact Leads.trans ih ⟨1, rfl⟩
theorem Cut.back {r : List Int} {n p : Nat} (h : Cut r n p) {b : Nat} (hb : b < n) : ∀ m, (itr r b m < n → Leads (cutR r n p) b (itr r b m)) ∧ (itr r b m = n → Go.KL.nxt r n < n → Leads (cutR r n p) b (Go.KL.nxt r n))
  | 0 => ⟨fun _ => ⟨0, rfl⟩, fun e => by have : itr r b 0 = b := rfl; omega⟩
  | m + 1 => by
    obtain ⟨i1, i2⟩ := h.back hb m
    have hl := h.len
    have hlt := itr_lt h.row (b := b) (by omega) m
    rw [itr_step]
    by_cases e : itr r b m = n
    · rw [e]
      refine ⟨fun hn => i2 e hn, fun e2 hn => by omega⟩
    · have hm : itr r b m < n := by omega
      have hx := h.nxt hm
      refine ⟨fun hn => ?_, fun e2 hn => ?_⟩
      · rw [if_neg (by omega)] at hx
        exact Leads.trans (i1 hm) ⟨1, hx⟩
      · rw [if_pos e2] at hx
        exact Leads.trans (i1 hm) ⟨1, hx⟩
theorem Cut.least {r : List Int} {n p : Nat} (h : Cut r n p) {b : Nat} (hb : b < n) : least (cutR r n p) b = Go.KL.least r b := by
  have hl := h.len
  have hl' := h.len'
  rw [Bool.eq_iff_iff, least_iff h.row' (by omega), least_iff h.row (by omega)]
  constructor
  · rintro hc k ⟨m, rfl⟩
    by_cases e : itr r b m < n
    · exact hc _ ((h.back hb m).1 e)
    · omega
  · rintro hc k ⟨m, rfl⟩
    exact hc _ (h.leads hb m)
theorem Cut.top {r : List Int} {n p : Nat} (h : Cut r n p) : Go.KL.least r n = decide (p = n) := by
  have hl := h.len
  have hle := h.le
  rw [Bool.eq_iff_iff, least_iff h.row (by omega), decide_eq_true_iff]
  have hon := h.only (k := n) (Nat.le_refl _)
  have hb := h.row.at (i := n) (by omega)
  constructor
  · intro hc
    have h1 := hc _ ⟨1, rfl⟩
    rw [itr_one] at h1
    unfold Go.KL.nxt at h1
    exact (hon.1 (by omega)).symm
  · rintro rfl k ⟨m, rfl⟩
    have : ∀ m, itr r p m = p := by
      intro m
      induction m with
      | zero => rfl
      | succ m ih => rw [itr_step, ih]; unfold Go.KL.nxt; rw [h.at']; rfl
    rw [this m]; exact Nat.le_refl _
theorem Cut.oddL {r : List Int} {n p : Nat} (h : Cut r n p) : Go.KL.oddL r = (Go.KL.oddL (cutR r n p) != decide (p ≠ n)) := by
  rw [oddL_count h.row, oddL_count h.row', h.len, h.len', List.range_succ, List.countP_append, List.countP_cons, List.countP_nil, h.top]
  have e : (List.range n).countP (Go.KL.least (cutR r n p)) = (List.range n).countP (Go.KL.least r) := by
    apply List.countP_congr
    intro b hb
    rw [h.least (List.mem_range.1 hb)]
  rw [e]
  generalize (List.range n).countP (Go.KL.least r) = c
  by_cases e : p = n
  · have e1 : (n + 1 + (c + (0 + if decide (p = n) = true then 1 else 0))) = (n + c) + 2 := by rw [decide_eq_true e, if_pos rfl]; omega
    rw [e1, Nat.add_mod_right, decide_eq_false (Classical.not_not.2 e)]
    simp
  · have e1 : (n + 1 + (c + (0 + if decide (p = n) = true then 1 else 0))) = (n + c) + 1 := by rw [decide_eq_false e, if_neg (by simp)]; omega
    rw [e1, decide_eq_true e, par_add]
    simp
end Go.KL

/- The place of a row among all of its bells, counted in two ways; the row at a place. -/
namespace Go.KL
def fct : Nat → Nat
  | 0 => 1
  | n + 1 => (n + 1) * fct n
theorem fct_pos : ∀ n, 1 ≤ fct n
  | 0 => by decide
  | n + 1 => Nat.mul_pos (by omega) (fct_pos n)
theorem fct_le_succ (n : Nat) : fct n ≤ fct (n + 1) := by
  have := fct_pos n
  rw [fct, Nat.succ_mul]; omega
theorem fct_mono {m n : Nat} (h : m ≤ n) : fct m ≤ fct n := by
  induction h with
  | refl => exact Nat.le_refl _
  | step _ ih => exact Nat.le_trans ih (fct_le_succ _)
def lessN (b : Int) (r : List Int) : Nat := r.countP fun c => decide (c < b)
theorem lessN_le (b : Int) (r : List Int) : lessN b r ≤ r.length := List.countP_le_length
def rankL : List Int → Nat
  | [] => 0
  | b :: r => lessN b r * fct r.length + rankL r
theorem rankL_lt : ∀ r : List Int, rankL r < fct r.length
  | [] => by decide
  | b :: r => by
    have h1 := rankL_lt r
    have h2 : lessN b r * fct r.length ≤ r.length * fct r.length := Nat.mul_le_mul_right _ (lessN_le b r)
    rw [rankL, List.length_cons, fct, Nat.succ_mul]; omega
theorem lessN_perm {b : Int} {r s : List Int} (h : r.Perm s) : lessN b r = lessN b s := h.countP_eq _
theorem rankL_inj : ∀ (r s : List Int), r.Perm s → rankL r = rankL s → r = s
  | [], s, h, _ => by
    have := h.length_eq
    exact (List.eq_nil_of_length_eq_zero (by simpa using this.symm)).symm
  | b :: r, [], h, _ => by have := h.length_eq; simp at this
  | b :: r, c :: s, h, e => by
    have hl : r.length = s.length := by have := h.length_eq; simpa using this
    rw [rankL, rankL, hl] at e
    have h1 := rankL_lt r
    have h2 := rankL_lt s
    rw [hl] at h1
    have hp := fct_pos s.length
    have e1 : lessN b r = lessN c s := by
      have ha : (lessN b r * fct s.length + rankL r) / fct s.length = lessN b r := by rw [Nat.add_comm, Nat.add_mul_div_right _ _ hp, Nat.div_eq_of_lt h1, Nat.zero_add]
      have hb : (lessN c s * fct s.length + rankL s) / fct s.length = lessN c s := by rw [Nat.add_comm, Nat.add_mul_div_right _ _ hp, Nat.div_eq_of_lt h2, Nat.zero_add]
      rw [← ha, e, hb]
    have e2 : rankL r = rankL s := by rw [e1] at e; omega
    have hb : lessN b r = lessN b (b :: r) := by simp [lessN]
    have hc : lessN c s = lessN c (c :: s) := by simp [lessN]
    have e3 : lessN b (b :: r) = lessN c (b :: r) := by rw [← hb, e1, hc]; exact (lessN_perm h).symm
    have lt : ∀ (x y : Int) (l : List Int), x ∈ l → x < y → lessN x l < lessN y l := by
      intro x y l hx hxy
      unfold lessN
      induction l with
      | nil => cases hx
      | cons z l ih =>
        have mono : l.countP (fun c => decide (c < x)) ≤ l.countP (fun c => decide (c < y)) := List.countP_mono_left fun w _ hw => by simp at hw ⊢; omega
        rw [List.countP_cons, List.countP_cons]
        by_cases hz : z = x
        · subst hz
          simp [hxy]; omega
        · have := ih (by simpa [Ne.symm hz] using hx)
          by_cases h1 : z < x
          · have h2 : z < y := by omega
            simp [h1, h2]; omega
          · simp [h1]; split <;> omega
    have hbc : b = c := by
      rcases Int.lt_trichotomy b c with h3 | h3 | h3
      · have := lt b c (b :: r) (by simp) h3; omega
      · exact h3
      · have := lt c b (b :: r) (h.mem_iff.2 (by simp)) h3; omega
    subst hbc
    rw [rankL_inj r s (List.perm_cons b |>.1 h) e2]
theorem rank_row_inj {r s : List Int} (hr : IsRow r) (hs : IsRow s) (hl : r.length = s.length) (e : rankL r = rankL s) : r = s :=
  rankL_inj r s ((row_perm hr).trans (by rw [hl]; exact (row_perm hs).symm)) e
/-! ### The row at a place -/
end Go.KL

/- The signs of bells: where a rune stands among them. -/
namespace Go.KL
end Go.KL

/- What package strings' Builder meets: pointers held against each other, a row of bytes that becomes a string. -/
namespace Go.KL
open Go.RowKit
variable {P : Program} {d : Option Tmp} {ty : TypeId} {pos : String} {af : Array Edge} {g : Option (Nat × Bool)} {a : Act} {σ : GW}

abbrev Ty.byte (b : UInt8) : Ty := .val (.int .u8 ((b.toNat : Nat) : Int))
def OwnPT (E : TypeId) (σ : GW) (k : Nat) (v : Value) (ts : List Ty) : Prop :=
  ∃ g cur, v = .pointer (some ⟨g, 0, none⟩) ∧ σ.st g = k ∧ σ.w.heap[g]? = some (.cells cur E (0, 0)) ∧ cur.size = ts.length ∧ ∀ (j : Nat) (T : Ty) (u : Value), ts[j]? = some T → cur[j]? = some u → T.has σ u
theorem OwnPT.toP {E : TypeId} {k : Nat} {v : Value} {ts : List Ty} (h : OwnPT E σ k v ts) : OwnP σ k v ts := by
  obtain ⟨g, cur, h1, h2, h3, h4, h5⟩ := h; exact ⟨g, E, cur, h1, h2, h3, h4, h5⟩
theorem OwnPT.keepL {E : TypeId} {L : List Nat} {k : Nat} {σ τ : GW} {v : Value} {ts : List Ty} (h : OwnPT E σ k v ts) (hs : StpL L σ τ) (h1 : 1 ∉ L) (hk : k ∉ L) : OwnPT E τ k v ts := by
  obtain ⟨g, cur, rfl, r2, r3, r4, r5⟩ := h
  have hg := (Array.getElem?_eq_some_iff.1 r3).1
  have hq : σ.st g ∉ L := by rw [r2]; exact hk
  exact ⟨g, cur, rfl, (hs.st g hg hq).trans r2, (hs.blk g hg hq).trans r3, r4, fun j T u hj hu => T.up (hs.le h1) (r5 j T u hj hu)⟩
theorem OwnPT.k0 {E : TypeId} {k : Nat} {σ τ : GW} {v : Value} {ts : List Ty} (h : OwnPT E σ k v ts) (hs : Stp 0 σ τ) : OwnPT E τ k v ts := h.keepL (L := []) hs.toL0 (by simp) (by simp)
theorem OwnPT.ren {E : TypeId} {k k' : Nat} {σ τ : GW} {v : Value} {ts : List Ty} (h : OwnPT E σ k v ts) (r : Ren k k' σ τ) : OwnPT E τ k' v ts := by
  obtain ⟨g, cur, rfl, r2, r3, r4, r5⟩ := h
  exact ⟨g, cur, rfl, r.st g r2, by rw [r.w]; exact r3, r4, fun j T u hj hu => T.up r.le (r5 j T u hj hu)⟩
theorem OwnPT.one {E : TypeId} {k : Nat} {v : Value} {ts : List Ty} (h : OwnPT E σ k v ts) : v.oneCell' = true := h.toP.one
end Go.KL
namespace Go.KL
end Go.KL

/- Cutting one out of a row that is owned: its two ends, joined in place, and the rest made zero. -/
namespace Go.KL
open Go.RowKit
variable {P : Program} {d : Option Tmp} {ty : TypeId} {pos : String} {af : Array Edge} {g : Option (Nat × Bool)} {a : Act} {σ : GW}
def capGe (v : Value) (n : Nat) : Prop := match v with | .slice _ _ cap => n ≤ cap | _ => False

theorem Own.form {k : Nat} {e : TypeId} {n : Nat} {v : Value} {ts : List Ty} (h : Own σ k e 1 v n ts) : ∃ ad cap, v = .slice ad n cap ∧ n ≤ cap ∧ cap ≤ 9223372036854775807 := by
  obtain ⟨us, r1, _⟩ := h
  rcases r1.2 with ⟨rfl, rfl⟩ | ⟨gg, cap, cur, rfl, _, _, hn, hm, _⟩
  · exact ⟨none, 0, rfl, Nat.le_refl _, by decide⟩
  · exact ⟨_, cap, rfl, hn, hm⟩
theorem Own.cap {k : Nat} {e : TypeId} {n : Nat} {v : Value} {ts : List Ty} (h : Own σ k e 1 v n ts) : capGe v n := by
  obtain ⟨ad, cap, rfl, hn, _⟩ := h.form; exact hn
section
variable {k : Nat} {x y y' y'' : Operand} {n : Nat} {ts : List Ty} {t e e' : TypeId} {z v : Value} {b : Nat} {ki kj kk : IntKind} (ht : P.underlying t = some (.slice e')) (he : Info P e' z 1 b) (ho : Own σ k e 1 v n ts) (hx : a.eval x = v)
include ht he ho hx
end
theorem one_map {α : Type} {f : α → Ty} {xs : List α} (h : ∀ x, One (f x)) : ∀ U, U ∈ xs.map f → One U := fun U hU => by
  obtain ⟨x, _, rfl⟩ := List.mem_map.1 hU; exact h x
end Go.KL

/- All rows, each once: the way that is looked for; what rows may generate. -/
namespace Go.KL
/-! ### What may generate -/
def gensTo (n : Int) : List (List Int) → Int
  | [] => 0
  | g :: l => if rowMay g ≠ 0 then rowMay g else if ((g.length : Nat) : Int) ≠ n then 1 else gensTo n l
def gensMay (n : Int) (l : List (List Int)) : Int := if n < 1 ∨ 12 < n ∨ 8 < l.length then 1 else gensTo n l
theorem gensTo_ok {n : Int} : ∀ {l : List (List Int)}, gensTo n l = 0 → ∀ g ∈ l, IsRow g ∧ ((g.length : Nat) : Int) = n
  | [], _, g, hg => by cases hg
  | x :: l, h, g, hg => by
    rw [gensTo] at h
    split at h
    · contradiction
    · rename_i h1
      split at h
      · cases h
      · rename_i h2
        rcases List.mem_cons.1 hg with rfl | hg
        · exact ⟨rowMay_ok.1 (Classical.not_not.1 h1), Classical.not_not.1 h2⟩
        · exact gensTo_ok h g hg
theorem gensMay_ok {n : Int} {l : List (List Int)} (h : gensMay n l = 0) : (1 ≤ n ∧ n ≤ 12 ∧ l.length ≤ 8) ∧ ∀ k, k < l.length → IsRow (l.getD k []) ∧ (((l.getD k []).length : Nat) : Int) = n := by
  unfold gensMay at h
  split at h
  · cases h
  · rename_i hc
    refine ⟨by omega, fun k hk => gensTo_ok h _ ?_⟩
    simp [hk]

/-! ### The order of a row, taken again and again -/
/-! ### The way -/
structure Tour (n : Nat) (cs : List (List Int)) (rows : List (List Int)) (path : List Int) (r : List Int) : Prop where
  len : rows.length = path.length + 1
  row : ∀ x ∈ rows, IsRow x ∧ x.length = n
  nd : rows.Nodup
  last : rows.getD (rows.length - 1) [] = r
  csr : ∀ k, k < cs.length → IsRow (cs.getD k []) ∧ (cs.getD k []).length = n
  nn : 1 ≤ n ∧ n ≤ 4
  cl : cs.length ≤ 8
theorem Tour.rr {n : Nat} {cs rows : List (List Int)} {path r : List Int} (h : Tour n cs rows path r) : IsRow r ∧ r.length = n := by
  refine h.row r ?_
  have hl : rows.length - 1 < rows.length := by have := h.len; omega
  rw [← h.last]
  have e : rows.getD (rows.length - 1) [] = rows[rows.length - 1] := by simp [hl]
  rw [e]; exact List.getElem_mem hl
theorem Tour.x {n : Nat} {cs rows : List (List Int)} {path r : List Int} (h : Tour n cs rows path r) {k : Nat} (hk : k < cs.length) : IsRow (byL r (cs.getD k [])) ∧ (byL r (cs.getD k [])).length = n := by
  have h1 := h.rr
  have h2 := h.csr k hk
  exact ⟨byL_row h1.1 h2.1 (by omega), by rw [byL_len]; exact h2.2⟩
theorem rows_le {n : Nat} {rows : List (List Int)} (h : ∀ x ∈ rows, IsRow x ∧ x.length = n) (hn : rows.Nodup) : rows.length ≤ fct n := by
  have := nodup_len (fct n) (rows.map fun x => ((rankL x : Nat) : Int)) (by
    refine List.pairwise_map.2 (hn.imp_of_mem ?_)
    intro a b ha hb hab e
    refine hab (rank_row_inj (h a ha).1 (h b hb).1 (by rw [(h a ha).2, (h b hb).2]) (by omega))) (fun x hx => by
    obtain ⟨y, hy, rfl⟩ := List.mem_map.1 hx
    have := rankL_lt y
    rw [(h y hy).2] at this
    omega)
  simpa using this
theorem Tour.next {n : Nat} {cs rows : List (List Int)} {path r : List Int} (h : Tour n cs rows path r) {k : Nat} (hk : k < cs.length) (hx : byL r (cs.getD k []) ∉ rows) : Tour n cs (rows ++ [byL r (cs.getD k [])]) (path ++ [(k : Int)]) (byL r (cs.getD k [])) := by
  refine ⟨by simp [h.len], fun x hxm => ?_, ?_, by simp, h.csr, h.nn, h.cl⟩
  · rcases List.mem_append.1 hxm with hm | hm
    · exact h.row x hm
    · simp at hm; subst hm; exact h.x hk
  · refine List.nodup_append.2 ⟨h.nd, by simp, fun a ha b hb => ?_⟩
    simp at hb; subst hb
    rintro rfl; exact hx ha
theorem Tour.lt {n : Nat} {cs rows : List (List Int)} {path r : List Int} (h : Tour n cs rows path r) : path.length < fct n ∧ fct n ≤ 24 := by
  have h1 := rows_le h.row h.nd
  have h2 := h.len
  have h3 : fct n ≤ fct 4 := fct_mono h.nn.2
  have h4 : fct 4 = 24 := by decide
  omega
def SeenT (n : Nat) (rows : List (List Int)) (f : Int → Option Int) : Prop := ∀ x, IsRow x → x.length = n → (f ((rankL x : Nat) : Int)).getD 0 = if x ∈ rows then 1 else 0
theorem SeenT.put {n : Nat} {rows : List (List Int)} {f : Int → Option Int} (h : SeenT n rows f) {x : List Int} (hx : IsRow x ∧ x.length = n) : SeenT n (rows ++ [x]) (fun p => if p = ((rankL x : Nat) : Int) then some 1 else f p) := by
  intro y hy hl
  by_cases e : y = x
  · subst e; simp
  · have hne : rankL y ≠ rankL x := fun hh => e (rank_row_inj hy hx.1 (by omega) hh)
    simp only [Int.natCast_inj, if_neg hne]
    rw [h y hy hl]
    simp [e]
theorem SeenT.drop {n : Nat} {rows : List (List Int)} {f : Int → Option Int} {x : List Int} (h : SeenT n (rows ++ [x]) f) (hx : IsRow x ∧ x.length = n) (hn : x ∉ rows) : SeenT n rows (fun p => if p = ((rankL x : Nat) : Int) then some 0 else f p) := by
  intro y hy hl
  by_cases e : y = x
  · subst e; simp [hn]
  · have hne : rankL y ≠ rankL x := fun hh => e (rank_row_inj hy hx.1 (by omega) hh)
    simp only [Int.natCast_inj, if_neg hne]
    rw [h y hy hl]
    simp [e]
end Go.KL
namespace Go.KL
section
variable {F : List (List Int) → List Int → Option (List Int)} {cs : List (List Int)} {N : Nat} {rows : List (List Int)} {path r : List Int} {k : Nat} (hl : rows.getD (rows.length - 1) [] = r)
include hl
end
theorem Tour.start {n : Int} {cs : List (List Int)} (h : ¬ (n < 1 ∨ 4 < n ∨ 8 < cs.length)) (h2 : ¬ gensMay n cs ≠ 0) : Tour n.toNat cs [roundsL n.toNat] [] (roundsL n.toNat) := by
  have hg := gensMay_ok (Classical.not_not.1 h2)
  refine ⟨rfl, fun x hx => ?_, by simp, rfl, fun k hk => ⟨(hg.2 k hk).1, by have := (hg.2 k hk).2; omega⟩, ⟨by omega, by omega⟩, by omega⟩
  simp at hx; subst hx
  exact ⟨roundsL_row (by omega) (by omega), roundsL_len _⟩
end Go.KL
namespace Go.KL
end Go.KL

/- All rows, each once: what is found rings, and nothing ahead of it does. -/
namespace Go.KL
def SeenB (n : Nat) (vis : List (List Int)) (f : Int → Option Bool) : Prop := ∀ x, IsRow x → x.length = n → (f ((rankL x : Nat) : Int)).getD false = decide (x ∈ vis)
theorem SeenB.put {n : Nat} {vis : List (List Int)} {f : Int → Option Bool} (h : SeenB n vis f) {x : List Int} (hx : IsRow x) (hl : x.length = n) : SeenB n (vis ++ [x]) (fun p => if p = ((rankL x : Nat) : Int) then some true else f p) := by
  intro y hy hly
  by_cases e : y = x
  · subst e; simp
  · have hne : rankL y ≠ rankL x := fun hh => e (rank_row_inj hy hx (by omega) hh)
    simp only [Int.natCast_inj, if_neg hne]
    rw [h y hy hly]
    simp [e]
end Go.KL

/- Rows read and written as text; the row at a place; the laws of rows. -/
namespace Go.KL
end Go.KL
namespace Go.KL
end Go.KL

/- Runes as the document reads them: -1 for a byte that is none. -/
namespace Go.KL
section
variable {s : ByteArray} (h128 : ¬ (s.get! 0).toNat < 128)
include h128 in
end
/-! ### All runes of a text -/
end Go.KL

/- What the law RowSays wants beside: cycles as the document finds them, text by signs. -/
namespace Go.KL
end Go.KL

/- Patterns of bells: the maths. -/
namespace Go.KL
/-! ### Signs -/
/-! ### Ahead of the star and behind it -/
/-! ### What was seen -/
/-! ### Like a pattern -/
/-! ### Steps -/
/-! ### A pattern that may be -/
/-! ### The walks of Like and fits -/
end Go.KL

/- Results of which the first lies in a struct's variable. -/
namespace Go.KL
open Go.RowKit
variable {P : Program} {fn : Func} {σ0 σ : GW} {a : Act} {N d e f : Nat} {D : List Deferred} {L : List Nat} {R : Value → GW → Prop}
end Go.KL

/- How many rows are like patterns. -/
namespace Go.KL
abbrev Ty.str (s : ByteArray) : Ty := Ty.val (.string s)
end Go.KL

/- Rows whose elements are structs of c cells. -/
namespace Go.KL
open Go.RowKit
variable {P : Program} {d : Option Tmp} {ty : TypeId} {pos : String} {af : Array Edge} {g : Option (Nat × Bool)} {a : Act} {σ : GW}
/-! ### Patterns -/
end Go.KL

/- Rows that share an array: 'append' leaves alone what is ahead. -/
namespace Go.KL
open Go.RowKit
variable {P : Program}

variable {d : Option Tmp} {ty : TypeId} {pos : String} {af : Array Edge} {g : Option (Nat × Bool)} {a : Act} {σ : GW}

end Go.KL

/- 'append' to a fresh empty row, in any order with what stands beside it. -/
namespace Go.KL
open Go.RowKit
variable {P : Program}

variable {d : Option Tmp} {ty : TypeId} {pos : String} {af : Array Edge} {g : Option (Nat × Bool)} {a : Act} {σ : GW}
end Go.KL

/- Blows: which may be; floats held against each other; how they are judged. -/
namespace Go.KL
open Ieee
section
variable {n : Int} {l : List BBlow}
end
/-! ### A float is the same as itself -/
def Fok (x : FV) : Prop := ∀ b, x = some b → b < 18446744073709551616 ∧ cn b = some b
end Go.KL

/- Floats: how far a rounded sum lies from the sum; sums of what isn't below nought. -/
namespace Go.KL
open Ieee
/-! ### A nought more takes the sign off a nought -/
theorem add_zero_pz {x : FV} (hx : Fok x) : fadd x (some 0) = pzF x := by
  cases x with
  | none => rfl
  | some b =>
    obtain ⟨hlt, hcn⟩ := hx b rfl
    have hnn := (cn_some hcn).2
    have h0 : Ieee.double.read 0 = .number false 0 (-1074) := by decide +kernel
    have hw := word_of hlt
    have e : fadd (some b) (some 0) = ((Ieee.double.read b).sum (.number false 0 (-1074))).map Ieee.double.write := by
      show ((Ieee.double.read b).sum (Ieee.double.read 0)).map Ieee.double.write = _
      rw [h0]
    have eo : ford (some b) (some 0) = (Ieee.double.read b).order (.number false 0 (-1074)) := by
      show (Ieee.double.read b).order (Ieee.double.read 0) = _
      rw [h0]
    by_cases hz : b % 9223372036854775808 = 0
    · have hr : Ieee.double.read b = .number (b / 9223372036854775808 % 2 == 1) 0 (-1074) := by rw [read_eq, if_pos (by omega), hz]
      have hq : fEq (some b) (some 0) = true := by
        unfold fEq
        rw [eo, hr]
        simp [Datum.order, signed]
      unfold pzF
      rw [if_pos hq, e, hr]
      simp [Datum.sum, signed]
      decide +kernel
    · by_cases hf : b % 9223372036854775808 < 9218868437227405312
      · obtain ⟨m, i, hr, hc, hrung⟩ := read_canon (by omega) hf
        have hl := hc.low
        have hm0 : m ≠ 0 := by have := hc.pos; omega
        have hmin : min i (-1074) = -1074 := by omega
        have hsg : signed (b / 9223372036854775808 % 2 == 1) m (i - -1074).toNat ≠ 0 := by
          rw [sg_eq]
          have : 0 < m * 2 ^ (i - -1074).toNat := Nat.mul_pos hc.pos (Nat.two_pow_pos _)
          split <;> omega
        have hzr : signed false 0 ((-1074 : Int) - -1074).toNat = 0 := by simp [signed]
        have hne : fEq (some b) (some 0) = false := by
          unfold fEq
          rw [eo, hr]
          show (some (compare (signed _ m (i - min i (-1074)).toNat) (signed false 0 (-1074 - min i (-1074)).toNat)) == some Ordering.eq) = false
          rw [hmin, hzr]
          show (compare (signed _ m (i - -1074).toNat) 0 == Ordering.eq) = false
          rw [cmp_eq]
          exact decide_eq_false hsg
        unfold pzF
        rw [if_neg (by rw [hne]; decide), e, hr]
        show some (Ieee.double.nearest (if signed _ m (i - min i (-1074)).toNat + signed false 0 (-1074 - min i (-1074)).toNat = 0 then _ else decide (signed _ m (i - min i (-1074)).toNat + signed false 0 (-1074 - min i (-1074)).toNat < 0)) (signed _ m (i - min i (-1074)).toNat + signed false 0 (-1074 - min i (-1074)).toNat).natAbs (min i (-1074))) = some b
        rw [hmin, hzr, Int.add_zero, if_neg hsg]
        have hab : (signed (b / 9223372036854775808 % 2 == 1) m (i - -1074).toNat).natAbs = m <<< (i - -1074).toNat := by
          rw [sg_eq, Nat.shiftLeft_eq, Int.natAbs_mul, Int.natAbs_natCast]
          split <;> simp
        have hsn : decide (signed (b / 9223372036854775808 % 2 == 1) m (i - -1074).toNat < 0) = (b / 9223372036854775808 % 2 == 1) := by
          rw [sg_eq] at hsg ⊢
          have : 0 < m * 2 ^ (i - -1074).toNat := Nat.mul_pos hc.pos (Nat.two_pow_pos _)
          cases (b / 9223372036854775808 % 2 == 1)
          · simp only [Bool.false_eq_true, if_false]; exact decide_eq_false (by omega)
          · simp only [if_true]; exact decide_eq_true (by omega)
        rw [hab, hsn]
        have := near_canon (b / 9223372036854775808 % 2 == 1) hc (i - -1074).toNat
        rw [show i - (((i - -1074).toNat : Nat) : Int) = -1074 by omega] at this
        rw [this, hrung, hw]
      · have hinf : b % 9223372036854775808 = 9218868437227405312 := by
          apply Classical.byContradiction
          intro hne
          rw [cn_gt (by omega)] at hcn; cases hcn
        have hr : Ieee.double.read b = .infinity (b / 9223372036854775808 % 2 == 1) := by rw [read_eq, if_neg (by omega), if_neg hf, if_pos hinf]
        have hne : fEq (some b) (some 0) = false := by
          unfold fEq
          rw [eo, hr]
          show (some (if _ then Ordering.lt else Ordering.gt) == some Ordering.eq) = false
          split <;> rfl
        unfold pzF
        rw [if_neg (by rw [hne]; decide), e, hr]
        show some (Ieee.double.word _ Ieee.double.infRung) = some b
        rw [infR_eq, ← hinf, hw]
theorem fok_fop {op : BinOp} {x y : FV} : Fok (fop op x y) := by
  intro b h
  unfold fop at h
  cases x with
  | none => cases h
  | some p =>
    cases y with
    | none => cases h
    | some q =>
      have h2 : floatBits op .f64 p q = some b := h
      exact ⟨(fb_some h2).2.2.2, (fb_some h2).2.2.1⟩
/-! ### Rounding -/
def Rnd (V W : Nat) : Prop := (V = 0 ∧ W = 0) ∨ ∃ k u : Nat, W = k * 2 ^ u ∧ 0 < k ∧ k ≤ 9007199254740992 ∧ (4503599627370496 ≤ k ∨ u = 0) ∧ 2 * W ≤ 2 * V + 2 ^ u ∧ 2 * V ≤ 2 * W + 2 ^ u ∧ (u = 0 → W = V) ∧ (2 ^ (u + 52) ≤ V ∨ u = 0)
theorem pow52 : (2 : Nat) ^ 52 = 4503599627370496 := by decide
theorem le_unit {k N u x : Nat} (h : k * 2 ^ u ≤ N * 2 ^ u + x) (hx : x < 2 ^ u) : k ≤ N := by
  apply Classical.byContradiction
  intro hn
  have h1 : (N + 1) * 2 ^ u ≤ k * 2 ^ u := Nat.mul_le_mul_right _ (by omega)
  rw [Nat.succ_mul] at h1
  omega
theorem Rnd.le {V W k j : Nat} (h : Rnd V W) (hk : k ≤ 9007199254740992) (hV : V ≤ k * 2 ^ j) : W ≤ k * 2 ^ j := by
  rcases h with ⟨_, h⟩ | ⟨c, u, hW, hc0, hc1, hc2, he1, he2, h0, hb⟩
  · omega
  · have hpu := Nat.two_pow_pos u
    by_cases hju : u ≤ j
    · have e : k * 2 ^ j = (k * 2 ^ (j - u)) * 2 ^ u := by rw [Nat.mul_assoc, ← Nat.pow_add, show j - u + u = j by omega]
      rw [e] at hV ⊢
      rw [hW]
      refine Nat.mul_le_mul_right _ (le_unit (u := u) (x := 2 ^ u / 2) ?_ (by omega))
      rw [hW] at he1
      omega
    · have hV2 : 2 ^ (u + 52) ≤ V := by rcases hb with hb | hb; exact hb; omega
      have e1 : k * 2 ^ j ≤ 2 ^ (u + 52) := by
        have a1 : k * 2 ^ j ≤ 2 ^ 53 * 2 ^ j := Nat.mul_le_mul_right _ (by omega)
        rw [← Nat.pow_add] at a1
        exact Nat.le_trans a1 (Nat.pow_le_pow_right (by decide) (by omega))
      have hVe : V = 2 ^ (u + 52) := by omega
      have hke : k * 2 ^ j = 2 ^ (u + 52) := by omega
      rw [hke]
      have e2 : (2 : Nat) ^ (u + 52) = 4503599627370496 * 2 ^ u := by rw [Nat.pow_add, pow52, Nat.mul_comm]
      rw [hVe, e2] at he1
      rw [hW, e2]
      refine Nat.mul_le_mul_right _ (le_unit (u := u) (x := 2 ^ u / 2) ?_ (by omega))
      rw [hW] at he1
      omega
theorem Rnd.ge {V W k j : Nat} (h : Rnd V W) (hk : k ≤ 9007199254740992) (hV : k * 2 ^ j ≤ V) : k * 2 ^ j ≤ W := by
  rcases h with ⟨h1, h⟩ | ⟨c, u, hW, hc0, hc1, hc2, he1, he2, h0, hb⟩
  · omega
  · have hpu := Nat.two_pow_pos u
    by_cases hju : u ≤ j
    · have e : k * 2 ^ j = (k * 2 ^ (j - u)) * 2 ^ u := by rw [Nat.mul_assoc, ← Nat.pow_add, show j - u + u = j by omega]
      rw [e] at hV ⊢
      rw [hW]
      refine Nat.mul_le_mul_right _ (le_unit (u := u) (x := 2 ^ u / 2) ?_ (by omega))
      rw [hW] at he2
      omega
    · have hc3 : 4503599627370496 ≤ c := by rcases hc2 with h | h; exact h; omega
      have a1 : k * 2 ^ j ≤ 2 ^ 53 * 2 ^ j := Nat.mul_le_mul_right _ (by omega)
      rw [← Nat.pow_add] at a1
      have a2 : 2 ^ (53 + j) ≤ 2 ^ (u + 52) := Nat.pow_le_pow_right (by decide) (by omega)
      have e2 : (2 : Nat) ^ (u + 52) = 4503599627370496 * 2 ^ u := by rw [Nat.pow_add, pow52, Nat.mul_comm]
      have a3 : 4503599627370496 * 2 ^ u ≤ c * 2 ^ u := Nat.mul_le_mul_right _ hc3
      omega
theorem Rnd.err {V W q : Nat} (h : Rnd V W) (hq : 53 ≤ q) (hV : V ≤ 2 ^ q) : W ≤ V + 2 ^ (q - 53) ∧ V ≤ W + 2 ^ (q - 53) := by
  have hp0 := Nat.two_pow_pos (q - 53)
  rcases h with ⟨h1, h⟩ | ⟨c, u, hW, hc0, hc1, hc2, he1, he2, h0, hb⟩
  · omega
  · rcases hb with hb | hb
    · have h1 : u + 52 ≤ q := (Nat.pow_le_pow_iff_right (by decide)).1 (Nat.le_trans hb hV)
      have h2 : 2 ^ u ≤ 2 ^ (q - 52) := Nat.pow_le_pow_right (by decide) (by omega)
      have h3 : (2 : Nat) ^ (q - 52) = 2 * 2 ^ (q - 53) := by rw [show q - 52 = (q - 53) + 1 by omega, Nat.pow_succ]; omega
      omega
    · have := h0 hb; omega
theorem Rnd.small {V W : Nat} (h : Rnd V W) (hV : V < 9007199254740992) : W = V := by
  rcases h with ⟨h1, h⟩ | ⟨c, u, hW, hc0, hc1, hc2, he1, he2, h0, hb⟩
  · omega
  · rcases Nat.eq_zero_or_pos u with hu | hu
    · exact h0 hu
    · rcases hb with hb | hb
      · have : (2 : Nat) ^ 53 ≤ 2 ^ (u + 52) := Nat.pow_le_pow_right (by decide) (by omega)
        omega
      · omega
theorem rung_mono {k1 u1 k2 u2 : Nat} (h1 : k1 ≤ 9007199254740992) (h2 : 4503599627370496 ≤ k1 ∨ u1 = 0) (h3 : k2 ≤ 9007199254740992) (h4 : 4503599627370496 ≤ k2 ∨ u2 = 0) (h : k1 * 2 ^ u1 ≤ k2 * 2 ^ u2) : u1 * 4503599627370496 + k1 ≤ u2 * 4503599627370496 + k2 := by
  rcases Nat.lt_trichotomy u1 u2 with hu | hu | hu
  · have : 4503599627370496 ≤ k2 := by rcases h4 with h | h; exact h; omega
    omega
  · subst hu
    have := Nat.le_of_mul_le_mul_right h (Nat.two_pow_pos u1)
    omega
  · have hk1 : 4503599627370496 ≤ k1 := by rcases h2 with h | h; exact h; omega
    obtain ⟨d, hd⟩ : ∃ d, u1 = u2 + 1 + d := ⟨u1 - u2 - 1, by omega⟩
    rw [hd, Nat.pow_add, Nat.pow_add] at h
    have h5 : k1 * 2 * 2 ^ d ≤ k2 := by
      have e : k1 * (2 ^ u2 * 2 ^ 1 * 2 ^ d) = (k1 * 2 * 2 ^ d) * 2 ^ u2 := by
        generalize 2 ^ u2 = a
        generalize 2 ^ d = b
        grind
      rw [e] at h
      exact Nat.le_of_mul_le_mul_right h (Nat.two_pow_pos u2)
    have h6 : k1 * 2 ≤ k1 * 2 * 2 ^ d := Nat.le_mul_of_pos_right _ (Nat.two_pow_pos d)
    have hd0 : d = 0 := by
      apply Classical.byContradiction
      intro hne
      have : (2 : Nat) ^ 1 ≤ 2 ^ d := Nat.pow_le_pow_right (by decide) (by omega)
      have : k1 * 2 * 2 ^ 1 ≤ k1 * 2 * 2 ^ d := Nat.mul_le_mul_left _ this
      omega
    subst hd0
    omega
end Go.KL

/- Floats: a sum, rounded. -/
namespace Go.KL
open Ieee
structure Prt (k u : Nat) : Prop where
  pos : 0 < k
  le : k ≤ 9007199254740992
  norm : 4503599627370496 ≤ k ∨ u = 0
theorem cut_err (s : Bool) {n d : Nat} (hd : d ≤ n.log2 + 2) : ∃ k, Toward.even.cut s n d = k ∧ 2 * (k * 2 ^ d) ≤ 2 * n + 2 ^ d ∧ 2 * n ≤ 2 * (k * 2 ^ d) + 2 ^ d ∧ n / 2 ^ d ≤ k ∧ k ≤ n / 2 ^ d + 1 := by
  refine ⟨_, rfl, ?_⟩
  unfold Toward.cut
  simp only [Nat.min_eq_left hd, Nat.shiftLeft_eq, Nat.one_mul]
  have hp := Nat.two_pow_pos d
  have hdm := Nat.div_add_mod n (2 ^ d)
  have hml := Nat.mod_lt n hp
  generalize hg : 2 ^ d = G at *
  generalize hl : n / G = low at *
  generalize hr : n % G = rest at *
  have hc : low * G = G * low := Nat.mul_comm _ _
  cases hmore : (decide (G < 2 * rest) || (G == 2 * rest && low % 2 == 1))
  · have h1 : ¬ G < 2 * rest := by
      simp only [Bool.or_eq_false_iff, decide_eq_false_iff_not] at hmore
      exact hmore.1
    simp only [Bool.toNat_false, Nat.add_zero]
    omega
  · have h1 : G ≤ 2 * rest := by
      simp only [Bool.or_eq_true, decide_eq_true_eq, Bool.and_eq_true, beq_iff_eq] at hmore
      omega
    simp only [Bool.toNat_true]
    have h2 : (low + 1) * G = low * G + G := Nat.succ_mul _ _
    omega
theorem near_rnd (s : Bool) {mag : Nat} {p : Int} (hm : mag ≠ 0) (hp : -1074 ≤ p) : ∃ k u, Ieee.double.nearest s mag p = Ieee.double.word s (min (u * 4503599627370496 + k) 9218868437227405312) ∧ Prt k u ∧ Rnd (mag * 2 ^ (p + K74).toNat) (k * 2 ^ u) := by
  have hk := k74
  have h1 := Nat.log2_self_le hm
  have h2 : mag < 2 ^ (mag.log2 + 1) := (Nat.log2_lt hm).1 (Nat.lt_succ_self _)
  obtain ⟨L, hL⟩ : ∃ L, L = mag.log2 := ⟨_, rfl⟩
  rw [← hL] at h1 h2
  obtain ⟨last, hlast⟩ : ∃ last : Int, last = max (p + (L : Int) - 52) (-1074) := ⟨_, rfl⟩
  have hn : Ieee.double.nearest s mag p = Ieee.double.word s (min ((last + 1074).toNat * 4503599627370496 + Toward.even.cut s (mag <<< (p - last).toNat) (last - p).toNat) 9218868437227405312) := by
    unfold Format.nearest
    rw [if_neg hm]
    simp only [fb_eq, least_eq, binade_eq, infR_eq]
    rw [← hL, show p + (L : Int) - ((52 : Nat) : Int) = p + (L : Int) - 52 by rfl, ← hlast]
    rw [show (last - (-1074)).toNat = (last + 1074).toNat by congr 1]
  have e74 : (last + 1074).toNat = (last + K74).toNat := by omega
  rw [e74] at hn
  by_cases hc : L ≤ 52
  · have hlp : last ≤ p := by omega
    have e1 : (last - p).toNat = 0 := by omega
    rw [e1, cut_none] at hn
    obtain ⟨d, hd⟩ : ∃ d, d = (p - last).toNat := ⟨_, rfl⟩
    rw [← hd, Nat.shiftLeft_eq] at hn
    have hV : mag * 2 ^ (p + K74).toNat = mag * 2 ^ d * 2 ^ (last + K74).toNat := by rw [Nat.mul_assoc, ← Nat.pow_add]; congr 2; omega
    have hd52 : d ≤ 52 - L := by omega
    have hle : mag * 2 ^ d < 9007199254740992 := by
      have a1 : mag * 2 ^ d < 2 ^ (L + 1) * 2 ^ d := Nat.mul_lt_mul_of_pos_right h2 (Nat.two_pow_pos _)
      rw [← Nat.pow_add] at a1
      have a2 : (2 : Nat) ^ (L + 1 + d) ≤ 2 ^ 53 := Nat.pow_le_pow_right (by decide) (by omega)
      omega
    have hnorm : 4503599627370496 ≤ mag * 2 ^ d ∨ (last + K74).toNat = 0 := by
      by_cases hl2 : last = -1074
      · right; omega
      · left
        have hd2 : d = 52 - L := by omega
        have a1 : 2 ^ L * 2 ^ d ≤ mag * 2 ^ d := Nat.mul_le_mul_right _ h1
        rw [← Nat.pow_add, hd2, show L + (52 - L) = 52 by omega, pow52] at a1
        rw [hd2]; exact a1
    have hpos : 0 < mag * 2 ^ d := Nat.mul_pos (by omega) (Nat.two_pow_pos _)
    refine ⟨mag * 2 ^ d, (last + K74).toNat, hn, ⟨hpos, by omega, hnorm⟩, .inr ⟨mag * 2 ^ d, (last + K74).toNat, rfl, hpos, by omega, hnorm, by have := Nat.two_pow_pos (last + K74).toNat; omega, by have := Nat.two_pow_pos (last + K74).toNat; omega, fun _ => hV.symm, ?_⟩⟩
    rcases hnorm with h | h
    · left
      rw [hV, Nat.pow_add, Nat.mul_comm, pow52]
      exact Nat.mul_le_mul_right _ h
    · exact .inr h
  · have hl2 : last = p + (L : Int) - 52 := by omega
    have e1 : (p - last).toNat = 0 := by omega
    obtain ⟨d, hd⟩ : ∃ d, d = (last - p).toNat := ⟨_, rfl⟩
    have hdL : d = L - 52 := by omega
    rw [e1, Nat.shiftLeft_zero, ← hd] at hn
    obtain ⟨k, hk1, hk2, hk3, hk4, hk5⟩ := cut_err s (n := mag) (d := d) (by omega)
    rw [hk1] at hn
    have hu : (last + K74).toNat = d + (p + K74).toNat := by omega
    have hlow : 4503599627370496 ≤ mag / 2 ^ d := by
      rw [Nat.le_div_iff_mul_le (Nat.two_pow_pos _), ← pow52, ← Nat.pow_add, hdL, show 52 + (L - 52) = L by omega]
      exact h1
    have hhi : mag / 2 ^ d < 9007199254740992 := by
      rw [Nat.div_lt_iff_lt_mul (Nat.two_pow_pos _)]
      have : (9007199254740992 : Nat) = 2 ^ 53 := by decide
      rw [this, ← Nat.pow_add, hdL, show 53 + (L - 52) = L + 1 by omega]
      exact h2
    have hW : k * 2 ^ (last + K74).toNat = k * 2 ^ d * 2 ^ (p + K74).toNat := by rw [hu, Nat.pow_add, Nat.mul_assoc]
    refine ⟨k, (last + K74).toNat, hn, ⟨by omega, by omega, .inl (by omega)⟩, .inr ⟨k, (last + K74).toNat, rfl, by omega, by omega, .inl (by omega), ?_, ?_, fun h => by omega, .inl ?_⟩⟩
    · rw [hW, hu, Nat.pow_add]
      have := Nat.mul_le_mul_right (2 ^ (p + K74).toNat) hk2
      rw [Nat.add_mul, Nat.mul_assoc 2, Nat.mul_assoc 2] at this
      exact this
    · rw [hW, hu, Nat.pow_add]
      have := Nat.mul_le_mul_right (2 ^ (p + K74).toNat) hk3
      rw [Nat.add_mul, Nat.mul_assoc 2, Nat.mul_assoc 2] at this
      exact this
    · rw [hu, show d + (p + K74).toNat + 52 = L + (p + K74).toNat by omega, Nat.pow_add]
      exact Nat.mul_le_mul_right _ h1
theorem read_rung (s : Bool) {k u : Nat} (h : Prt k u) (hf : u * 4503599627370496 + k < 9218868437227405312) : ∃ m i, Ieee.double.read (Ieee.double.word s (u * 4503599627370496 + k)) = .number s m i ∧ -1074 ≤ i ∧ m * 2 ^ (i + K74).toNat = k * 2 ^ u := by
  have hk := k74
  have h1 := h.le
  have h2 := h.pos
  by_cases hc : k = 9007199254740992
  · subst hc
    have e1 : ((u : Int) + 1 - 1074 + 1074).toNat = u + 1 := by omega
    have hcan : Canon 4503599627370496 ((u : Int) + 1 - 1074) := ⟨by decide, by decide, by omega, .inl (Nat.le_refl _), by rw [e1]; omega⟩
    refine ⟨4503599627370496, (u : Int) + 1 - 1074, ?_, by omega, ?_⟩
    · have := read_word s hcan
      have e2 : (u + 1) * 4503599627370496 + 4503599627370496 = u * 4503599627370496 + 9007199254740992 := by omega
      rw [e1, e2] at this
      exact this
    · rw [show ((u : Int) + 1 - 1074 + K74).toNat = u + 1 by omega, Nat.pow_succ]; omega
  · have e1 : ((u : Int) - 1074 + 1074).toNat = u := by omega
    have hcan : Canon k ((u : Int) - 1074) := ⟨h2, by omega, by omega, by rcases h.norm with h | h; exact .inl h; exact .inr (by omega), by rw [e1]; exact hf⟩
    refine ⟨k, (u : Int) - 1074, ?_, by omega, ?_⟩
    · have := read_word s hcan
      rw [e1] at this
      exact this
    · rw [show ((u : Int) - 1074 + K74).toNat = u by omega]
def IsV (x : FV) (s : Bool) (V : Nat) : Prop := ∃ b m i, x = some b ∧ b < 18446744073709551616 ∧ Ieee.double.read b = .number s m i ∧ -1074 ≤ i ∧ m * 2 ^ (i + K74).toNat = V
def sv (s : Bool) (V : Nat) : Int := if s = true then -(V : Int) else V
theorem sv_abs (s : Bool) (V : Nat) : (sv s V).natAbs = V := by unfold sv; split <;> omega
def Fin (V : Nat) : Prop := V = 0 ∨ ∃ k u, V = k * 2 ^ u ∧ Prt k u ∧ u * 4503599627370496 + k < 9218868437227405312
theorem IsV.fin {x : FV} {s : Bool} {V : Nat} (h : IsV x s V) : Fin V := by
  obtain ⟨b, m, i, rfl, _, hr, hi, hV⟩ := h
  have hk := k74
  rcases read_form hr with ⟨h0, _⟩ | hc
  · left; rw [← hV, h0, Nat.zero_mul]
  · right
    have h1 := hc.fin
    have e : (i + K74).toNat = (i + 1074).toNat := by omega
    exact ⟨m, (i + K74).toNat, hV.symm, ⟨hc.pos, by have := hc.lt; omega, by rcases hc.norm with h | h; exact .inl h; exact .inr (by omega)⟩, by rw [e]; exact h1⟩
theorem sum_v {s t : Bool} {m n : Nat} {i j : Int} (hi : -1074 ≤ i) (hj : -1074 ≤ j) :
    ∃ d, (Datum.number s m i).sum (.number t n j) = some d ∧
      ((∃ W, Rnd (sv s (m * 2 ^ (i + K74).toNat) + sv t (n * 2 ^ (j + K74).toNat)).natAbs W ∧ IsV (some (Ieee.double.write d)) (if sv s (m * 2 ^ (i + K74).toNat) + sv t (n * 2 ^ (j + K74).toNat) = 0 then s && t else decide (sv s (m * 2 ^ (i + K74).toNat) + sv t (n * 2 ^ (j + K74).toNat) < 0)) W) ∨
       ((∀ T, Fin T → ¬ (sv s (m * 2 ^ (i + K74).toNat) + sv t (n * 2 ^ (j + K74).toNat)).natAbs ≤ T) ∧ Ieee.double.write d = Ieee.double.word (decide (sv s (m * 2 ^ (i + K74).toNat) + sv t (n * 2 ^ (j + K74).toNat) < 0)) 9218868437227405312)) := by
  have hk := k74
  refine ⟨_, rfl, ?_⟩
  generalize hT : signed s m (i - min i j).toNat + signed t n (j - min i j).toNat = T
  generalize hS : sv s (m * 2 ^ (i + K74).toNat) + sv t (n * 2 ^ (j + K74).toNat) = S
  have hsv : ∀ (s : Bool) (m k : Nat), signed s m k = sv s (m * 2 ^ k) := fun s m k => by
    rw [sg_eq]; unfold sv
    cases s
    · simp only [Bool.false_eq_true, if_false]; omega
    · simp only [if_true]; omega
  have hsum : T * ((2 ^ (min i j + K74).toNat : Nat) : Int) = S := by
    rw [← hT, Int.add_mul, ← sg_shift, ← sg_shift, show (i - min i j).toNat + (min i j + K74).toNat = (i + K74).toNat by omega, show (j - min i j).toNat + (min i j + K74).toNat = (j + K74).toNat by omega, hsv, hsv]
    exact hS
  have hp1 := pow_posI (min i j + K74).toNat
  have hT0 : T = 0 ↔ S = 0 := by
    rw [← hsum]
    constructor
    · rintro rfl; exact Int.zero_mul _
    · intro h
      rcases Int.mul_eq_zero.1 h with h | h
      · exact h
      · omega
  have hTs : T < 0 ↔ S < 0 := by
    rw [← hsum]
    exact ⟨fun h => Int.mul_neg_of_neg_of_pos h hp1, fun h => neg_left h hp1⟩
  have habs : T.natAbs * 2 ^ (min i j + K74).toNat = S.natAbs := by
    have := congrArg Int.natAbs hsum
    rwa [Int.natAbs_mul, Int.natAbs_natCast] at this
  by_cases hz : S = 0
  · left
    have hTz := hT0.2 hz
    refine ⟨0, .inl ⟨by omega, rfl⟩, ?_⟩
    rw [if_pos hTz, if_pos hz, hTz]
    show IsV (some (Ieee.double.nearest (s && t) 0 (min i j))) _ 0
    have e : Ieee.double.nearest (s && t) 0 (min i j) = Ieee.double.word (s && t) 0 := by unfold Format.nearest; rw [if_pos rfl]
    rw [e]
    exact ⟨_, 0, -1074, rfl, (word_parts _ (r := 0) (by decide)).2.2, read_zero _, by omega, by simp⟩
  · have hTz : T ≠ 0 := fun h => hz (hT0.1 h)
    rw [if_neg hTz, if_neg hz]
    have hd : decide (T < 0) = decide (S < 0) := decide_eq_decide.2 hTs
    rw [hd]
    obtain ⟨k, u, h1, h2, h3⟩ := near_rnd (decide (S < 0)) (mag := T.natAbs) (p := min i j) (by omega) (by omega)
    rw [habs] at h3
    by_cases hf : u * 4503599627370496 + k < 9218868437227405312
    · left
      refine ⟨k * 2 ^ u, h3, ?_⟩
      show IsV (some (Ieee.double.nearest _ T.natAbs (min i j))) _ _
      rw [h1, Nat.min_eq_left (by omega)]
      obtain ⟨m', i', r1, r2, r3⟩ := read_rung (decide (S < 0)) h2 hf
      exact ⟨_, m', i', rfl, (word_parts _ (by omega)).2.2, r1, r2, r3⟩
    · right
      refine ⟨fun V hV hle => ?_, ?_⟩
      · rcases hV with rfl | ⟨k2, u2, rfl, hp2, hf2⟩
        · omega
        · have := rung_mono h2.le h2.norm hp2.le hp2.norm (h3.le hp2.le hle)
          omega
      · show Ieee.double.nearest _ T.natAbs (min i j) = _
        rw [h1, Nat.min_eq_right (by omega)]
end Go.KL

/- Rows of sums: structs of two floats, each behind a pointer into the row. -/
namespace Go.KL
open Go.RowKit
section
variable {P : Program} {d : Option Tmp} {ty : TypeId} {pos : String} {af : Array Edge} {g : Option (Nat × Bool)} {a : Act} {σ : GW}
end
end Go.KL

/- How blows are judged: the numbers. -/
namespace Go.KL
section
variable {P : Program} {d : Option Tmp} {ty : TypeId} {pos : String} {af : Array Edge} {g : Option (Nat × Bool)} {a : Act} {σ : GW}
end
/-! ### The numbers -/
def foldTo (f : Nat → FV) : Nat → SFV
  | 0 => S0
  | k + 1 => addS (foldTo f k) (f k)
end Go.KL

/- Sums of floats that aren't below nought aren't below nought. -/
namespace Go.KL
open Ieee
theorem add_v {x y : FV} {s t : Bool} {A B : Nat} (hx : IsV x s A) (hy : IsV y t B) :
    (∃ W, Rnd (sv s A + sv t B).natAbs W ∧ IsV (fadd x y) (if sv s A + sv t B = 0 then s && t else decide (sv s A + sv t B < 0)) W) ∨ ((∀ T, Fin T → ¬ (sv s A + sv t B).natAbs ≤ T) ∧ fadd x y = some (Ieee.double.word (decide (sv s A + sv t B < 0)) 9218868437227405312)) := by
  obtain ⟨b, m, i, rfl, _, hr, hi, rfl⟩ := hx
  obtain ⟨c, n, j, rfl, _, hr2, hj, rfl⟩ := hy
  obtain ⟨d, h1, h2⟩ := sum_v (s := s) (t := t) (m := m) (n := n) hi hj
  have e : fadd (some b) (some c) = some (Ieee.double.write d) := by
    show ((Ieee.double.read b).sum (Ieee.double.read c)).map Ieee.double.write = _
    rw [hr, hr2, h1]; rfl
  rw [e]
  rcases h2 with h2 | ⟨h2, h3⟩
  · exact .inl h2
  · exact .inr ⟨h2, by rw [h3]⟩
theorem sv_not (s : Bool) (V : Nat) : sv (!s) V = - sv s V := by unfold sv; cases s <;> simp
theorem sub_v {x y : FV} {s t : Bool} {A B : Nat} (hx : IsV x s A) (hy : IsV y t B) :
    (∃ W, Rnd (sv s A - sv t B).natAbs W ∧ IsV (fsub x y) (if sv s A - sv t B = 0 then s && !t else decide (sv s A - sv t B < 0)) W) ∨ ((∀ T, Fin T → ¬ (sv s A - sv t B).natAbs ≤ T) ∧ fsub x y = some (Ieee.double.word (decide (sv s A - sv t B < 0)) 9218868437227405312)) := by
  obtain ⟨b, m, i, rfl, _, hr, hi, rfl⟩ := hx
  obtain ⟨c, n, j, rfl, _, hr2, hj, rfl⟩ := hy
  obtain ⟨d, h1, h2⟩ := sum_v (s := s) (t := !t) (m := m) (n := n) hi hj
  rw [sv_not, ← Int.sub_eq_add_neg] at h2
  have e : fsub (some b) (some c) = some (Ieee.double.write d) := by
    show ((Ieee.double.read b).sum (Ieee.double.read c).opposite).map Ieee.double.write = _
    rw [hr, hr2]
    show ((Datum.number s m i).sum (.number (!t) n j)).map Ieee.double.write = _
    rw [h1]; rfl
  rw [e]
  rcases h2 with h2 | ⟨h2, h3⟩
  · exact .inl h2
  · exact .inr ⟨h2, by rw [h3]⟩
theorem fin_pow {j : Nat} (h : j ≤ 2097) : Fin (2 ^ j) := by
  right
  by_cases h2 : 52 ≤ j
  · exact ⟨4503599627370496, j - 52, by rw [← pow52, ← Nat.pow_add]; congr 1; omega, ⟨by decide, by decide, .inl (Nat.le_refl _)⟩, by omega⟩
  · refine ⟨2 ^ j, 0, by simp, ⟨Nat.two_pow_pos _, ?_, .inr rfl⟩, ?_⟩
    · exact Nat.le_trans (Nat.pow_le_pow_right (by decide) (show j ≤ 53 by omega)) (by decide)
    · have : (2 : Nat) ^ j ≤ 2 ^ 52 := Nat.pow_le_pow_right (by decide) (by omega)
      omega
theorem Fin.ge {V W A : Nat} (h : Rnd V W) (hA : Fin A) (hV : A ≤ V) : A ≤ W := by
  rcases hA with rfl | ⟨k, u, rfl, hp, _⟩
  · exact Nat.zero_le _
  · exact h.ge hp.le hV
theorem Fin.le {V W A : Nat} (h : Rnd V W) (hA : Fin A) (hV : V ≤ A) : W ≤ A := by
  rcases hA with rfl | ⟨k, u, rfl, hp, _⟩
  · have := h.small (by omega); omega
  · exact h.le hp.le hV
abbrev INF : FV := some 9218868437227405312
def NN (x : FV) : Prop := x = none ∨ (∃ V, IsV x false V) ∨ x = INF
section
variable {f : Nat → FV} {n : Nat} (hf : ∀ j, j < n → NN (f j))
include hf
end
/-! ### Signs -/
section
variable {N : Nat} {l : List BBlow} (h1 : 2 ≤ l.length) (h2 : l.length ≤ 5000)
end
end Go.KL

/- A sum that begins with a nought is never a nought below nought. -/
namespace Go.KL
open Ieee
end Go.KL

/- Rows of rows of floats that the function made itself, and writes. -/
namespace Go.KL
open Go.RowKit
def RowsG (σ : GW) (k : Nat) (e : TypeId) (us : List Value) (xss : List (List FV)) : Prop :=
  us.length = xss.length ∧ (∀ i, i < us.length → Own σ k e 1 (us.getD i undef) (xss.getD i []).length ((xss.getD i []).map Ty.flt)) ∧
    ∀ i j g, i < us.length → j < us.length → (us.getD i undef).ownBlock = some g → (us.getD j undef).ownBlock = some g → i = j
def RestG (σ : GW) (k : Nat) (e : TypeId) (us : List Value) (xss : List (List FV)) (i : Nat) : Prop :=
  us.length = xss.length ∧ i < us.length ∧ (∀ j, j < us.length → j ≠ i → Own σ k e 1 (us.getD j undef) (xss.getD j []).length ((xss.getD j []).map Ty.flt)) ∧
    ∀ a b g, a < us.length → b < us.length → (us.getD a undef).ownBlock = some g → (us.getD b undef).ownBlock = some g → a = b
section
variable {σ τ : GW} {k k3 : Nat} {e : TypeId} {us : List Value} {xss : List (List FV)} {i : Nat} {L : List Nat}
theorem RowsG.keepL (h : RowsG σ k e us xss) (hs : StpL L σ τ) (h1 : 1 ∉ L) (hk : k ∉ L) : RowsG τ k e us xss := ⟨h.1, fun i hi => (h.2.1 i hi).keepL hs h1 hk, h.2.2⟩
theorem RowsG.k0 (h : RowsG σ k e us xss) (hs : Stp 0 σ τ) : RowsG τ k e us xss := h.keepL (L := []) hs.toL0 (by simp) (by simp)
theorem RestG.keepL (h : RestG σ k e us xss i) (hs : StpL L σ τ) (h1 : 1 ∉ L) (hk : k ∉ L) : RestG τ k e us xss i := ⟨h.1, h.2.1, fun j hj hn => (h.2.2.1 j hj hn).keepL hs h1 hk, h.2.2.2⟩
theorem RestG.k0 (h : RestG σ k e us xss i) (hs : Stp 0 σ τ) : RestG τ k e us xss i := h.keepL (L := []) hs.toL0 (by simp) (by simp)
theorem Own.st4 {c n : Nat} {v : Value} {ts : List Ty} (h : Own σ k e c v n ts) {g : Nat} (hg : v.ownBlock = some g) : σ.st g = k := h.choose_spec.2.2.2 g hg
theorem own_sl_at {c n : Nat} {v : Value} {ts : List Ty} (h : Own σ k e c v n ts) (hw : τ.w = σ.w) (hle : σ.Le τ) (hst : ∀ g, v.ownBlock = some g → τ.st g = 1) : (Ty.sl c n ts).has τ v := by
  obtain ⟨us, h1, h2, h3, h4⟩ := h
  rcases h1.2 with ⟨rfl, rfl⟩ | ⟨g, cap, cur, rfl, hb, hg, hn, hm, hcs, ht⟩
  · have hus : us = [] := List.eq_nil_of_length_eq_zero (by rw [h1.1]; simp)
    have hts : ts = [] := List.eq_nil_of_length_eq_zero (by rw [← h2, hus]; rfl)
    subst hts
    exact ⟨none, 0, 0, 0, rfl, ⟨Nat.le_refl _, by decide⟩, by simp, .inl rfl, fun j T hj => by simp at hj⟩
  · refine ⟨some ⟨g, 0, none⟩, cap, g, 0, rfl, ⟨hn, hm⟩, by rw [← h2]; exact h1.1, .inr ⟨rfl, hst g rfl⟩, fun j T hj => ?_⟩
    obtain ⟨u, hu⟩ : ∃ u, us[j]? = some u := ⟨us[j]'(by rw [h2]; exact (List.getElem?_eq_some_iff.1 hj).1), by simp⟩
    refine ⟨u, ?_, T.up hle (h3 j T u hj hu)⟩
    have := h1.cells (g := g) rfl j u hu
    rw [Addr.add_lit] at this
    rw [hw]; exact this
theorem RowsG.seal {ko : Nat} {eo : TypeId} {v : Value} {n : Nat} (h : RowsG σ k e us xss) (hk : 2 ≤ k) (ho : Own σ ko eo 1 v n (us.map Ty.val)) (hko : ko ≠ k) :
    ∃ τ : GW, τ.w = σ.w ∧ Stp k σ τ ∧ Own τ ko eo 1 v n (xss.map Ty.flts) := by
  obtain ⟨h1, h2, h3⟩ := h
  let τ : GW := ⟨σ.w, fun b => if σ.st b = k then 1 else σ.st b, fun b hb => by
    by_cases hy : σ.st b = k
    · exact σ.lt b (by omega)
    · simp only [hy, if_false] at hb; exact σ.lt b hb⟩
  have hs : Stp k σ τ := ⟨rfl, rfl, rfl, Dr.refl _, Nat.le_refl _, fun _ _ _ => rfl, fun b hb hm => by
    show (if σ.st b = k then 1 else σ.st b) = σ.st b
    rw [if_neg (by omega)]⟩
  have hle : σ.Le τ := hs.le (by omega)
  refine ⟨τ, rfl, hs, ?_⟩
  obtain ⟨vs, r1, r2, r3, r4⟩ := ho
  refine ⟨vs, r1, by rw [r2, List.length_map, List.length_map, h1], fun j T u hj hu => ?_, fun g hg => ?_⟩
  · have hjl : j < xss.length := by
      have := (List.getElem?_eq_some_iff.1 hj).1
      simpa using this
    have hju : j < us.length := by omega
    have hu2 : u = us.getD j undef := by
      have := r3 j (Ty.val (us.getD j undef)) u (by simp [hju]) hu
      exact this
    have hT : T = Ty.flts (xss.getD j []) := by
      rw [List.getElem?_map, List.getElem?_eq_getElem hjl] at hj
      cases hj
      simp [hjl]
    rw [hT, hu2]
    refine own_sl_at (h2 j hju) rfl hle fun g hg => ?_
    show (if σ.st g = k then 1 else σ.st g) = 1
    rw [if_pos ((h2 j hju).st4 hg)]
  · show (if σ.st g = k then 1 else σ.st g) = ko
    rw [if_neg (by rw [r4 g hg]; exact hko)]
    exact r4 g hg
end
/-! ### What the rows hold -/
end Go.KL

/- Arrays as values: built of two parts, and what stands at a place. -/
namespace Go.KL
open Go.RowKit
variable {P : Program} {d : Option Tmp} {ty : TypeId} {pos : String} {af : Array Edge} {g : Option (Nat × Bool)} {a : Act} {σ : GW}
theorem y_arri {α : Type} {f : α → Ty} {xs : List α} (dd : α) {t e : TypeId} {td : TypeDesc} {n : Nat} {ze : Value} {be i : Nat} {k : IntKind} {x y : Operand} (ht : P.underlying t = some (.array n e)) (hte : P.underlying e = some td) (hd : td.isRow = false) (he : Info P e ze 1 be)
    (hx : At (Ty.agg (xs.map f)) σ a x) (hy : a.eval y = .int k i) (hi : i < xs.length) (hn : xs.length = n) :
    Yld P ⟨d, .index t x y, ty, pos, af, g⟩ a σ (f (xs.getD i dd)).pr := by
  obtain ⟨cs, e1, hl, hc⟩ := hx
  rw [List.length_map] at hl
  have hlt : i < cs.size := by omega
  refine Yld.of_run (v := cs[i]) ?_ (hc i _ _ (by simp [hi]) (by simp [hlt]))
  have hagg : (isAgg e).run P σ.w = .ok false σ.w := by
    unfold isAgg
    rw [Sem.run_bind, run_underlying hte σ.w]
    cases td <;> simp_all
  simp only [execOp, e1, hy]
  have h0 : (0 : Int) ≤ (i : Int) ∧ (i : Int) < (n : Int) := by omega
  simp [Instr.index, Sem.run_bind, asIntOf, run_underlying ht, h0, he.size, part, hagg, hlt, show i < n by omega]
/-! ### Bells that are told -/
end Go.KL

/- Pairs of floats: complex numbers; a float's negation; sums with no sign on a nought. -/
namespace Go.KL
open Go.RowKit
abbrev CV := FV × FV
def C0 : CV := (some 0, some 0)
def Ty.cx (c : CV) : Ty := ⟨fun _ u => ∃ a b, u = .complex .f64 a b ∧ a < 18446744073709551616 ∧ b < 18446744073709551616 ∧ cn a = c.1 ∧ cn b = c.2, fun _ h => h⟩
theorem one_cx {c : CV} : One (.cx c) := fun _ u ⟨_, _, e, _⟩ => by rw [e]; rfl
theorem cx_zero {σ : GW} : (Ty.cx C0).has σ (.complex .f64 0 0) := ⟨0, 0, rfl, by decide, by decide, by decide +kernel, by decide +kernel⟩
theorem cx_const {σ : GW} {a b : Nat} (h1 : a < 18446744073709551616) (h2 : a % 9223372036854775808 ≤ 9218868437227405312) (h3 : b < 18446744073709551616) (h4 : b % 9223372036854775808 ≤ 9218868437227405312) : (Ty.cx (some a, some b)).has σ (.complex .f64 a b) := ⟨a, b, rfl, h1, h3, cn_le h2, cn_le h4⟩
theorem cx_of {σ : GW} {a b : Nat} {v : Value} (h1 : a < 18446744073709551616) (h2 : a % 9223372036854775808 ≤ 9218868437227405312) (h3 : b < 18446744073709551616) (h4 : b % 9223372036854775808 ≤ 9218868437227405312) (k : (Ty.val (.complex .f64 a b)).has σ v) : (Ty.cx (some a, some b)).has σ v := by
  have e : v = .complex .f64 a b := k
  rw [e]; exact cx_const h1 h2 h3 h4
section
variable {P : Program} {d : Option Tmp} {ty : TypeId} {pos : String} {af : Array Edge} {g : Option (Nat × Bool)} {a : Act} {σ : GW} {t u : TypeId} {x y : Operand} {p q : FV} {c : CV}
theorem y_cx (hx : At (.flt p) σ a x) (hy : At (.flt q) σ a y) : Yld P ⟨d, .call ⟨.builtin .complex, #[x, y], #[t, u]⟩, ty, pos, af, g⟩ a σ (Ty.cx (p, q)).pr := by
  obtain ⟨ba, ea, la, ca⟩ := hx
  obtain ⟨bb, eb, lb, cb⟩ := hy
  refine Yld.of_run (v := .complex .f64 ba bb) ?_ ⟨ba, bb, rfl, la, lb, ca, cb⟩
  simp only [execOp, resolve, List.map_toArray, List.map_cons, List.map_nil, ea, eb]
  rfl
theorem y_re (hx : At (.cx c) σ a x) : Yld P ⟨d, .call ⟨.builtin .real, #[x], #[t]⟩, ty, pos, af, g⟩ a σ (Ty.flt c.1).pr := by
  obtain ⟨ba, bb, e, la, lb, ca, cb⟩ := hx
  exact Yld.of_run (v := .float .f64 ba) (run_builtin1 e (fun cs => rfl)) ⟨ba, rfl, la, ca⟩
theorem y_im (hx : At (.cx c) σ a x) : Yld P ⟨d, .call ⟨.builtin .imag, #[x], #[t]⟩, ty, pos, af, g⟩ a σ (Ty.flt c.2).pr := by
  obtain ⟨ba, bb, e, la, lb, ca, cb⟩ := hx
  exact Yld.of_run (v := .float .f64 bb) (run_builtin1 e (fun cs => rfl)) ⟨bb, rfl, lb, cb⟩
end
section
variable {P : Program} {d : Option Tmp} {ty : TypeId} {pos : String} {af : Array Edge} {g : Option (Nat × Bool)} {a : Act} {σ : GW}
theorem y_box1 {x : Operand} {T : Ty} {t : TypeId} (h1 : One T) (hx : At T σ a x) : Yld P ⟨d, .box t x, ty, pos, af, g⟩ a σ (Ty.ref [T]).pr := by
  intro K Q hk
  have hc := cells_of_one (h1 _ _ hx)
  have hr : (execOp a.eval ⟨d, .box t x, ty, pos, af, g⟩).run P σ.w = .ok (.value (.pointer (some ⟨σ.w.heap.size, 0, none⟩))) (σ.w.alloc (.cells #[a.eval x] t)) := by
    simp only [execOp]
    generalize a.eval x = v at hc ⊢
    simp [run_box, hc]
  unfold Oper.wp
  rw [hr]
  refine hk _ (σ.seal (.cells #[a.eval x] t)) (Stp.seal _ _) ⟨σ.w.heap.size, 0, rfl, by simp [GW.seal], fun j U hj => ?_⟩
  match j, hj with
  | 0, hj =>
    simp at hj; subst hj
    refine ⟨a.eval x, ?_, T.up (Stp.seal _ _).le0 hx⟩
    show World.cell? (σ.w.alloc _) _ = _
    simp only [World.cell?, heap_alloc_new]
    rfl
end
end Go.KL

/- Sums, and the rhythm of eight turns: what both sides say. -/
namespace Go.KL
def nearF (x : FV) : Bool := fGe x (some 13965043853221167104) && fLe x (some 4741671816366391296)
def sumE (l : List FV) : Int := if 5000 < l.length then 3 else if (∀ j, j < l.length → nearF (l.getD j (some 0)) = true) then 0 else 12
section
variable {l : List FV}
theorem sum_3 (h : 5000 < l.length) : sumE l = 3 := by unfold sumE; rw [if_pos h]
theorem sum_12 {k : Nat} (h : ¬ 5000 < l.length) (hk : k < l.length) (hb : nearF (l.getD k (some 0)) = false) : sumE l = 12 := by
  unfold sumE
  rw [if_neg h, if_neg]
  intro ha
  rw [ha k hk] at hb; cases hb
theorem sum_0 (h : ¬ 5000 < l.length) (ha : ∀ j, j < l.length → nearF (l.getD j (some 0)) = true) : sumE l = 0 := by
  unfold sumE; rw [if_neg h, if_pos ha]
abbrev getF (l : List FV) : Nat → FV := fun j => l.getD j (some 0)
theorem fold_get (l : List FV) : ∀ k, k ≤ l.length → foldTo (getF l) k = (l.take k).foldl addS S0
  | 0, _ => rfl
  | k + 1, h => by
    rw [add_succ (by omega)]
    show addS (foldTo (getF l) k) _ = _
    rw [fold_get l k (by omega)]
theorem added_get (l : List FV) : added l = valS (foldTo (getF l) l.length) := by
  rw [fold_get l _ (Nat.le_refl _), List.take_length]; rfl
end
abbrev HH : FV := some 4604544271217802189
abbrev HN : FV := some 13827916308072577997
abbrev ONE : FV := some 4607182418800017408
abbrev ONEN : FV := some 13830554455654793216
def TURN : List CV := [(ONE, some 0), (HH, HH), (some 0, ONE), (HN, HH), (ONEN, some 0), (HN, HN), (some 0, ONEN), (HH, HN)]
def cw (mk : Bool) (i : Nat) : CV := if mk = true then TURN.getD i C0 else C0
def dn (mk : Bool) : Int := if mk = true then 1 else 0
def reT (i : Nat) : FV := (TURN.getD i C0).1
def imT (i : Nat) : FV := (TURN.getD i C0).2
def reF (l : List FV) (j k : Nat) : FV := fmul (l.getD k (some 0)) (reT (j * k % 8))
def imF (l : List FV) (j k : Nat) : FV := fmul (l.getD k (some 0)) (imT (j * k % 8))
def rhF (l : List FV) (j : Nat) : CV := (pzF (valS (foldTo (reF l j) l.length)), pzF (valS (foldTo (imF l j) l.length)))
def outTo (l : List FV) (j : Nat) : List CV := (List.range 8).map fun i => if i < j then rhF l i else C0
theorem out_len (l : List FV) (j : Nat) : (outTo l j).length = 8 := by simp [outTo]
theorem out_set {l : List FV} {j : Nat} (h : j < 8) : (outTo l j).set j (rhF l j) = outTo l (j + 1) := by
  refine List.ext_getElem (by simp [outTo]) fun i h1 h2 => ?_
  rw [List.getElem_set]
  simp only [outTo, List.getElem_map, List.getElem_range]
  by_cases e : j = i
  · subst e; rw [if_pos rfl, if_pos (by omega)]
  · rw [if_neg e]
    by_cases e2 : i < j
    · rw [if_pos e2, if_pos (by omega)]
    · rw [if_neg e2, if_neg (by omega)]
theorem rhF_add (l : List FV) (j : Nat) : (fadd (valS (foldTo (reF l j) l.length)) (some 0), fadd (valS (foldTo (imF l j) l.length)) (some 0)) = rhF l j := by
  rw [add_zero_pz (x := valS (foldTo (reF l j) l.length)) fok_fop, add_zero_pz (x := valS (foldTo (imF l j) l.length)) fok_fop]; rfl
end Go.KL

/- Floats of a fixed smallest unit (2 ^ -40): what a sum that keeps its losses by gives. -/
namespace Go.KL
open Ieee
def E34 : Nat := 1034
theorem e34 : E34 = 1034 := rfl
attribute [irreducible] E34
def UU : Nat := 2 ^ E34
theorem uu_eq : UU = 2 ^ E34 := rfl
theorem uu_pos : 0 < UU := Nat.two_pow_pos _
attribute [irreducible] UU
def IsQ (x : FV) (q : Int) : Prop := ∃ s V, IsV x s V ∧ sv s V = q * (UU : Int)
structure RQ (N r : Int) : Prop where
  near : (r - N).natAbs ≤ 262144
  small : N.natAbs ≤ 9007199254740992 → r = N
  there : ∀ y q, IsQ y q → q.natAbs = N.natAbs → r = N
theorem IsQ.abs {x : FV} {q : Int} {s : Bool} {V : Nat} (h2 : sv s V = q * (UU : Int)) : V = q.natAbs * UU := by
  have := congrArg Int.natAbs h2
  rw [sv_abs, Int.natAbs_mul, Int.natAbs_natCast] at this
  exact this
theorem rnd_uu {N W : Nat} (h : Rnd (N * UU) W) : ∃ r, W = r * UU := by
  rcases h with ⟨_, h⟩ | ⟨k, u, hW, _, _, _, he1, he2, _, _⟩
  · exact ⟨0, by omega⟩
  · obtain ⟨E, hE⟩ : ∃ E : Nat, E = E34 := ⟨_, rfl⟩
    have hU : UU = 2 ^ E := by rw [uu_eq, hE]
    by_cases hu : E ≤ u
    · refine ⟨k * 2 ^ (u - E), ?_⟩
      rw [hW, hU, Nat.mul_assoc, ← Nat.pow_add, show u - E + E = u by omega]
    · refine ⟨N, ?_⟩
      have e : N * UU = (N * 2 ^ (E - u)) * 2 ^ u := by rw [hU, Nat.mul_assoc, ← Nat.pow_add, show E - u + u = E by omega]
      rw [e] at he1 he2 ⊢
      rw [hW] at he1 he2 ⊢
      have hp := Nat.two_pow_pos u
      have h1 : k ≤ N * 2 ^ (E - u) := le_unit (u := u) (x := 2 ^ u / 2) (by omega) (by omega)
      have h2 : N * 2 ^ (E - u) ≤ k := le_unit (u := u) (x := 2 ^ u / 2) (by omega) (by omega)
      rw [Nat.le_antisymm h1 h2]
theorem le_uu {a b : Nat} (h : a * UU ≤ b * UU) : a ≤ b := Nat.le_of_mul_le_mul_right h uu_pos
theorem sg_eq2 {s0 : Bool} {N : Int} {r : Nat} : sv (if N * (UU : Int) = 0 then s0 else decide (N * (UU : Int) < 0)) (r * UU) = (sv (if N = 0 then s0 else decide (N < 0)) r) * (UU : Int) := by
  have hp := uu_pos
  have e1 : (N * (UU : Int) = 0) = (N = 0) := by
    apply propext
    constructor
    · intro h
      rcases Int.mul_eq_zero.1 h with h | h
      · exact h
      · omega
    · rintro rfl; exact Int.zero_mul _
  have e2 : decide (N * (UU : Int) < 0) = decide (N < 0) := by
    apply decide_eq_decide.2
    constructor
    · intro h; exact neg_left h (by omega)
    · intro h; exact Int.mul_neg_of_neg_of_pos h (by omega)
  have key : ∀ b : Bool, sv b (r * UU) = sv b r * (UU : Int) := fun b => by
    unfold sv
    cases b
    · simp
    · simp only [if_true]; rw [Int.natCast_mul, Int.neg_mul]
  rw [e2]
  simp only [e1]
  exact key _
theorem rq_of {N : Int} {W : Nat} {s0 : Bool} {z : FV} (hN : N.natAbs ≤ 2361183241434822606848) (h : Rnd (N * (UU : Int)).natAbs W) (hz : IsV z (if N * (UU : Int) = 0 then s0 else decide (N * (UU : Int) < 0)) W) : ∃ r, IsQ z r ∧ RQ N r := by
  have hp := uu_pos
  have hab : (N * (UU : Int)).natAbs = N.natAbs * UU := by rw [Int.natAbs_mul, Int.natAbs_natCast]
  rw [hab] at h
  obtain ⟨r, rfl⟩ := rnd_uu h
  have hq : IsQ z (sv (if N = 0 then s0 else decide (N < 0)) r) := ⟨_, _, hz, sg_eq2⟩
  have hrn : r = N.natAbs → sv (if N = 0 then s0 else decide (N < 0)) r = N := by
    rintro rfl
    unfold sv
    by_cases h0 : N = 0
    · subst h0; simp
    · rw [if_neg h0]
      by_cases h1 : N < 0
      · rw [decide_eq_true h1, if_pos rfl]; omega
      · rw [decide_eq_false h1, if_neg (by decide)]; omega
  refine ⟨_, hq, ?_, ?_, ?_⟩
  · obtain ⟨q, hqe⟩ : ∃ q : Nat, q = 71 + E34 := ⟨_, rfl⟩
    have he34 := e34
    have hb : N.natAbs * UU ≤ 2 ^ q := by
      have e : (2 : Nat) ^ q = 2361183241434822606848 * UU := by rw [hqe, Nat.pow_add, uu_eq]
      rw [e]; exact Nat.mul_le_mul_right _ hN
    have h1 := Rnd.err h (by omega) hb
    have e2 : (2 : Nat) ^ (q - 53) = 262144 * UU := by rw [show q - 53 = 18 + E34 by omega, Nat.pow_add, uu_eq]
    rw [e2, ← Nat.add_mul, ← Nat.add_mul] at h1
    have h2 := le_uu h1.1
    have h3 := le_uu h1.2
    unfold sv
    by_cases h0 : N = 0
    · subst h0
      simp at h2 ⊢
      split <;> omega
    · rw [if_neg h0]
      by_cases h4 : N < 0
      · rw [decide_eq_true h4, if_pos rfl]; omega
      · rw [decide_eq_false h4, if_neg (by decide)]; omega
  · intro hs
    apply hrn
    obtain ⟨E, hE⟩ : ∃ E : Nat, E = E34 := ⟨_, rfl⟩
    have hU : UU = 2 ^ E := by rw [uu_eq, hE]
    rw [hU] at h
    have h1 := Rnd.le h (k := N.natAbs) (j := E) hs (Nat.le_refl _)
    have h2 := Rnd.ge h (k := N.natAbs) (j := E) hs (Nat.le_refl _)
    rw [← hU] at h1 h2
    exact Nat.le_antisymm (le_uu h1) (le_uu h2)
  · rintro y q ⟨t, V, hV, hv⟩ hqn
    apply hrn
    have e := IsQ.abs (x := y) hv
    rw [hqn] at e
    have hf := hV.fin
    rw [e] at hf
    exact Nat.le_antisymm (le_uu (Fin.le h hf (Nat.le_refl _))) (le_uu (Fin.ge h hf (Nat.le_refl _)))
theorem fin_big {N : Int} (hN : N.natAbs ≤ 2361183241434822606848) : (N * (UU : Int)).natAbs ≤ 2 ^ (71 + E34) := by
  rw [Int.natAbs_mul, Int.natAbs_natCast]
  have e : (2 : Nat) ^ (71 + E34) = 2361183241434822606848 * UU := by rw [Nat.pow_add, uu_eq]
  rw [e]; exact Nat.mul_le_mul_right _ hN
theorem q_add {x y : FV} {p q : Int} (hx : IsQ x p) (hy : IsQ y q) (hN : (p + q).natAbs ≤ 2361183241434822606848) : ∃ r, IsQ (fadd x y) r ∧ RQ (p + q) r := by
  obtain ⟨s, A, hA, ha⟩ := hx
  obtain ⟨t, B, hB, hb⟩ := hy
  have e : sv s A + sv t B = (p + q) * (UU : Int) := by rw [ha, hb, Int.add_mul]
  rcases add_v hA hB with ⟨W, h1, h2⟩ | ⟨h1, _⟩
  · rw [e] at h1 h2
    exact rq_of hN h1 h2
  · rw [e] at h1
    exact absurd (fin_big hN) (h1 _ (fin_pow (by have := e34; omega)))
theorem q_sub {x y : FV} {p q : Int} (hx : IsQ x p) (hy : IsQ y q) (hN : (p - q).natAbs ≤ 2361183241434822606848) : ∃ r, IsQ (fsub x y) r ∧ RQ (p - q) r := by
  obtain ⟨s, A, hA, ha⟩ := hx
  obtain ⟨t, B, hB, hb⟩ := hy
  have e : sv s A - sv t B = (p - q) * (UU : Int) := by rw [ha, hb, Int.sub_mul]
  rcases sub_v hA hB with ⟨W, h1, h2⟩ | ⟨h1, _⟩
  · rw [e] at h1 h2
    exact rq_of hN h1 h2
  · rw [e] at h1
    exact absurd (fin_big hN) (h1 _ (fin_pow (by have := e34; omega)))
theorem IsQ.sg {x : FV} {q : Int} (h : IsQ x q) : ∃ b s m i, x = some b ∧ b < 18446744073709551616 ∧ Ieee.double.read b = .number s m i ∧ -1074 ≤ i ∧ signed s m (i + K74).toNat = q * (UU : Int) := by
  obtain ⟨s, V, ⟨b, m, i, rfl, hb, hr, hi, rfl⟩, hv⟩ := h
  refine ⟨b, s, m, i, rfl, hb, hr, hi, ?_⟩
  rw [← hv, sg_eq]
  unfold sv
  cases s
  · simp only [Bool.false_eq_true, if_false]; omega
  · simp only [if_true]; omega
theorem q_of_sg {b : Nat} {s : Bool} {m : Nat} {i q : Int} (hb : b < 18446744073709551616) (hr : Ieee.double.read b = .number s m i) (hi : -1074 ≤ i) (hv : signed s m (i + K74).toNat = q * (UU : Int)) : IsQ (some b) q := by
  refine ⟨s, m * 2 ^ (i + K74).toNat, ⟨b, m, i, rfl, hb, hr, hi, rfl⟩, ?_⟩
  rw [← hv, sg_eq]
  unfold sv
  cases s
  · simp only [Bool.false_eq_true, if_false]; omega
  · simp only [if_true]; omega
theorem q_ord {x y : FV} {p q : Int} (hx : IsQ x p) (hy : IsQ y q) : ford x y = some (compare p q) := by
  obtain ⟨b, s, m, i, rfl, _, hr, hi, hv⟩ := hx.sg
  obtain ⟨c, t, n, j, rfl, _, hr2, hj, hv2⟩ := hy.sg
  have hk := k74
  have hp := uu_pos
  have hbase : min i j = i ∨ min i j = j := by omega
  show (Ieee.double.read b).order (Ieee.double.read c) = _
  rw [hr, hr2]
  show some (compare (signed s m (i - min i j).toNat) (signed t n (j - min i j).toNat)) = _
  congr 1
  refine cmp_scale (c := ((2 ^ (min i j + K74).toNat : Nat) : Int)) (d := (UU : Int)) ?_ ?_ (pow_posI _) (by omega)
  · rw [← sg_shift, show (i - min i j).toNat + (min i j + K74).toNat = (i + K74).toNat by omega, hv]
  · rw [← sg_shift, show (j - min i j).toNat + (min i j + K74).toNat = (j + K74).toNat by omega, hv2]
theorem q_eq {x y : FV} {p : Int} (hx : IsQ x p) (hy : IsQ y p) : fEq x y = true := by
  unfold fEq; rw [q_ord hx hy]
  show (compare p p == Ordering.eq) = true
  rw [cmp_eq, decide_eq_true rfl]
theorem q_ge {x y : FV} {p q : Int} (hx : IsQ x p) (hy : IsQ y q) : fGe x y = decide (q ≤ p) := by
  unfold fGe; rw [q_ord hx hy]
  have h1 := cmp_gt p q
  have h2 := cmp_eq p q
  show ((compare p q == Ordering.gt) || (compare p q == Ordering.eq)) = _
  rw [h1, h2, Bool.eq_iff_iff]; simp; omega
theorem q_le {x y : FV} {p q : Int} (hx : IsQ x p) (hy : IsQ y q) : fLe x y = decide (p ≤ q) := by
  unfold fLe; rw [q_ord hx hy]
  have h1 := cmp_lt p q
  have h2 := cmp_eq p q
  show ((compare p q == Ordering.lt) || (compare p q == Ordering.eq)) = _
  rw [h1, h2, Bool.eq_iff_iff]; simp; omega
theorem q_abs {x : FV} {q : Int} (hx : IsQ x q) : IsQ (fabs x) ((q.natAbs : Nat) : Int) := by
  obtain ⟨s, V, ⟨b, m, i, rfl, hb, hr, hi, rfl⟩, hv⟩ := hx
  have e := IsQ.abs (x := some b) hv
  refine ⟨false, m * 2 ^ (i + K74).toNat, ⟨b % 9223372036854775808, m, i, rfl, by omega, read_abs hr, hi, rfl⟩, ?_⟩
  rw [e]
  unfold sv
  simp
theorem q_int {x : FV} {z : Int} (h : IsI x z) : IsQ x (z * 1099511627776) := by
  obtain ⟨b, s, m, i, rfl, hb, hr, hi, hv⟩ := h
  refine q_of_sg hb hr hi ?_
  have e : ((2 ^ K74 : Nat) : Int) = 1099511627776 * (UU : Int) := by
    have : (2 : Nat) ^ K74 = 1099511627776 * UU := by rw [show K74 = 40 + E34 by rw [k74, e34], Nat.pow_add, uu_eq]
    rw [this]; omega
  rw [hv, e, Int.mul_assoc]
theorem q_zero : IsQ (some 0) 0 := q_int isI_zero
def St (a : SFV) (S : Int) (k : Nat) : Prop := ∃ A L, IsQ a.1 A ∧ IsQ a.2 L ∧ A + L = S ∧ L.natAbs ≤ k * 262144
theorem st_add {a : SFV} {x : FV} {S X : Int} {k : Nat} (h : St a S k) (hk : k ≤ 1000) (hx : IsQ x X) (hS : S.natAbs ≤ 1180591620717411303424) (hX : X.natAbs ≤ 1099511627776000000000)
    (hc : X.natAbs ≤ 4398046511104 ∨ S.natAbs ≤ 4398046511104 ∨ (S + X).natAbs ≤ 4398046511104) : St (addS a x) (S + X) (k + 1) := by
  obtain ⟨A, L, hA, hL, hAL, hLb⟩ := h
  obtain ⟨T, hT, hr⟩ := q_add hA hx (by omega)
  have key : ∀ {u w : FV} {p q : Int}, IsQ u p → IsQ w q → p + q = A + X → (q.natAbs ≤ 4503599627370496 ∨ (A + X).natAbs ≤ 9007199254740992) → p.natAbs ≤ 1180591620717411303424 + 262144000 → q.natAbs ≤ 1180591620717411303424 + 262144000 → IsQ (fadd (fsub u (fadd a.1 x)) w) (A + X - T) := by
    intro u w p q hu hw hpq hc hp hq
    have hn := hr.near
    obtain ⟨r1, h1, h2⟩ := q_sub hu hT (by omega)
    have e1 : r1 = p - T := by
      by_cases hs : (A + X).natAbs ≤ 9007199254740992
      · have hTe := hr.small hs
        exact h2.there w q hw (by omega)
      · exact h2.small (by omega)
    subst e1
    have hsm : (p - T + q).natAbs ≤ 262144 := by omega
    obtain ⟨r2, h3, h4⟩ := q_add h1 hw (by omega)
    have e2 := h4.small (by omega)
    subst e2
    rw [show A + X - T = p - T + q by omega]
    exact h3
  have hE : IsQ (if fGe (fabs a.1) (fabs x) = true then fadd (fsub a.1 (fadd a.1 x)) x else fadd (fsub x (fadd a.1 x)) a.1) (A + X - T) := by
    rw [q_ge (q_abs hA) (q_abs hx)]
    by_cases hge : ((X.natAbs : Nat) : Int) ≤ ((A.natAbs : Nat) : Int)
    · rw [decide_eq_true hge, if_pos rfl]
      exact key hA hx rfl (by omega) (by omega) (by omega)
    · rw [decide_eq_false hge, if_neg (by decide)]
      exact key hx hA (Int.add_comm _ _) (by omega) (by omega) (by omega)
  have hn := hr.near
  obtain ⟨R, h5, h6⟩ := q_add hL hE (by omega)
  have e3 := h6.small (by omega)
  subst e3
  exact ⟨T, _, hT, h5, by omega, by omega⟩
theorem st_val {a : SFV} {S : Int} {k : Nat} (h : St a S k) (hS : S.natAbs ≤ 9007199254740992) : IsQ (valS a) S := by
  obtain ⟨A, L, hA, hL, hAL, hLb⟩ := h
  obtain ⟨r, h1, h2⟩ := q_add hA hL (by omega)
  have := h2.small (by omega)
  rw [hAL] at this
  subst this
  exact h1
theorem st_zero : St S0 0 0 := ⟨0, 0, q_zero, q_zero, rfl, by decide⟩
theorem st_row (l : List FV) : ∀ (zs : List Int) (a : SFV) (S : Int) (k : Nat), St a S k → k + l.length ≤ 1000 → l.length = zs.length → (∀ j, j < l.length → IsQ (l.getD j (some 0)) (zs.getD j 0)) → (∀ z ∈ zs, z.natAbs ≤ 1000) → S.natAbs + 1000 * l.length ≤ 1180591620717411303424 → St (l.foldl addS a) (S + zs.sum) (k + l.length) := by
  induction l with
  | nil =>
    intro zs a S k h _ hl _ _ _
    cases zs with
    | nil =>
      show St a (S + 0) k
      rw [Int.add_zero]; exact h
    | cons z zs => simp at hl
  | cons x l ih =>
    intro zs a S k h hk hl hq hz hS
    cases zs with
    | nil => simp at hl
    | cons z zs =>
      simp only [List.length_cons] at hk hl hS
      have h1 := hz z (List.mem_cons_self ..)
      have h2 : IsQ x z := hq 0 (by rw [List.length_cons]; omega)
      have h3 := st_add h (by omega) h2 (by omega) (by omega) (.inl (by omega))
      have h4 := ih zs _ _ _ h3 (by omega) (by omega) (fun j hj => hq (j + 1) (by rw [List.length_cons]; omega)) (fun z hz' => hz z (List.mem_cons_of_mem _ hz')) (by omega)
      simp only [List.foldl_cons, List.sum_cons, List.length_cons]
      rw [show S + (z + zs.sum) = S + z + zs.sum by omega, show k + (l.length + 1) = k + 1 + l.length by omega]
      exact h4
theorem sum_bd : ∀ (zs : List Int), (∀ z ∈ zs, z.natAbs ≤ 1000) → zs.sum.natAbs ≤ 1000 * zs.length
  | [], _ => by simp
  | z :: zs, h => by
    have h1 := h z (List.mem_cons_self ..)
    have h2 := sum_bd zs (fun y hy => h y (List.mem_cons_of_mem _ hy))
    simp only [List.sum_cons, List.length_cons]; omega
theorem great_goes {l1 l2 l3 : List FV} {z1 z2 z3 : List Int} {c d : FV} {C : Int} (hc : IsQ c C) (hd : IsQ d (-C)) (hC : C.natAbs ≤ 1099511627776000000000)
    (n1 : l1.length = z1.length) (n2 : l2.length = z2.length) (n3 : l3.length = z3.length) (hn : l1.length + l2.length + l3.length ≤ 400)
    (q1 : ∀ j, j < l1.length → IsQ (l1.getD j (some 0)) (z1.getD j 0)) (q2 : ∀ j, j < l2.length → IsQ (l2.getD j (some 0)) (z2.getD j 0)) (q3 : ∀ j, j < l3.length → IsQ (l3.getD j (some 0)) (z3.getD j 0))
    (b1 : ∀ z ∈ z1, z.natAbs ≤ 1000) (b2 : ∀ z ∈ z2, z.natAbs ≤ 1000) (b3 : ∀ z ∈ z3, z.natAbs ≤ 1000) :
    IsQ (added (l1 ++ c :: (l2 ++ d :: l3))) (z1.sum + z2.sum + z3.sum) := by
  have s1 := sum_bd z1 b1
  have s2 := sum_bd z2 b2
  have s3 := sum_bd z3 b3
  have h1 := st_row l1 z1 _ _ _ st_zero (by omega) n1 q1 b1 (by simp; omega)
  have h2 := st_add h1 (by omega) hc (by omega) hC (.inr (.inl (by omega)))
  have h3 := st_row l2 z2 _ _ _ h2 (by omega) n2 q2 b2 (by omega)
  have h4 := st_add h3 (by omega) hd (by omega) (by omega) (.inr (.inr (by omega)))
  have h5 := st_row l3 z3 _ _ _ h4 (by omega) n3 q3 b3 (by omega)
  unfold added
  rw [List.foldl_append, List.foldl_cons, List.foldl_append, List.foldl_cons]
  have h6 := st_val h5 (by omega)
  rw [show z1.sum + z2.sum + z3.sum = 0 + z1.sum + C + z2.sum + -C + z3.sum by omega]
  exact h6
end Go.KL

/- A great number that comes and goes; whole numbers' rhythms. -/
namespace Go.KL
open Ieee
abbrev P40 : FV := some 4787326403894837248
theorem read_p40 : Ieee.double.read 4787326403894837248 = .number false 4503599627370496 (-12) := by decide +kernel
theorem canon_sub {m : Nat} {i : Int} (h : Canon m i) (hm : 4503599627370496 ≤ m) (hi : -1000 ≤ i) : Canon m (i - 40) :=
 by
  have h1 := h.fin
  have e : (i - 40 + 1074).toNat ≤ (i + 1074).toNat := Int.toNat_le_toNat (by omega)
  have h2 := Nat.mul_le_mul_right 4503599627370496 e
  exact ⟨h.pos, h.lt, by omega, .inl hm, Nat.lt_of_le_of_lt (Nat.add_le_add_right h2 m) h1⟩
theorem k74_uu : (2 : Nat) ^ K74 = UU * 2 ^ 40 := by rw [show K74 = E34 + 40 from by rw [k74, e34], Nat.pow_add, uu_eq]
theorem q_div {x : FV} {z : Int} (h : IsI x z) : IsQ (fdiv x P40) z := by
  obtain ⟨b, s, m, i, rfl, hb, hr, hi, hv⟩ := h
  have hk := k74
  have ha := sg_abs hv
  have e : fdiv (some b) P40 = some (Ieee.double.write (.number (s ^^ false) (2 * (m <<< (54 + (4503599627370496 : Nat).log2 - m.log2) / 4503599627370496) + (m <<< (54 + (4503599627370496 : Nat).log2 - m.log2) % 4503599627370496 != 0).toNat) (i - (-12) - ((54 + (4503599627370496 : Nat).log2 - m.log2 : Nat) : Int) - 1))) := by
    show ((Ieee.double.read b).quotient (Ieee.double.fractionBits + 2) (Ieee.double.read 4787326403894837248)).map Ieee.double.write = _
    rw [hr, read_p40]
    simp only [Datum.quotient, if_neg (show ¬ (4503599627370496 : Nat) = 0 by decide)]; rfl
  rw [e]
  have hlg : (4503599627370496 : Nat).log2 = 52 := by decide +kernel
  rw [hlg]
  by_cases hm0 : m = 0
  · subst hm0
    have hz : z = 0 := by
      rw [Nat.zero_mul] at ha
      rcases Nat.mul_eq_zero.1 ha.symm with h | h
      · omega
      · exact absurd h two_ne
    subst hz
    have e2 : ∀ k, 2 * (0 <<< k / 4503599627370496) + (0 <<< k % 4503599627370496 != 0).toNat = 0 := by intro k; simp
    rw [e2]
    have := q_int (isI_nought (s := s ^^ false) (p := i - (-12) - ((54 + 52 - Nat.log2 0 : Nat) : Int) - 1))
    simpa using this
  · rcases read_form hr with ⟨h, _⟩ | hc
    · exact absurd h hm0
    have hlt := hc.lt
    have hz0 : z.natAbs ≠ 0 := by
      intro h
      rw [h, Nat.zero_mul] at ha
      rcases Nat.mul_eq_zero.1 ha with h | h
      · exact hm0 h
      · exact absurd h two_ne
    have hi53 : -53 ≤ i := by
      apply Classical.byContradiction
      intro hn
      have h1 : m * 2 ^ (i + K74).toNat < 2 ^ 53 * 2 ^ (i + K74).toNat := Nat.mul_lt_mul_of_pos_right (by omega) (Nat.two_pow_pos _)
      rw [← Nat.pow_add] at h1
      have h2 : (2 : Nat) ^ (53 + (i + K74).toNat) ≤ 2 ^ K74 := Nat.pow_le_pow_right (by decide) (by omega)
      have h3 : 1 * 2 ^ K74 ≤ z.natAbs * 2 ^ K74 := Nat.mul_le_mul_right _ (by omega)
      omega
    have hnm : 4503599627370496 ≤ m := by
      rcases hc.norm with h | h
      · exact h
      · omega
    have hml : m.log2 = 52 := by
      refine Nat.le_antisymm ?_ ((Nat.le_log2 hm0).2 hnm)
      exact Nat.le_of_lt_succ ((Nat.log2_lt hm0).2 hlt)
    rw [hml]
    have e3 : m <<< (54 + 52 - 52) = (m * 4) * 4503599627370496 := by rw [Nat.shiftLeft_eq]; omega
    rw [e3, Nat.mul_div_cancel _ (by decide), Nat.mul_mod_left]
    have e4 : 2 * (m * 4) + ((0 : Nat) != 0).toNat = m <<< 3 := by rw [Nat.shiftLeft_eq]; simp; omega
    have e5 : i - (-12) - ((54 + 52 - 52 : Nat) : Int) - 1 = (i - 40) - ((3 : Nat) : Int) := by
      show i - (-12) - ((54 : Nat) : Int) - 1 = _
      omega
    rw [e4, e5]
    have hc2 : Canon m (i - 40) := canon_sub hc hnm (by clear hv ha; omega)
    have e6 := near_canon (s ^^ false) hc2 3
    show IsQ (some (Ieee.double.nearest (s ^^ false) (m <<< 3) ((i - 40) - ((3 : Nat) : Int)))) z
    rw [e6]
    have hf := hc2.fin
    refine q_of_sg (word_parts _ (by clear hv ha; omega)).2.2 (read_word _ hc2) (by clear hv ha; omega) ?_
    have e7 : (i + K74).toNat = (i - 40 + K74).toNat + 40 := by clear hv ha; omega
    rw [e7, sg_shift] at hv
    have e8 : ((2 ^ K74 : Nat) : Int) = (UU : Int) * ((2 ^ 40 : Nat) : Int) := by rw [k74_uu, Int.natCast_mul]
    rw [e8, ← Int.mul_assoc] at hv
    have := Int.eq_of_mul_eq_mul_right (by decide) hv
    rw [Bool.xor_false]
    exact this
theorem one_isI : IsI ONE 1 := by
  have : fint 1 = ONE := by decide +kernel
  rw [← this]; exact isI_int (by decide)
theorem onen_isI : IsI ONEN (-1) := by
  have : fint (-1) = ONEN := by decide +kernel
  rw [← this]; exact isI_int (by decide)
theorem lo_isI : IsI (some 13965043853221167104) (-1000000000) := by
  have : fint (-1000000000) = some 13965043853221167104 := by decide +kernel
  rw [← this]; exact isI_int (by decide)
theorem hi_isI : IsI (some 4741671816366391296) 1000000000 := by
  have : fint 1000000000 = some 4741671816366391296 := by decide +kernel
  rw [← this]; exact isI_int (by decide)
theorem near_q {x : FV} {q : Int} (h : IsQ x q) (hb : q.natAbs ≤ 1099511627776000000000) : nearF x = true := by
  unfold nearF
  rw [q_ge h (q_int lo_isI), q_le h (q_int hi_isI)]
  rw [decide_eq_true (by omega), decide_eq_true (by omega)]; rfl
theorem near_i {x : FV} {q : Int} (h : IsI x q) (hb : q.natAbs ≤ 1000000000) : nearF x = true := near_q (q_int h) (by omega)
theorem pz_isI {x : FV} {z : Int} (h : IsI x z) : IsI (pzF x) z := by
  unfold pzF
  rw [isI_eq h isI_zero]
  by_cases hz : z = 0
  · subst hz; exact isI_zero
  · rw [decide_eq_false hz]; exact h
def zsum (z : Nat → Int) : Nat → Int
  | 0 => 0
  | k + 1 => zsum z k + z k
theorem zsum_bd {z : Nat → Int} : ∀ {k : Nat}, (∀ j, j < k → (z j).natAbs ≤ 1000) → (zsum z k).natAbs ≤ 1000 * k
  | 0, _ => by simp [zsum]
  | k + 1, h => by
    have h1 := zsum_bd (z := z) (k := k) (fun j hj => h j (by omega))
    have h2 := h k (by omega)
    simp only [zsum]; omega
theorem zsum_congr {y z : Nat → Int} : ∀ {k : Nat}, (∀ j, j < k → y j = z j) → zsum y k = zsum z k
  | 0, _ => rfl
  | k + 1, h => by rw [zsum, zsum, zsum_congr (fun j hj => h j (by omega)), h k (by omega)]
theorem fold_isI {f : Nat → FV} {z : Nat → Int} : ∀ {k : Nat}, k ≤ 1000 → (∀ j, j < k → IsI (f j) (z j) ∧ (z j).natAbs ≤ 1000) → IsI (foldTo f k).1 (zsum z k) ∧ IsI (foldTo f k).2 0
  | 0, _, _ => ⟨isI_zero, isI_zero⟩
  | k + 1, hk, h => by
    obtain ⟨h1, h2⟩ := fold_isI (f := f) (z := z) (k := k) (by omega) (fun j hj => h j (by omega))
    obtain ⟨h3, h4⟩ := h k (by omega)
    have hb := zsum_bd (z := z) (k := k) (fun j hj => (h j (by omega)).2)
    have hs := isI_add h1 h3 (by omega)
    refine ⟨hs, ?_⟩
    show IsI (fadd _ (if _ then _ else _)) 0
    have key : ∀ {u w : FV} {p q : Int}, IsI u p → IsI w q → p + q = zsum z k + z k → q.natAbs ≤ 1000000 → IsI (fadd (fsub u (fadd (foldTo f k).1 (f k))) w) 0 := by
      intro u w p q hu hw hpq hq
      have g1 := isI_sub hu hs (by omega)
      have g2 := isI_add g1 hw (by omega)
      rwa [show p - (zsum z k + z k) + q = 0 by omega] at g2
    have hE : IsI (if fGe (fabs (foldTo f k).1) (fabs (f k)) = true then fadd (fsub (foldTo f k).1 (fadd (foldTo f k).1 (f k))) (f k) else fadd (fsub (f k) (fadd (foldTo f k).1 (f k))) (foldTo f k).1) 0 := by
      split
      · exact key h1 h3 rfl (by omega)
      · exact key h3 h1 (Int.add_comm _ _) (by omega)
    have := isI_add h2 hE (by decide)
    simpa using this
theorem val_isI {f : Nat → FV} {z : Nat → Int} {k : Nat} (hk : k ≤ 1000) (h : ∀ j, j < k → IsI (f j) (z j) ∧ (z j).natAbs ≤ 1000) : IsI (pzF (valS (foldTo f k))) (zsum z k) := by
  obtain ⟨h1, h2⟩ := fold_isI hk h
  have hb := zsum_bd (z := z) (k := k) (fun j hj => (h j hj).2)
  have := isI_add h1 h2 (by omega)
  rw [Int.add_zero] at this
  exact pz_isI this
def reZ (i : Nat) : Int := if i = 0 then 1 else if i = 4 then -1 else 0
def imZ (i : Nat) : Int := if i = 2 then 1 else if i = 6 then -1 else 0
theorem even8 {i : Nat} (h : i < 8) (h2 : i % 2 = 0) : i = 0 ∨ i = 2 ∨ i = 4 ∨ i = 6 := by omega
theorem reT_isI {i : Nat} (h : i < 8) (h2 : i % 2 = 0) : IsI (reT i) (reZ i) ∧ (reZ i).natAbs ≤ 1 := by
  rcases even8 h h2 with rfl | rfl | rfl | rfl
  · exact ⟨one_isI, by decide⟩
  · exact ⟨isI_zero, by decide⟩
  · exact ⟨onen_isI, by decide⟩
  · exact ⟨isI_zero, by decide⟩
theorem imT_isI {i : Nat} (h : i < 8) (h2 : i % 2 = 0) : IsI (imT i) (imZ i) ∧ (imZ i).natAbs ≤ 1 := by
  rcases even8 h h2 with rfl | rfl | rfl | rfl
  · exact ⟨isI_zero, by decide⟩
  · exact ⟨one_isI, by decide⟩
  · exact ⟨isI_zero, by decide⟩
  · exact ⟨onen_isI, by decide⟩
theorem mul_bd {a b : Int} (ha : a.natAbs ≤ 1000) (hb : b.natAbs ≤ 1) : (a * b).natAbs ≤ 1000 := by
  rw [Int.natAbs_mul]
  have := Nat.mul_le_mul ha hb
  omega
theorem rh_isI {x : List FV} {z : Nat → Int} {j : Nat} (hj : j % 2 = 0) (hn : x.length ≤ 1000) (h : ∀ k, k < x.length → IsI (x.getD k (some 0)) (z k) ∧ (z k).natAbs ≤ 1000) :
    IsI (rhF x j).1 (zsum (fun k => z k * reZ (j * k % 8)) x.length) ∧ IsI (rhF x j).2 (zsum (fun k => z k * imZ (j * k % 8)) x.length) := by
  have hev : ∀ k, j * k % 8 < 8 ∧ j * k % 8 % 2 = 0 := fun k => by
    refine ⟨Nat.mod_lt _ (by decide), ?_⟩
    have : j * k % 2 = 0 := by rw [Nat.mul_mod, hj, Nat.zero_mul]
    omega
  constructor
  · refine val_isI hn fun k hk => ?_
    obtain ⟨h1, h2⟩ := h k hk
    obtain ⟨h3, h4⟩ := reT_isI (hev k).1 (hev k).2
    have hb := mul_bd h2 h4
    exact ⟨isI_mul h1 h3 (by omega), hb⟩
  · refine val_isI hn fun k hk => ?_
    obtain ⟨h1, h2⟩ := h k hk
    obtain ⟨h3, h4⟩ := imT_isI (hev k).1 (hev k).2
    have hb := mul_bd h2 h4
    exact ⟨isI_mul h1 h3 (by omega), hb⟩
/-! ### The law's numbers -/
def pkI (l : List Int) (i : Nat) : Int := ((pick (l.getD i 0) 2001 : Nat) : Int) - 1000
def xL (l : List Int) (k : Nat) : List FV := (List.range k).map fun i => fint (pkI l i)
def xQ (l : List Int) (k : Nat) : List FV := (List.range l.length).map fun i => if i < k then fdiv (fint (pkI l i)) P40 else fint (pkI l i)
def zL (l : List Int) : List Int := (List.range l.length).map (pkI l)
theorem pkI_bd (l : List Int) (i : Nat) : (pkI l i).natAbs ≤ 1000 := by
  unfold pkI
  have : pick (l.getD i 0) 2001 < 2001 := pick_lt _ (by decide)
  omega
theorem xL_len (l : List Int) (k : Nat) : (xL l k).length = k := by simp [xL]
theorem xQ_len (l : List Int) (k : Nat) : (xQ l k).length = l.length := by simp [xQ]
theorem zL_len (l : List Int) : (zL l).length = l.length := by simp [zL]
theorem xL_succ (l : List Int) (k : Nat) : xL l k ++ [fint (pkI l k)] = xL l (k + 1) := by simp [xL, List.range_succ]
theorem xL_get {l : List Int} {k i : Nat} (h : i < k) : (xL l k).getD i (some 0) = fint (pkI l i) := by simp [xL, h]
theorem xQ_zero (l : List Int) : xQ l 0 = xL l l.length := by simp [xQ, xL]
theorem xQ_get {l : List Int} {k : Nat} (h : k < l.length) : (xQ l k).getD k (some 0) = fint (pkI l k) := by simp [xQ, h]
theorem xQ_set {l : List Int} {k : Nat} (h : k < l.length) : (xQ l k).set k (fdiv (fint (pkI l k)) P40) = xQ l (k + 1) := by
  refine List.ext_getElem (by simp [xQ]) fun i h1 h2 => ?_
  rw [List.getElem_set]
  simp only [xQ, List.getElem_map, List.getElem_range]
  by_cases e : k = i
  · subst e; rw [if_pos rfl, if_pos (by omega)]
  · rw [if_neg e]
    by_cases e2 : i < k
    · rw [if_pos e2, if_pos (by omega)]
    · rw [if_neg e2, if_neg (by omega)]
theorem pk_isI (l : List Int) (i : Nat) : IsI (fint (pkI l i)) (pkI l i) := isI_int (by have := pkI_bd l i; omega)
theorem xL_near {l : List Int} (hl : l.length ≤ 400) : sumE (xL l l.length) = 0 := by
  refine sum_0 (by rw [xL_len]; omega) fun j hj => ?_
  rw [xL_len] at hj
  rw [xL_get hj]
  exact near_i (pk_isI l j) (by have := pkI_bd l j; omega)
def sgn0 (i : Nat) : Int := 1 - 2 * ((i % 2 : Nat) : Int)
def sgn1 (i : Nat) : Int := ([1, 0, -1, 0] : List Int).getD (i % 4) 0
def sgn2 (i : Nat) : Int := ([0, 1, 0, -1] : List Int).getD (i % 4) 0
def tS (l : List Int) (g : Nat → Int) (k : Nat) : Int := zsum (fun i => pkI l i * g i) k
def sS (l : List Int) (k : Nat) : Int := zsum (pkI l) k
theorem sS_succ (l : List Int) (k : Nat) : sS l (k + 1) = sS l k + pkI l k := rfl
theorem sgn_bd (i : Nat) : (sgn0 i).natAbs ≤ 1 ∧ (sgn1 i).natAbs ≤ 1 ∧ (sgn2 i).natAbs ≤ 1 := by
  have h : i % 4 = 0 ∨ i % 4 = 1 ∨ i % 4 = 2 ∨ i % 4 = 3 := by omega
  refine ⟨by unfold sgn0; omega, ?_, ?_⟩
  · unfold sgn1; rcases h with h | h | h | h <;> rw [h] <;> decide
  · unfold sgn2; rcases h with h | h | h | h <;> rw [h] <;> decide
theorem tS_bd {l : List Int} {g : Nat → Int} (hg : ∀ i, (g i).natAbs ≤ 1) (k : Nat) : (tS l g k).natAbs ≤ 1000 * k := zsum_bd fun j _ => mul_bd (pkI_bd l j) (hg j)
theorem sS_bd (l : List Int) (k : Nat) : (sS l k).natAbs ≤ 1000 * k := zsum_bd fun j _ => pkI_bd l j
theorem rh_law {l : List Int} (hl : l.length ≤ 400) :
    (IsI (rhF (xL l l.length) 0).1 (sS l l.length) ∧ IsI (rhF (xL l l.length) 0).2 0) ∧ (IsI (rhF (xL l l.length) 4).1 (tS l sgn0 l.length) ∧ IsI (rhF (xL l l.length) 4).2 0) ∧ (IsI (rhF (xL l l.length) 2).1 (tS l sgn1 l.length) ∧ IsI (rhF (xL l l.length) 2).2 (tS l sgn2 l.length)) := by
  have hx : ∀ k, k < (xL l l.length).length → IsI ((xL l l.length).getD k (some 0)) (pkI l k) ∧ (pkI l k).natAbs ≤ 1000 := fun k hk => by
    rw [xL_len] at hk
    rw [xL_get hk]; exact ⟨pk_isI l k, pkI_bd l k⟩
  have hn : (xL l l.length).length ≤ 1000 := by rw [xL_len]; omega
  have hz : ∀ k, zsum (fun _ => 0) k = 0 := fun k => by induction k with
    | zero => rfl
    | succ k ih => rw [zsum, ih]; rfl
  obtain ⟨a1, a2⟩ := rh_isI (j := 0) rfl hn hx
  obtain ⟨b1, b2⟩ := rh_isI (j := 4) rfl hn hx
  obtain ⟨c1, c2⟩ := rh_isI (j := 2) rfl hn hx
  rw [xL_len] at a1 a2 b1 b2 c1 c2
  have m2 : ∀ i : Nat, (i % 2 = 0 ∧ 4 * i % 8 = 0) ∨ (i % 2 = 1 ∧ 4 * i % 8 = 4) := fun i => by omega
  have m4 : ∀ i : Nat, (i % 4 = 0 ∧ 2 * i % 8 = 0) ∨ (i % 4 = 1 ∧ 2 * i % 8 = 2) ∨ (i % 4 = 2 ∧ 2 * i % 8 = 4) ∨ (i % 4 = 3 ∧ 2 * i % 8 = 6) := fun i => by omega
  refine ⟨⟨?_, ?_⟩, ⟨?_, ?_⟩, ⟨?_, ?_⟩⟩
  · have e : zsum (fun k => pkI l k * reZ (0 * k % 8)) l.length = sS l l.length := zsum_congr fun j _ => by simp [reZ]
    rw [e] at a1; exact a1
  · have e : zsum (fun k => pkI l k * imZ (0 * k % 8)) l.length = zsum (fun _ => 0) l.length := zsum_congr fun j _ => by simp [imZ]
    rw [e, hz] at a2; exact a2
  · have e : zsum (fun k => pkI l k * reZ (4 * k % 8)) l.length = tS l sgn0 l.length := zsum_congr fun j _ => by
      rcases m2 j with ⟨h, h'⟩ | ⟨h, h'⟩ <;> rw [h'] <;> unfold sgn0 <;> rw [h] <;> rfl
    rw [e] at b1; exact b1
  · have e : zsum (fun k => pkI l k * imZ (4 * k % 8)) l.length = zsum (fun _ => 0) l.length := zsum_congr fun j _ => by
      rcases m2 j with ⟨h, h'⟩ | ⟨h, h'⟩ <;> rw [h'] <;> exact Int.mul_zero _
    rw [e, hz] at b2; exact b2
  · have e : zsum (fun k => pkI l k * reZ (2 * k % 8)) l.length = tS l sgn1 l.length := zsum_congr fun j _ => by
      rcases m4 j with ⟨h, h'⟩ | ⟨h, h'⟩ | ⟨h, h'⟩ | ⟨h, h'⟩ <;> rw [h'] <;> unfold sgn1 <;> rw [h] <;> rfl
    rw [e] at c1; exact c1
  · have e : zsum (fun k => pkI l k * imZ (2 * k % 8)) l.length = tS l sgn2 l.length := zsum_congr fun j _ => by
      rcases m4 j with ⟨h, h'⟩ | ⟨h, h'⟩ | ⟨h, h'⟩ | ⟨h, h'⟩ <;> rw [h'] <;> unfold sgn2 <;> rw [h] <;> rfl
    rw [e] at c2; exact c2
/-! ### The great number -/
theorem zL_sum (l : List Int) : (zL l).sum = sS l l.length := by
  have : ∀ k, ((List.range k).map (pkI l)).sum = sS l k := fun k => by
    induction k with
    | zero => rfl
    | succ k ih => rw [List.range_succ, List.map_append, List.sum_append, ih, sS_succ]; simp
  exact this _
def QL (xs : List FV) (zs : List Int) : Prop := xs.length = zs.length ∧ (∀ j, j < xs.length → IsQ (xs.getD j (some 0)) (zs.getD j 0)) ∧ ∀ z ∈ zs, z.natAbs ≤ 1000
theorem QL.take {xs : List FV} {zs : List Int} (h : QL xs zs) (k : Nat) : QL (xs.take k) (zs.take k) := by
  obtain ⟨h1, h2, h3⟩ := h
  refine ⟨by simp [h1], fun j hj => ?_, fun z hz => h3 z (List.mem_of_mem_take hz)⟩
  simp only [List.length_take] at hj
  have := h2 j (by omega)
  simp only [List.getD_eq_getElem?_getD] at this ⊢
  rw [List.getElem?_take_of_lt (by omega), List.getElem?_take_of_lt (by omega)]
  exact this
theorem QL.drop {xs : List FV} {zs : List Int} (h : QL xs zs) (k : Nat) : QL (xs.drop k) (zs.drop k) := by
  obtain ⟨h1, h2, h3⟩ := h
  refine ⟨by simp [h1], fun j hj => ?_, fun z hz => h3 z (List.mem_of_mem_drop hz)⟩
  simp only [List.length_drop] at hj
  have := h2 (k + j) (by omega)
  simp only [List.getD_eq_getElem?_getD] at this ⊢
  rw [List.getElem?_drop, List.getElem?_drop]
  exact this
theorem goes {l1 l2 l3 : List FV} {z1 z2 z3 : List Int} {c d : FV} {C : Int} (h1 : QL l1 z1) (h2 : QL l2 z2) (h3 : QL l3 z3) (hn : l1.length + l2.length + l3.length ≤ 400) (hc : IsQ c C) (hd : IsQ d (-C)) (hC : C.natAbs ≤ 1099511627776000000000) :
    IsQ (added (l1 ++ c :: (l2 ++ d :: l3))) (z1.sum + z2.sum + z3.sum) :=
  great_goes hc hd hC h1.1 h2.1 h3.1 hn h1.2.1 h2.2.1 h3.2.1 h1.2.2 h2.2.2 h3.2.2
theorem take_drop_sum (zs : List Int) (i : Nat) : (zs.take i).sum + (zs.drop i).sum = zs.sum := by
  rw [← List.sum_append, List.take_append_drop]
theorem great_law {xs : List FV} {zs : List Int} {b nb : FV} {B : Int} (h : QL xs zs) (hn : xs.length ≤ 400) (hb : IsQ b B) (hnb : IsQ nb (-B)) (hB : B.natAbs ≤ 1099511627776000000000) (i j : Nat) (hi : i ≤ xs.length) (hj : j ≤ xs.length + 1) :
    IsQ (added ((xs.take i ++ b :: xs.drop i).take j ++ nb :: (xs.take i ++ b :: xs.drop i).drop j)) zs.sum := by
  have hl := h.1
  by_cases hji : j ≤ i
  · have e1 : (xs.take i ++ b :: xs.drop i).take j = xs.take j := by
      rw [List.take_append_of_le_length (by simp; omega), List.take_take, Nat.min_eq_left hji]
    have e2 : (xs.take i ++ b :: xs.drop i).drop j = (xs.take i).drop j ++ b :: xs.drop i := List.drop_append_of_le_length (by simp; omega)
    rw [e1, e2]
    have := goes (h.take j) ((h.take i).drop j) (h.drop i) (by simp; omega) hnb (by rw [Int.neg_neg]; exact hb) (by omega)
    have e3 : (zs.take j).sum + ((zs.take i).drop j).sum + (zs.drop i).sum = zs.sum := by
      rw [← take_drop_sum zs i, ← take_drop_sum (zs.take i) j, List.take_take, Nat.min_eq_left hji]
    rw [e3] at this
    exact this
  · have hlen : (xs.take i).length = i := by simp; omega
    obtain ⟨k, hk⟩ : ∃ k, j = i + (k + 1) := ⟨j - i - 1, by omega⟩
    have e1 : (xs.take i ++ b :: xs.drop i).take j = xs.take i ++ b :: (xs.drop i).take k := by
      rw [hk, List.take_append, hlen, show i + (k + 1) - i = k + 1 by omega, List.take_succ_cons, List.take_of_length_le (by rw [hlen]; omega)]
    have e2 : (xs.take i ++ b :: xs.drop i).drop j = (xs.drop i).drop k := by
      rw [hk, List.drop_append, hlen, show i + (k + 1) - i = k + 1 by omega, List.drop_succ_cons, List.drop_of_length_le (by rw [hlen]; omega), List.nil_append]
    rw [e1, e2, List.append_assoc, List.cons_append]
    have := goes (h.take i) ((h.drop i).take k) ((h.drop i).drop k) (by simp; omega) hb hnb hB
    have e3 : (zs.take i).sum + ((zs.drop i).take k).sum + ((zs.drop i).drop k).sum = zs.sum := by
      have a := take_drop_sum zs i
      have b := take_drop_sum (zs.drop i) k
      omega
    rw [e3] at this
    exact this
theorem QL_law (l : List Int) : QL (xQ l l.length) (zL l) := by
  refine ⟨by rw [xQ_len, zL_len], fun j hj => ?_, fun z hz => ?_⟩
  · rw [xQ_len] at hj
    have e1 : (xQ l l.length).getD j (some 0) = fdiv (fint (pkI l j)) P40 := by simp [xQ, hj]
    have e2 : (zL l).getD j 0 = pkI l j := by simp [zL, hj]
    rw [e1, e2]
    exact q_div (pk_isI l j)
  · obtain ⟨i, _, rfl⟩ := List.mem_map.1 hz
    exact pkI_bd l i
def yL (l : List Int) (b : FV) (i : Nat) : List FV := (xQ l l.length).take i ++ b :: (xQ l l.length).drop i
def zzL (l : List Int) (b nb : FV) (i j : Nat) : List FV := (yL l b i).take j ++ nb :: (yL l b i).drop j
theorem yL_len {l : List Int} {b : FV} {i : Nat} (h : i ≤ l.length) : (yL l b i).length = l.length + 1 := by simp [yL, xQ_len]; omega
theorem zzL_len {l : List Int} {b nb : FV} {i j : Nat} (h : i ≤ l.length) (hj : j ≤ l.length + 1) : (zzL l b nb i j).length = l.length + 2 := by simp [zzL, yL_len h]; omega
theorem near_all {l : List Int} (hl : l.length ≤ 400) {b nb : FV} {B : Int} (hb : IsI b B) (hnb : IsI nb (-B)) (hB : B.natAbs ≤ 1000000000) {i j : Nat} (hi : i ≤ l.length) (hj : j ≤ l.length + 1) : sumE (zzL l b nb i j) = 0 := by
  refine sum_0 (by rw [zzL_len hi hj]; omega) fun k hk => ?_
  have hmem : (zzL l b nb i j).getD k (some 0) ∈ zzL l b nb i j := by
    rw [List.getD_eq_getElem?_getD, List.getElem?_eq_getElem hk]; exact List.getElem_mem hk
  generalize (zzL l b nb i j).getD k (some 0) = x at hmem
  have hx : ∀ x ∈ xQ l l.length, nearF x = true := fun x hx => by
    obtain ⟨t, ht, rfl⟩ := List.mem_map.1 hx
    rw [if_pos (List.mem_range.1 ht)]
    exact near_q (q_div (pk_isI l t)) (by have := pkI_bd l t; omega)
  have hy : ∀ x ∈ yL l b i, nearF x = true := fun x hx' => by
    rcases List.mem_append.1 hx' with h | h
    · exact hx x (List.mem_of_mem_take h)
    · rcases List.mem_cons.1 h with rfl | h
      · exact near_i hb (by omega)
      · exact hx x (List.mem_of_mem_drop h)
  rcases List.mem_append.1 hmem with h | h
  · exact hy x (List.mem_of_mem_take h)
  · rcases List.mem_cons.1 h with rfl | h
    · exact near_i hnb (by omega)
    · exact hy x (List.mem_of_mem_drop h)
theorem sum_law {l : List Int} (hl : l.length ≤ 400) {b nb : FV} {B : Int} (hb : IsI b B) (hnb : IsI nb (-B)) (hB : B.natAbs ≤ 1000000000) {i j : Nat} (hi : i ≤ l.length) (hj : j ≤ l.length + 1) :
    fEq (added (zzL l b nb i j)) (fdiv (fint (sS l l.length)) P40) = true := by
  have h1 := great_law (QL_law l) (by rw [xQ_len]; omega) (q_int hb) (by rw [← Int.neg_mul]; exact q_int hnb) (by omega) i j (by rw [xQ_len]; exact hi) (by rw [xQ_len]; exact hj)
  rw [zL_sum] at h1
  exact q_eq h1 (q_div (isI_int (by have := sS_bd l l.length; omega)))
end Go.KL

/- Complex numbers held against each other; rows that are lent to what only reads them. -/
namespace Go.KL
open Go.RowKit
def cxNe (c e : CV) : Bool := !(fEq c.1 e.1 && fEq c.2 e.2)
section
variable {P : Program} {d : Option Tmp} {ty : TypeId} {pos : String} {af : Array Edge} {g : Option (Nat × Bool)} {a : Act} {σ : GW} {t u : TypeId} {x y : Operand} {c e : CV}
theorem y_cxne (hx : At (.cx c) σ a x) (hy : At (.cx e) σ a y) : Yld P ⟨d, .binOp .neq t x y u, ty, pos, af, g⟩ a σ (Ty.bool (cxNe c e)).pr := by
  obtain ⟨ba, bb, e1, la, lb, ca, cb⟩ := hx
  obtain ⟨bc, bd, e2, lc, ld, cc, cd⟩ := hy
  refine Yld.of_run (v := .bool (!(Ieee.double.order ba bc == some .eq && Ieee.double.order bb bd == some .eq))) ?_ (by rw [ord_cn, ord_cn, ca, cb, cc, cd]; rfl)
  simp only [execOp, e1, e2]
  simp [go_sem, eqGuard, FloatKind.format]
def AnyW (T : Ty) : Prop := ∀ (σ τ : GW) v, T.has σ v → T.has τ v
theorem agg_any {ts : List Ty} (h : ∀ T ∈ ts, AnyW T) : AnyW (Ty.agg ts) := fun _ _ _ ⟨cs, e, hl, hc⟩ => ⟨cs, e, hl, fun j T u hj hu => h T (List.mem_of_getElem? hj) _ _ _ (hc j T u hj hu)⟩
theorem tup2_any {T U : Ty} (h : AnyW T) (h' : AnyW U) : AnyW (Ty.tup2 T U) := fun _ _ _ ⟨x, y, e, a, b⟩ => ⟨x, y, e, h _ _ _ a, h' _ _ _ b⟩
theorem cx_any {c : CV} : AnyW (Ty.cx c) := fun _ _ _ h => h
theorem int_any {z : Int} : AnyW (Ty.int z) := fun _ _ _ h => h
theorem cx2_any {c0 c1 c2 c3 c4 c5 c6 c7 : CV} {z : Int} : AnyW (Ty.tup2 (Ty.agg [Ty.cx c0, Ty.cx c1, Ty.cx c2, Ty.cx c3, Ty.cx c4, Ty.cx c5, Ty.cx c6, Ty.cx c7]) (Ty.int z)) :=
  tup2_any (agg_any fun T hT => by
    simp only [List.mem_cons, List.not_mem_nil, or_false] at hT
    rcases hT with rfl | rfl | rfl | rfl | rfl | rfl | rfl | rfl <;> exact cx_any) int_any
end
section
variable {P : Program} {d : Option Tmp} {ty : TypeId} {pos : String} {af : Array Edge} {g : Option (Nat × Bool)} {a : Act} {σ : GW}
theorem y_calll {f : FuncId} {fn : Func} {x : Operand} {tys : Array TypeId} {k : Nat} {v : Value} {T R : Ty} (hR : ∀ σ τ v, R.has σ v → R.has τ v) (hs0 : ∃ σ' : GW, σ'.w = σ.w ∧ Stp k σ σ' ∧ T.has σ' v) (hx : a.eval x = v)
    (hf : P.funcs[f]? = some fn) (hn : (fn.name == "runtime.NumGoroutine") = false) (hb : fn.body.isNone = false) (hc : ∀ σ : GW, T.has σ v → FnC P f #[v] σ R) :
    Yld P ⟨d, .call ⟨.value (.func f), #[x], tys⟩, ty, pos, af, g⟩ a σ R.pr := by
  intro K Q hk'
  have hr : (execOp a.eval ⟨d, .call ⟨.value (.func f), #[x], tys⟩, ty, pos, af, g⟩).run P σ.w = .ok (.enter f #[v]) σ.w := by
    have hn' : ¬ fn.name = "runtime.NumGoroutine" := by simpa using hn
    have hb' : ¬ fn.body = none := by intro e; simp [e] at hb
    simp only [execOp, resolve, List.map_toArray, List.map_cons, List.map_nil, hx]
    simp [Act.eval, Deferred.ofValue, invoke, callFunc, hf, hn', hb', program, Sem.run, Sem.run_bind]
  unfold Oper.wp
  rw [hr]
  obtain ⟨σ', hw, hs, hT⟩ := hs0
  have hcc := hc σ' hT
  unfold FnC at hcc
  rw [hw] at hcc
  refine Calls.mono hcc ?_
  rintro e' w' ⟨v', τ, rfl, hs2, rfl, hRv⟩
  have hlt : ∀ b, b < σ.w.heap.size → b < τ.w.heap.size := fun b hb => Nat.lt_of_lt_of_le hb (by have := hs2.size; rw [hw] at this; exact this)
  let ρ : GW := ⟨τ.w, fun b => if b < σ.w.heap.size then σ.st b else τ.st b, fun b hb => by
    by_cases hb2 : b < σ.w.heap.size
    · exact hlt b hb2
    · simp only [hb2, if_false] at hb; exact τ.lt b hb⟩
  have hst : Stp 0 σ ρ := ⟨by rw [show ρ.w = τ.w from rfl, hs2.os, hw], by rw [show ρ.w = τ.w from rfl, hs2.tape, hw], by rw [show ρ.w = τ.w from rfl, hs2.output, hw], by have := hs2.dr; rw [hw] at this; exact this, by have := hs2.size; rw [hw] at this; exact this,
    fun b hb _ => by have := hs2.blk b (by rw [hw]; exact hb) (.inl rfl); rw [hw] at this; exact this, fun b hb _ => by show (if b < σ.w.heap.size then σ.st b else τ.st b) = σ.st b; rw [if_pos hb]⟩
  exact hk' v' ρ hst (hR _ _ _ hRv)
end
section
variable {P : Program} {d : Option Tmp} {ty : TypeId} {pos : String} {af : Array Edge} {g : Option (Nat × Bool)} {a : Act} {σ : GW}
theorem y_build4i {x y u w : Operand} {t e : TypeId} {T U V W : Ty} {z : Value} {b : Nat} (ht : P.underlying t = some (.slice e)) (he : Info P e z 1 b) (hz : z.cells.size = 1) (oT : One T) (oU : One U) (oV : One V) (oW : One W) (hx : At T σ a x) (hy : At U σ a y) (hu : At V σ a u) (hw : At W σ a w) :
    Yld P ⟨d, .buildSlice t 4 #[(0, x), (1, y), (2, u), (3, w)], ty, pos, af, g⟩ a σ (Ty.sl 1 4 [T, U, V, W]).pr := by
  intro K Q hk
  have h1 := cells_of_one (oT _ _ hx)
  have h2 := cells_of_one (oU _ _ hy)
  have h3 := cells_of_one (oV _ _ hu)
  have h4 := cells_of_one (oW _ _ hw)
  have hr : (execOp a.eval ⟨d, .buildSlice t 4 #[(0, x), (1, y), (2, u), (3, w)], ty, pos, af, g⟩).run P σ.w = .ok (.value (.slice (some ⟨σ.w.heap.size, 0, none⟩) 4 4)) (σ.w.alloc (.cells #[a.eval x, a.eval y, a.eval u, a.eval w] e)) := by
    simp only [execOp, List.map_toArray, List.map_cons, List.map_nil]
    generalize a.eval x = v at h1 ⊢
    generalize a.eval y = v' at h2 ⊢
    generalize a.eval u = v'' at h3 ⊢
    generalize a.eval w = v3 at h4 ⊢
    have hr : Array.range 4 = #[0, 1, 2, 3] := rfl
    simp [Instr.buildSlice, run_underlying ht, he.size, he.zero, Instr.fill, h1, h2, h3, h4, hz, newRow, newObj, Sem.run, Sem.run_bind, hr]
  unfold Oper.wp
  rw [hr]
  refine hk _ (σ.seal (.cells #[a.eval x, a.eval y, a.eval u, a.eval w] e)) (Stp.seal _ _) ⟨_, 4, σ.w.heap.size, 0, rfl, ⟨Nat.le_refl _, by decide⟩, rfl, .inr ⟨rfl, by simp [GW.seal]⟩, fun j X hj => ?_⟩
  match j, hj with
  | 0, hj =>
    simp at hj; subst hj
    refine ⟨a.eval x, ?_, T.up (Stp.seal _ _).le0 hx⟩
    show World.cell? (σ.w.alloc _) _ = _
    simp only [World.cell?, heap_alloc_new]
    rfl
  | 1, hj =>
    simp at hj; subst hj
    refine ⟨a.eval y, ?_, U.up (Stp.seal _ _).le0 hy⟩
    show World.cell? (σ.w.alloc _) _ = _
    simp only [World.cell?, heap_alloc_new]
    rfl
  | 2, hj =>
    simp at hj; subst hj
    refine ⟨a.eval u, ?_, V.up (Stp.seal _ _).le0 hu⟩
    show World.cell? (σ.w.alloc _) _ = _
    simp only [World.cell?, heap_alloc_new]
    rfl
  | 3, hj =>
    simp at hj; subst hj
    refine ⟨a.eval w, ?_, W.up (Stp.seal _ _).le0 hw⟩
    show World.cell? (σ.w.alloc _) _ = _
    simp only [World.cell?, heap_alloc_new]
    rfl
theorem y_lit3 {k : Nat} {x y u : Operand} {t e : TypeId} {T U V : Ty} {z : Value} {b : Nat} (ht : P.underlying t = some (.slice e)) (he : Info P e z 1 b) (hz : z.cells.size = 1) (oT : One T) (oU : One U) (oV : One V) (hx : At T σ a x) (hy : At U σ a y) (hu : At V σ a u) :
    Yld P ⟨d, .buildSlice t 3 #[(0, x), (1, y), (2, u)], ty, pos, af, g⟩ a σ (Pr.own k e 1 3 [T, U, V]) := by
  have h1 := cells_of_one (oT _ _ hx)
  have h2 := cells_of_one (oU _ _ hy)
  have h3 := cells_of_one (oV _ _ hu)
  intro K Q hk
  have hr : (execOp a.eval ⟨d, .buildSlice t 3 #[(0, x), (1, y), (2, u)], ty, pos, af, g⟩).run P σ.w = .ok (.value (.slice (some ⟨σ.w.heap.size, 0, none⟩) 3 3)) (σ.w.alloc (.cells #[a.eval x, a.eval y, a.eval u] e)) := by
    simp only [execOp, List.map_toArray, List.map_cons, List.map_nil]
    generalize a.eval x = v at h1 ⊢
    generalize a.eval y = v' at h2 ⊢
    generalize a.eval u = v'' at h3 ⊢
    have hr : Array.range 3 = #[0, 1, 2] := rfl
    simp [Instr.buildSlice, run_underlying ht, he.size, he.zero, Instr.fill, h1, h2, h3, hz, newRow, newObj, Sem.run, Sem.run_bind, hr]
  unfold Oper.wp
  rw [hr]
  refine hk _ (σ.mk' k (.cells #[a.eval x, a.eval y, a.eval u] e)) (Stp.mk' σ k _) (Own.intro (us := [a.eval x, a.eval y, a.eval u]) (heap_alloc_new σ.w _) (by show (if _ = _ then k else _) = k; rw [if_pos rfl]) (Nat.le_refl _) (by decide) rfl rfl rfl (fun j W w hW hw => ?_))
  match j, hW, hw with
  | 0, hW, hw => simp at hW hw; subst hW; subst hw; exact T.up (Stp.mk' σ k _).le0 hx
  | 1, hW, hw => simp at hW hw; subst hW; subst hw; exact U.up (Stp.mk' σ k _).le0 hy
  | 2, hW, hw => simp at hW hw; subst hW; subst hw; exact V.up (Stp.mk' σ k _).le0 hu
end
end Go.KL

/- A float's negation, whichever it is. -/
namespace Go.KL
open Ieee
theorem neg_parts {b : Nat} (h : b < 18446744073709551616) : Op.negFloat .f64 b < 18446744073709551616 ∧ Op.negFloat .f64 b % 9223372036854775808 = b % 9223372036854775808 ∧ (Op.negFloat .f64 b / 9223372036854775808 % 2 == 1) = !(b / 9223372036854775808 % 2 == 1) := by
  have e : Op.negFloat .f64 b = b ^^^ 2 ^ 63 := rfl
  have e1 : (b ^^^ 2 ^ 63) % 2 ^ 63 = b % 2 ^ 63 := by rw [Nat.xor_mod_two_pow, Nat.mod_self, Nat.xor_zero]
  have e2 : (b ^^^ 2 ^ 63) / 2 ^ 63 = (b / 2 ^ 63) ^^^ 1 := by rw [Nat.xor_div_two_pow, Nat.div_self (by decide)]
  have h1 : b / 2 ^ 63 = 0 ∨ b / 2 ^ 63 = 1 := by omega
  rw [e]
  have p63 : (2 : Nat) ^ 63 = 9223372036854775808 := by decide
  rw [p63] at e1 e2 h1 ⊢
  refine ⟨?_, e1, ?_⟩
  · have h2 := Nat.div_add_mod (b ^^^ 9223372036854775808) 9223372036854775808
    have h3 := Nat.mod_lt (b ^^^ 9223372036854775808) (show 0 < 9223372036854775808 by decide)
    rw [e2] at h2
    rcases h1 with h1 | h1 <;> rw [h1] at h2
    · have : (0 ^^^ 1 : Nat) = 1 := by decide
      rw [this] at h2; omega
    · have : (1 ^^^ 1 : Nat) = 0 := by decide
      rw [this] at h2; omega
  · rw [e2]
    rcases h1 with h1 | h1 <;> rw [h1] <;> decide
theorem neg_read {b : Nat} (h : b < 18446744073709551616) : Ieee.double.read (Op.negFloat .f64 b) = (Ieee.double.read b).opposite := by
  obtain ⟨_, h1, h2⟩ := neg_parts h
  rw [read_eq, read_eq, h1, h2]
  split
  · rfl
  · split
    · rfl
    · split <;> rfl
def fnegV (x : FV) : FV := x.map (Op.negFloat .f64)
theorem neg_cn {b : Nat} (h : b < 18446744073709551616) : cn (Op.negFloat .f64 b) = fnegV (cn b) := by
  unfold cn
  rw [neg_read h, opp_nan]
  split <;> rfl
section
variable {P : Program} {d : Option Tmp} {ty : TypeId} {pos : String} {af : Array Edge} {g : Option (Nat × Bool)} {a : Act} {σ : GW} {t : TypeId} {x : Operand} {p : FV}
theorem y_fnegV (hx : At (.flt p) σ a x) : Yld P ⟨d, .unOp .neg t x, ty, pos, af, g⟩ a σ (Ty.flt (fnegV p)).pr := by
  obtain ⟨ba, e, la, rfl⟩ := hx
  exact Yld.of_run (v := .float .f64 (Op.negFloat .f64 ba)) (by simp only [execOp, e]; rfl) ⟨_, rfl, (neg_parts la).1, neg_cn la⟩
end
theorem isI_neg {x : FV} {z : Int} (h : IsI x z) : IsI (fnegV x) (-z) := by
  obtain ⟨b, s, m, i, rfl, hb, hr, hi, hv⟩ := h
  refine ⟨_, !s, m, i, rfl, (neg_parts hb).1, by rw [neg_read hb, hr]; rfl, hi, ?_⟩
  rw [sg_not, hv, Int.neg_mul]
theorem cx_same {c : CV} {p q : FV} {z w : Int} (h1 : IsI c.1 z) (h2 : IsI c.2 w) (h3 : IsI p z) (h4 : IsI q w) : cxNe c (p, q) = false := by
  unfold cxNe
  rw [isI_eq h1 h3, isI_eq h2 h4]
  simp
theorem top_rh {l : List Int} (hl : l.length ≤ 400) : cxNe (rhF (xL l l.length) 0) (fint (sS l l.length), some 0) = false ∧ cxNe (rhF (xL l l.length) 4) (fint (tS l sgn0 l.length), some 0) = false ∧ cxNe (rhF (xL l l.length) 2) (fint (tS l sgn1 l.length), fint (tS l sgn2 l.length)) = false := by
  obtain ⟨⟨a1, a2⟩, ⟨b1, b2⟩, ⟨c1, c2⟩⟩ := rh_law hl
  have hs := sS_bd l l.length
  have h0 := tS_bd (l := l) (g := sgn0) (fun i => (sgn_bd i).1) l.length
  have h1 := tS_bd (l := l) (g := sgn1) (fun i => (sgn_bd i).2.1) l.length
  have h2 := tS_bd (l := l) (g := sgn2) (fun i => (sgn_bd i).2.2) l.length
  exact ⟨cx_same a1 a2 (isI_int (by omega)) isI_zero, cx_same b1 b2 (isI_int (by omega)) isI_zero, cx_same c1 c2 (isI_int (by omega)) (isI_int (by omega))⟩
theorem top_sum {l : List Int} (hl : l.length ≤ 400) {B : Nat} (hB : B ≤ 1000000000) {i j : Nat} (hi : i ≤ l.length) (hj : j ≤ l.length + 1) :
    sumE (zzL l (fint (B : Int)) (fnegV (fint (B : Int))) i j) = 0 ∧ fEq (added (zzL l (fint (B : Int)) (fnegV (fint (B : Int))) i j)) (fdiv (fint (sS l l.length)) P40) = true := by
  have hb : IsI (fint (B : Int)) (B : Int) := isI_int (by omega)
  have hnb := isI_neg hb
  exact ⟨near_all hl hb hnb (by omega) hi hj, sum_law hl hb hnb (by omega) hi hj⟩
end Go.KL

/- A region in whatever order, one operation of which writes: the others neither read nor write what it writes. -/
namespace Go.KL
open Go.RowKit
variable {P : Program}

def Ty.any : Ty := ⟨fun _ _ => True, fun _ h => h⟩

structure Mid3 (p d N : Nat) (D : List Deferred) (W : List Nat) (B : Pr) (ops : Array Oper) (Φ : Nat → Ty) (a0 : Act) (σ0 : GW) (L : Nat → Bool) (a : Act) (σ : GW) : Prop where
  stp : StpL W σ0 σ
  stp0 : L p = false → Stp 0 σ0 σ
  ok : Ok N D a
  done : ∀ j, L j = true → j ≠ p → rd ops (fun i => (Φ i).pr) j a σ
  donep : L p = true → B.has σ (a.eval (.tmp d))
  same : ∀ t, (∀ j, dstOf ops j = some t → L j = false) → a.eval (.tmp t) = a0.eval (.tmp t)

def Obl3 (P : Program) (N : Nat) (D : List Deferred) (W : List Nat) (ops : Array Oper) (Φ : Nat → Ty) (a0 : Act) (σ0 : GW) (i : Nat) (o : Oper) : Prop :=
  ∀ a σ, StpL W σ0 σ → Ok N D a → (∀ t, free ops i t = true → a.eval (.tmp t) = a0.eval (.tmp t)) → Deps ops (fun i => (Φ i).pr) a σ o.after.toList (Run P ops o a σ (Φ i).pr)
def OblW (P : Program) (N : Nat) (D : List Deferred) (W : List Nat) (B : Pr) (ops : Array Oper) (Φ : Nat → Ty) (a0 : Act) (σ0 : GW) (i : Nat) (o : Oper) : Prop :=
  ∀ a σ, Stp 0 σ0 σ → Ok N D a → (∀ t, free ops i t = true → a.eval (.tmp t) = a0.eval (.tmp t)) → Deps ops (fun i => (Φ i).pr) a σ o.after.toList (YldL W P o a σ (fun v τ => B.has τ v))
def Obls3 (P : Program) (p N : Nat) (D : List Deferred) (W : List Nat) (B : Pr) (ops : Array Oper) (Φ : Nat → Ty) (a0 : Act) (σ0 : GW) : Nat → List Oper → Prop
  | _, [] => True
  | i, o :: l => (if i = p then OblW P N D W B ops Φ a0 σ0 i o else Obl3 P N D W ops Φ a0 σ0 i o) ∧ Obls3 P p N D W B ops Φ a0 σ0 (i + 1) l
theorem Obls3.get {p N : Nat} {D : List Deferred} {W : List Nat} {B : Pr} {ops : Array Oper} {Φ : Nat → Ty} {a0 : Act} {σ0 : GW} : ∀ (l : List Oper) (k : Nat), Obls3 P p N D W B ops Φ a0 σ0 k l → ∀ j o, l[j]? = some o → (if k + j = p then OblW P N D W B ops Φ a0 σ0 (k + j) o else Obl3 P N D W ops Φ a0 σ0 (k + j) o)
  | [], _, _, j, o, h => by simp at h
  | x :: l, k, h, 0, o, hj => by simp at hj; subst hj; exact h.1
  | x :: l, k, h, j + 1, o, hj => by
    have := Obls3.get l (k + 1) h.2 j o (by simpa using hj)
    rwa [show k + 1 + j = k + (j + 1) by omega] at this
theorem Obls3.up {p N : Nat} {D : List Deferred} {W : List Nat} {B : Pr} {ops : Array Oper} {Φ : Nat → Ty} {a0 : Act} {σ0 σ1 : GW} (hs : Stp 0 σ0 σ1) : ∀ (l : List Oper) (k : Nat), Obls3 P p N D W B ops Φ a0 σ0 k l → Obls3 P p N D W B ops Φ a0 σ1 k l
  | [], _, _ => trivial
  | x :: l, k, h => by
    refine ⟨?_, Obls3.up hs l (k + 1) h.2⟩
    have h1 := h.1
    split at h1
    · rename_i e; rw [if_pos e]; exact fun a σ hs' => h1 a σ (hs.trans hs')
    · rename_i e; rw [if_neg e]; exact fun a σ hs' => h1 a σ (hs.toL0.trans hs')

theorem Mid3.op {p d N : Nat} {D : List Deferred} {W : List Nat} {B : Pr} {ops : Array Oper} {Φ : Nat → Ty} {a0 : Act} {σ0 : GW} {L : Nat → Bool} {a : Act} {σ : GW} {i : Nat} {o : Oper} {Q : Exit → Act → World → Prop} {K : Act → World → Prop}
    (hF : Form N ops) (h1 : 1 ∉ W) (hp : dstOf ops p = some d) (hΦ : ∀ e v, (Φ p).has e v) (hpg : ∀ o, ops[p]? = some o → o.guard = none) (hm : Mid3 p d N D W B ops Φ a0 σ0 L a σ) (ho : ops[i]? = some o) (hL : L i = false)
    (hob : if i = p then OblW P N D W B ops Φ a0 σ0 i o else Obl3 P N D W ops Φ a0 σ0 i o)
    (hall : ∀ e ∈ o.after, Region.binds .any e = true → L e.on = true) (hclosed : ∀ (j : Nat) oj, ops[j]? = some oj → L j = true → ∀ e ∈ oj.after, Region.binds .any e = true → L e.on = true)
    (hK : ∀ a' σ', Mid3 p d N D W B ops Φ a0 σ0 (fun j => L j || j == i) a' σ' → K a' σ'.w) : wpOp P ops Q i K a σ.w := by
  have hdi : dstOf ops i = o.dst := by simp [dstOf, ho]
  have hsame : ∀ t, free ops i t = true → a.eval (.tmp t) = a0.eval (.tmp t) := by
    intro t ht
    refine hm.same t fun j hj => ?_
    cases hLj : L j with
    | false => rfl
    | true =>
      exfalso
      unfold dstOf at hj
      obtain ⟨oj, hoj, hd⟩ := Option.bind_eq_some_iff.1 hj
      unfold free at ht
      have := (List.all_eq_true.1 ht) oj (List.mem_of_getElem? hoj)
      simp only [hd, bne_self_eq_false, Bool.false_or, List.any_eq_true, Bool.and_eq_true, beq_iff_eq] at this
      obtain ⟨e, he, hb, hon⟩ := this
      have := hclosed j oj (by simpa using hoj) hLj e (by simpa using he) hb
      rw [hon, hL] at this
      cases this
  have hdeps : ∀ e ∈ o.after.toList, Region.binds .any e = true → rd ops (fun i => (Φ i).pr) e.on a σ := fun e he hb => by
    by_cases hep : e.on = p
    · rw [hep]; unfold rd; rw [hp]; exact hΦ _ _
    · exact hm.done e.on (hall e (by simpa using he) hb) hep
  -- whatever step of whichever kind: what holds behind it
  have done' : ∀ v (τ : GW), σ.Le τ → (i ≠ p → (Φ i).has τ v) → ∀ j, (L j || j == i) = true → j ≠ p → rd ops (fun i => (Φ i).pr) j (a.put o.dst v) τ := by
    intro v τ hle hv j hLj hjp
    by_cases hji : j = i
    · subst hji
      unfold rd
      cases hd : dstOf ops j with
      | none => trivial
      | some d =>
        have : o.dst = some d := by rw [← hdi]; exact hd
        simp only [this]
        rw [eval_put_same hm.ok (hF.lt j d hd)]
        exact hv hjp
    · have hLj' : L j = true := by simpa [hji] using hLj
      have h0 := hm.done j hLj' hjp
      unfold rd at h0 ⊢
      cases hd : dstOf ops j with
      | none => trivial
      | some d =>
        rw [hd] at h0
        simp only at h0 ⊢
        rw [eval_put_ne (fun he => hji (hF.uniq j i d hd (by rw [hdi]; exact he)))]
        exact (Φ j).up hle h0
  have same' : ∀ v t, (∀ j, dstOf ops j = some t → (L j || j == i) = false) → (a.put o.dst v).eval (.tmp t) = a0.eval (.tmp t) := by
    intro v t ht
    have h1 : o.dst ≠ some t := fun he => by
      have := ht i (by rw [hdi]; exact he)
      simp at this
    rw [eval_put_ne h1]
    exact hm.same t fun j hj => by
      have := ht j hj
      simp at this
      exact this.1
  by_cases hip : i = p
  · subst hip
    rw [if_pos rfl] at hob
    have hy := Deps.elim o.after.toList hdeps (hob a σ (hm.stp0 hL) hm.ok hsame)
    unfold wpOp
    simp only [ho]
    have hw : Region.wanted o (yielded ops a.tmps) = true := by simp [Region.wanted, hpg o ho]
    rw [if_pos hw]
    refine .inl (hy K Q fun v τ hs hr => hK _ τ ⟨hm.stp.trans hs, fun h => (by simp at h), hm.ok.put _ _, done' v τ (hs.le h1) (fun h => absurd rfl h), fun _ => ?_, same' v⟩)
    have : o.dst = some d := by rw [← hdi]; exact hp
    rw [this, eval_put_same hm.ok (hF.lt i d hp)]
    exact hr
  · rw [if_neg hip] at hob
    have hrun := Deps.elim o.after.toList hdeps (hob a σ hm.stp hm.ok hsame)
    have next : ∀ v τ, Stp 0 σ τ → (Φ i).has τ v → K (a.put o.dst v) τ.w := by
      intro v τ hs hv
      refine hK _ τ ⟨hm.stp.trans hs.toL0, fun h => ?_, hm.ok.put _ _, done' v τ hs.le0 (fun _ => hv), fun h => ?_, same' v⟩
      · simp at h; exact (hm.stp0 h.1).trans hs
      · have hLp : L p = true := by simpa [Ne.symm hip] using h
        rw [eval_put_ne (fun he => hip (hF.uniq i p d (by rw [hdi]; exact he) hp))]
        exact B.up hs (hm.donep hLp)
    unfold wpOp
    simp only [ho]
    by_cases hw : Region.wanted o (yielded ops a.tmps) = true
    · rw [if_pos hw]
      exact .inl (hrun.1 hw K Q next)
    · rw [if_neg hw]
      exact next undef σ (Stp.refl _ _) (hrun.2 (by simpa using hw))

structure Half3 (m d N : Nat) (D : List Deferred) (W : List Nat) (B : Pr) (ops : Array Oper) (Φ : Nat → Ty) (a0 : Act) (σ0 : GW) (a : Act) (σ : GW) : Prop where
  stp : StpL W σ0 σ
  ok : Ok N D a
  done : ∀ j, j < m → rd ops (fun i => (Φ i).pr) j a σ
  donep : B.has σ (a.eval (.tmp d))
  same : ∀ t, ((ops.toList.take m).all fun o => o.dst != some t) = true → a.eval (.tmp t) = a0.eval (.tmp t)

theorem Mid3.half {m p d N : Nat} {D : List Deferred} {W : List Nat} {B : Pr} {ops : Array Oper} {Φ : Nat → Ty} {a0 : Act} {σ0 : GW} {a : Act} {σ : GW} (h : Mid3 p d N D W B ops Φ a0 σ0 (fun j => decide (j < m)) a σ) (hpm : p < m) (hp : dstOf ops p = some d) (hΦ : ∀ e v, (Φ p).has e v) : Half3 m d N D W B ops Φ a0 σ0 a σ := by
  refine ⟨h.stp, h.ok, fun j hj => ?_, h.donep (by simpa using hpm), fun t ht => h.same t fun j hj => ?_⟩
  · by_cases hjp : j = p
    · rw [hjp]; unfold rd; rw [hp]; exact hΦ _ _
    · exact h.done j (by simpa using hj) hjp
  · by_cases hjm : j < m
    · obtain ⟨o, ho, hd⟩ := Option.bind_eq_some_iff.1 hj
      have := (List.all_eq_true.1 ht) o (List.mem_of_getElem? (i := j) (by rw [List.getElem?_take, if_pos hjm]; exact ho))
      simp [hd] at this
    · simpa using hjm

theorem Half3.kt {m d N : Nat} {D : List Deferred} {W : List Nat} {B : Pr} {ops : Array Oper} {Φ : Nat → Ty} {a0 a : Act} {σ0 σ : GW} {T : Ty} {t : Nat} (h : Half3 m d N D W B ops Φ a0 σ0 a σ) (h1 : 1 ∉ W) (k : T.has σ0 (a0.eval (.tmp t))) (ht : ((ops.toList.take m).all fun o => o.dst != some t) = true) : T.has σ (a.eval (.tmp t)) := by
  rw [h.same t ht]; exact T.up (h.stp.le h1) k
end Go.KL

/- Plain maths: calls and touches. -/
namespace Go.KL
abbrev BCall := Int × List (List Int)
/-! ### Which calls may be -/
/-! ### The changes of a lead -/
/-! ### The rows of a touch -/
section
variable {nm : ByteArray} {n : Nat} {l : List (List Int)} {cs : List BCall} {leads : List Int}
end
/-! ### Which touches may be -/
end Go.KL

/- Closures over one variable; slices.Grow of nothing; cuts of rows of structs. -/
namespace Go.KL
open Go.RowKit
variable {P : Program} {d : Option Tmp} {ty : TypeId} {pos : String} {af : Array Edge} {g : Option (Nat × Bool)} {a : Act} {σ : GW}
def Ty.clo (f : FuncId) (ts : List Ty) : Ty := ⟨fun σ v => ∃ p, v = .func (.func f) #[] #[p] ∧ (Ty.ref ts).has σ p, fun h ⟨p, e, hp⟩ => ⟨p, e, Ty.up _ h hp⟩⟩
theorem y_clo {f : FuncId} {ts : List Ty} {x : Operand} (hx : At (.ref ts) σ a x) : Yld P ⟨d, .makeFunc (.func f) #[] #[x], ty, pos, af, g⟩ a σ (Ty.clo f ts).pr :=
  Yld.of_run (v := .func (.func f) #[] #[a.eval x]) (by simp [execOp, Instr.makeFunc, Sem.run_bind]) ⟨_, rfl, hx⟩
/-! ### slices.Grow of nothing -/
/-! ### Cuts of rows of structs -/
/-! ### Signs of calls -/
end Go.KL

/- Plain maths: is a touch true? -/
namespace Go.KL
end Go.KL
namespace Go.KL
end Go.KL

/- Plain maths: names by their runes. -/
namespace Go.KL
end Go.KL

/- Literals of structs in rows of one's own. -/
namespace Go.KL
open Go.RowKit
variable {P : Program} {d : Option Tmp} {ty : TypeId} {pos : String} {af : Array Edge} {g : Option (Nat × Bool)} {a : Act} {σ : GW}
end Go.KL

/- Structs that are built of structs; 'append' of what is owned. -/
namespace Go.KL
open Go.RowKit
variable {P : Program}
theorem Own.src {σ : GW} {k : Nat} {e : TypeId} {c : Nat} {v : Value} {n : Nat} {ts : List Ty} (h : Own σ k e c v n ts) : ∃ ad cap b o, v = .slice ad n cap ∧ ts.length = n * c ∧ (ts = [] ∨ ad = some (⟨b, o, none⟩ : Addr)) ∧ Cells σ b o ts := by
  have hl := h.len
  obtain ⟨us, h1, h2, h3, h4⟩ := h
  rcases h1.2 with ⟨rfl, rfl⟩ | ⟨g, cap, cur, rfl, _⟩
  · have : ts = [] := List.eq_nil_of_length_eq_zero (by omega)
    subst this
    exact ⟨none, 0, 0, 0, rfl, by simp, .inl rfl, fun j T hj => by simp at hj⟩
  · refine ⟨_, cap, g, 0, rfl, hl, .inr rfl, fun j T hj => ?_⟩
    have hlt := (List.getElem?_eq_some_iff.1 hj).1
    have hu : us[j]? = some us[j] := by simp [show j < us.length by omega]
    refine ⟨us[j], ?_, h3 j T _ hj hu⟩
    have := h1.cells (g := g) rfl j _ hu
    rwa [Addr.add_lit] at this
variable {d : Option Tmp} {ty : TypeId} {pos : String} {af : Array Edge} {g : Option (Nat × Bool)} {a : Act} {σ : GW}
/-! ### Structs of structs -/
end Go.KL

/- Arrays that lie in a struct, or in a variable: loaded whole, handed back. -/
namespace Go.KL
open Go.RowKit
section
variable {P : Program}
theorem run_loadVarA {t : TypeId} {nA : Nat} {eA : TypeId} {z : Value} {c by_ : Nat} (ht : P.underlying t = some (.array nA eA)) (he : Info P t z c by_) {w : World} {ad : Addr} {us : List Value} (hl : us.length = c) (h : ∀ j u, us[j]? = some u → w.cell? (ad.add j) = some u) :
    (loadVar t ad).run P w = .ok (.agg us.toArray) w := by
  have hagg : (isAgg t).run P w = .ok true w := by
    unfold isAgg
    rw [Sem.run_bind, run_underlying ht w]
    simp
  have hc := run_loadCellsFrom (P := P) us 0 #[] (fun j u hj => by rw [Nat.zero_add]; exact h j u hj)
  rw [hl] at hc
  simp [loadVar, Sem.run_bind, hagg, he.size, loadCells, hc]
end
section
variable {P : Program} {d : Option Tmp} {ty : TypeId} {pos : String} {af : Array Edge} {g : Option (Nat × Bool)} {a : Act} {σ : GW}
theorem ownp_loadaggA {k : Nat} {x : Operand} {ts : List Ty} {t : TypeId} {nA : Nat} {eA : TypeId} {z v : Value} {by_ : Nat} (ht : P.underlying t = some (.array nA eA)) (he : Info P t z ts.length by_) (h : OwnP σ k v ts) (hx : a.eval x = v) :
    Yld P ⟨d, .load t x, ty, pos, af, g⟩ a σ (Ty.agg ts).pr := by
  obtain ⟨gg, e', cur, rfl, h2, h3, h4, h5⟩ := h
  refine Yld.of_run (v := .agg cur) ?_ ⟨cur, rfl, h4, h5⟩
  simp only [execOp, hx]
  have := run_loadVarA (P := P) ht he (w := σ.w) (ad := ⟨gg, 0, none⟩) (us := cur.toList) (by simp [h4]) (fun j u hj => by
    rw [Addr.add_lit, Nat.zero_add]
    simp at hj
    simp [World.cell?, h3, hj])
  simp [Instr.loadAt, Instr.sureAddr, this]
theorem ownp_loadsubA {k o n : Nat} {x : Operand} {ts : List Ty} {t : TypeId} {nA : Nat} {eA : TypeId} {z v : Value} {by_ : Nat} (ht : P.underlying t = some (.array nA eA)) (he : Info P t z n by_) (hl : o + n ≤ ts.length) (h : OwnP σ k v ts) (hx : a.eval x = ptrAt v o) :
    Yld P ⟨d, .load t x, ty, pos, af, g⟩ a σ (Ty.agg ((ts.drop o).take n)).pr := by
  obtain ⟨gg, e', cur, rfl, h2, h3, h4, h5⟩ := h
  have hx' : a.eval x = .pointer (some ⟨gg, o, none⟩) := hx
  have hlen : ((cur.toList.drop o).take n).length = n := by rw [List.length_take, List.length_drop, Array.length_toList]; omega
  have hget : ∀ j, j < n → ((cur.toList.drop o).take n)[j]? = cur[o + j]? := fun j hj => by rw [List.getElem?_take_of_lt hj, List.getElem?_drop]; simp
  refine Yld.of_run (v := .agg ((cur.toList.drop o).take n).toArray) ?_ ⟨_, rfl, ?_, fun j T u hj hu => ?_⟩
  · simp only [execOp, hx']
    have := run_loadVarA (P := P) ht he (w := σ.w) (ad := ⟨gg, o, none⟩) (us := (cur.toList.drop o).take n) hlen (fun j u hj => by
      have hlt : j < n := by have := (List.getElem?_eq_some_iff.1 hj).1; omega
      rw [hget j hlt] at hj
      rw [Addr.add_lit]
      simp [World.cell?, h3, hj])
    simp [Instr.loadAt, Instr.sureAddr, this]
  · simp only [List.size_toArray, hlen]; rw [List.length_take, List.length_drop]; omega
  · have hlt : j < n := by have := (List.getElem?_eq_some_iff.1 hj).1; rw [List.length_take] at this; omega
    rw [List.getElem?_take_of_lt hlt, List.getElem?_drop] at hj
    have hu2 : ((cur.toList.drop o).take n)[j]? = some u := by simpa using hu
    rw [hget j hlt] at hu2
    exact h5 _ T u hj hu2
end
section
variable {P : Program} {fn : Func} {σ0 σ : GW} {a : Act} {N d e f : Nat} {D : List Deferred} {L : List Nat} {R : Value → GW → Prop}
theorem run_cellA {t k : Nat} {T : TypeId} {nA : Nat} {eA : TypeId} {z : Value} {by_ : Nat} {ts : List Ty} (hT : P.underlying T = some (.array nA eA)) (he : Info P T z ts.length by_) (h : OwnP σ k (a.eval (.tmp t)) ts) :
    ∃ ad cur, a.tmps.getD t undef = .pointer (some ad) ∧ (loadVar T ad).run P σ.w = .ok (.agg cur) σ.w ∧ (Ty.agg ts).has σ (.agg cur) := by
  obtain ⟨gg, e', cur, e1, h2, h3, h4, h5⟩ := h
  have hl := run_loadVarA (P := P) hT he (w := σ.w) (ad := ⟨gg, 0, none⟩) (us := cur.toList) (by simp [h4]) (fun j u hj => by
    rw [Addr.add_lit, Nat.zero_add]
    simp at hj
    simp [World.cell?, h3, hj])
  exact ⟨_, cur, e1, by simpa using hl, cur, rfl, h4, h5⟩
theorem retL1cA {t k : Nat} {T : TypeId} {nA : Nat} {eA : TypeId} {z : Value} {by_ : Nat} {ts : List Ty} (hr : fn.results = #[.cell t T]) (ok : Ok N [] a) (hF : FromL L σ0 σ) (hT : P.underlying T = some (.array nA eA)) (he : Info P T z ts.length by_) (h : OwnP σ k (a.eval (.tmp t)) ts)
    (hR : ∀ v, (Ty.agg ts).has σ v → R v σ) : bodyPost P fn (RetL σ0 L R) .ret a σ.w := by
  obtain ⟨ad, cur, e2, hl, hv⟩ := run_cellA hT he h
  refine bodyPost_ret (v := .agg cur) ?_ ok.defers ⟨_, σ, rfl, hF, rfl, hR _ hv⟩
  have e3 : a.tmps[t]?.getD undef = .pointer (some ad) := by rw [← e2, Array.getD_eq_getD_getElem?]
  simp [results, hr, e3, asAddr, hl]
theorem retL2cA {t k : Nat} {T : TypeId} {nA : Nat} {eA : TypeId} {z : Value} {by_ : Nat} {ts : List Ty} (hr : fn.results = #[.cell t T, .tmp e]) (ok : Ok N [] a) (hF : FromL L σ0 σ) (hT : P.underlying T = some (.array nA eA)) (he : Info P T z ts.length by_) (h : OwnP σ k (a.eval (.tmp t)) ts)
    (hR : ∀ v, (Ty.agg ts).has σ v → R (.tuple #[v, a.eval (.tmp e)]) σ) : bodyPost P fn (RetL σ0 L R) .ret a σ.w := by
  obtain ⟨ad, cur, e2, hl, hv⟩ := run_cellA hT he h
  refine bodyPost_ret (v := .tuple #[.agg cur, a.eval (.tmp e)]) ?_ ok.defers ⟨_, σ, rfl, hF, rfl, hR _ hv⟩
  have e3 : a.tmps[t]?.getD undef = .pointer (some ad) := by rw [← e2, Array.getD_eq_getD_getElem?]
  simp [results, hr, e3, asAddr, hl, Act.eval]
end
end Go.KL

