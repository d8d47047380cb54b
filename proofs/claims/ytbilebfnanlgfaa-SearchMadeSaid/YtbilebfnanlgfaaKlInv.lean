/- Plain maths: a change twice is none; its parity. -/
import Derived.Test.YtbilebfnanlgfaaKlChg
namespace Go.KL

theorem gd_cons0 (x : Int) (l : List Int) : (x :: l).getD 0 0 = x := rfl
theorem gd_consS (x : Int) (l : List Int) (j : Nat) : (x :: l).getD (j + 1) 0 = l.getD j 0 := rfl
def ups (i : Nat) (l : List Int) : Nat := (List.range l.length).countP fun j => decide (((j + i : Nat) : Int) < l.getD j 0)
theorem ups_nil (i : Nat) : ups i [] = 0 := rfl
theorem ups_cons (i : Nat) (x : Int) (l : List Int) : ups i (x :: l) = (if (i : Int) < x then 1 else 0) + ups (i + 1) l := by
  unfold ups
  rw [List.length_cons, List.range_succ_eq_map, List.countP_cons, List.countP_map]
  have : ((fun j => decide (((j + i : Nat) : Int) < (x :: l).getD j 0)) ∘ Nat.succ) = fun j => decide (((j + (i + 1) : Nat) : Int) < l.getD j 0) := by
    funext j; simp only [Function.comp, Nat.succ_eq_add_one, gd_consS]; congr 2; omega
  rw [this, gd_cons0]
  simp only [Nat.zero_add, decide_eq_true_eq]
  omega

structure Piece (i : Nat) (n : Nat) (r : List Int) : Prop where
  len : r.length = n - i
  bd : ∀ j, i ≤ j → j < n → (i : Int) ≤ r.getD (j - i) 0 ∧ r.getD (j - i) 0 < n
  inv : ∀ j, i ≤ j → j < n → r.getD ((r.getD (j - i) 0).toNat - i) 0 = j
theorem Piece.one {i n : Nat} {r : List Int} (h : Piece (i + 1) n r) (hi : i < n) : Piece i n ((i : Int) :: r) := by
  refine ⟨by rw [List.length_cons, h.len]; omega, fun j h1 h2 => ?_, fun j h1 h2 => ?_⟩
  · by_cases e : j = i
    · subst e; rw [Nat.sub_self, gd_cons0]; omega
    · obtain ⟨d, rfl⟩ : ∃ d, j = i + 1 + d := ⟨j - (i + 1), by omega⟩
      have := h.bd (i + 1 + d) (by omega) h2
      rw [show i + 1 + d - (i + 1) = d by omega] at this
      rw [show i + 1 + d - i = d + 1 by omega, gd_consS]; omega
  · by_cases e : j = i
    · subst e; rw [Nat.sub_self, gd_cons0, Int.toNat_natCast, Nat.sub_self, gd_cons0]
    · obtain ⟨d, rfl⟩ : ∃ d, j = i + 1 + d := ⟨j - (i + 1), by omega⟩
      have hb := h.bd (i + 1 + d) (by omega) h2
      have hv := h.inv (i + 1 + d) (by omega) h2
      rw [show i + 1 + d - (i + 1) = d by omega] at hb hv
      rw [show i + 1 + d - i = d + 1 by omega, gd_consS]
      rw [show (r.getD d 0).toNat - i = ((r.getD d 0).toNat - (i + 1)) + 1 by omega, gd_consS, hv]
theorem Piece.two {i n : Nat} {r : List Int} (h : Piece (i + 2) n r) (hi : i + 2 ≤ n) : Piece i n (((i : Int) + 1) :: (i : Int) :: r) := by
  refine ⟨by rw [List.length_cons, List.length_cons, h.len]; omega, fun j h1 h2 => ?_, fun j h1 h2 => ?_⟩
  · by_cases e : j = i
    · subst e; rw [Nat.sub_self, gd_cons0]; omega
    · by_cases e2 : j = i + 1
      · subst e2; rw [show i + 1 - i = 1 by omega, gd_consS, gd_cons0]; omega
      · obtain ⟨d, rfl⟩ : ∃ d, j = i + 2 + d := ⟨j - (i + 2), by omega⟩
        have := h.bd (i + 2 + d) (by omega) h2
        rw [show i + 2 + d - (i + 2) = d by omega] at this
        rw [show i + 2 + d - i = d + 1 + 1 by omega, gd_consS, gd_consS]; omega
  · by_cases e : j = i
    · subst e; rw [Nat.sub_self, gd_cons0, show ((j : Int) + 1).toNat - j = 1 by omega, gd_consS, gd_cons0]
    · by_cases e2 : j = i + 1
      · subst e2; rw [show i + 1 - i = 1 by omega, gd_consS, gd_cons0, Int.toNat_natCast, Nat.sub_self, gd_cons0]; omega
      · obtain ⟨d, rfl⟩ : ∃ d, j = i + 2 + d := ⟨j - (i + 2), by omega⟩
        have hb := h.bd (i + 2 + d) (by omega) h2
        have hv := h.inv (i + 2 + d) (by omega) h2
        rw [show i + 2 + d - (i + 2) = d by omega] at hb hv
        rw [show i + 2 + d - i = d + 1 + 1 by omega, gd_consS, gd_consS]
        rw [show (r.getD d 0).toNat - i = ((r.getD d 0).toNat - (i + 2)) + 1 + 1 by omega, gd_consS, gd_consS, hv]
theorem Piece.end' (n : Nat) : Piece n n [] := ⟨by simp, fun j h1 h2 => by omega, fun j h1 h2 => by omega⟩
theorem rowF_piece {n : Nat} {l : List Int} : ∀ (f i : Nat) (L : List Int), okL i L n → (∀ x, (i : Int) < x → (x ∈ l ↔ x ∈ L)) → n ≤ f + i → i ≤ n → Piece i n (rowF l n f i) ∧ n - i = 2 * ups i (rowF l n f i) + L.length := by
  intro f
  induction f with
  | zero =>
    intro i L ho hm hf hi
    have e : i = n := by omega
    subst e
    have hL : L = [] := by
      cases L with
      | nil => rfl
      | cons p L => have := ho.1; have := ho.2.1; omega
    subst hL
    rw [rowF, ups_nil]; exact ⟨Piece.end' i, by simp⟩
  | succ f ih =>
    intro i L ho hm hf hi
    by_cases hn : n ≤ i
    · have e : i = n := by omega
      subst e
      have hL : L = [] := by
        cases L with
        | nil => rfl
        | cons p L => have := ho.1; have := ho.2.1; omega
      subst hL
      rw [rowF_end (Nat.le_refl _), ups_nil]; exact ⟨Piece.end' i, by simp⟩
    · by_cases hc : ((i : Int) + 1) ∈ l
      · have hL := (hm _ (by omega)).1 hc
        cases L with
        | nil => simp at hL
        | cons p L =>
          obtain ⟨h1, h2, h3, h4⟩ := ho
          have e : p = (i : Int) + 1 := by
            rcases List.mem_cons.1 hL with e | hm2
            · exact e.symm
            · have := (okL_lt h4 _ hm2).1; omega
          subst e
          have := ih (i + 1) L (by simpa using h4) (fun x hx => by
            rw [hm x (by omega), List.mem_cons]
            exact ⟨fun h => h.resolve_left (by omega), .inr⟩) (by omega) (by omega)
          rw [rowF, if_neg hn, if_pos hc, ups_cons, if_neg (by omega), List.length_cons]
          exact ⟨this.1.one (by omega), by omega⟩
      · have h2 := AtC.no ⟨L, ho, hm⟩ (by omega) hc
        have ho2 : okL ((i + 2 : Nat) : Int) L n := by
          cases L with
          | nil => obtain ⟨h3, h4⟩ := ho; exact ⟨by omega, by omega⟩
          | cons p L =>
            obtain ⟨h3, h4, h5, h6⟩ := ho
            have hp : p ≠ (i : Int) + 1 := fun e => hc ((hm _ (by omega)).2 (by rw [← e]; simp))
            exact ⟨by omega, h4, by omega, h6⟩
        have := ih (i + 2) L ho2 (fun x hx => hm x (by omega)) (by omega) h2.1
        rw [rowF, if_neg hn, if_neg hc, ups_cons, ups_cons, if_pos (by omega), if_neg (by omega)]
        exact ⟨this.1.two h2.1, by rw [show i + 1 + 1 = i + 2 from rfl]; omega⟩
theorem chgRow_piece {n : Nat} {l : List Int} (h : okL 0 l n) : Piece 0 n (chgRow n l) ∧ n = 2 * ups 0 (chgRow n l) + l.length := by
  have := rowF_piece n 0 l h (fun _ _ => Iff.rfl) (by omega) (by omega)
  exact this

/-! ### A row that is none twice -/
theorem piece_row {n : Nat} {r : List Int} (h : Piece 0 n r) (h1 : 1 ≤ n) (h2 : n ≤ 12) : IsRow r := by
  have hl : r.length = n := by have := h.len; omega
  apply rowMay_ok.1
  refine rowMay_of (by omega) (by omega) ?_ ?_
  · rw [List.nodup_iff_pairwise_ne, List.pairwise_iff_getElem]
    intro i j hi hj hij
    rw [gd r i hi, gd r j hj]
    intro e
    have a := h.inv i (by omega) (by omega)
    have b := h.inv j (by omega) (by omega)
    simp only [Nat.sub_zero] at a b
    rw [e] at a; omega
  · intro x hx
    obtain ⟨j, hj, e⟩ := List.getElem_of_mem hx
    rw [gd r j hj] at e
    have := h.bd j (by omega) (by omega)
    simp only [Nat.sub_zero] at this
    omega
theorem ordTo_pre {n : Nat} {r : List Int} (h : Piece 0 n r) (hr : IsRow r) (hl : r.length = n) {b : Nat} (hb : b < r.length) : per r b ≤ 2 ∧ itr r b 1 = (r.getD b 0).toNat ∧ itr r b 2 = b := by
  have hp := per_spec hr hb
  have e2 : itr r b 2 = b := by
    show (r.getD (itr r b 1) 0).toNat = b
    show (r.getD (r.getD b 0).toNat 0).toNat = b
    have := h.inv b (by omega) (by omega)
    simp only [Nat.sub_zero] at this
    rw [this]; rfl
  refine ⟨?_, rfl, e2⟩
  apply Classical.byContradiction; intro hc
  exact hp.2.2.2 2 (by omega) (by omega) e2
theorem per_iff {n : Nat} {r : List Int} (h : Piece 0 n r) (hr : IsRow r) (hl : r.length = n) {b : Nat} (hb : b < r.length) : per r b = if r.getD b 0 = b then 1 else 2 := by
  have hp := per_spec hr hb
  obtain ⟨h2, e1, e2⟩ := ordTo_pre h hr hl hb
  have hbd := h.bd b (by omega) (by omega)
  simp only [Nat.sub_zero] at hbd
  split
  · rename_i e
    apply Classical.byContradiction; intro hc
    exact hp.2.2.2 1 (by omega) (by omega) (by rw [e1, e]; omega)
  · rename_i e
    have : per r b ≠ 1 := fun hc => by
      have := hp.2.2.1; rw [hc, e1] at this; omega
    omega
theorem least_inv {n : Nat} {r : List Int} (h : Piece 0 n r) (hr : IsRow r) (hl : r.length = n) {b : Nat} (hb : b < r.length) : least r b = decide ((b : Int) ≤ r.getD b 0) := by
  have hp := per_iff h hr hl hb
  have hbd := h.bd b (by omega) (by omega)
  simp only [Nat.sub_zero] at hbd
  obtain ⟨h2, e1, e2⟩ := ordTo_pre h hr hl hb
  unfold least
  rw [hp]
  have r2 : List.range 2 = [0, 1] := rfl
  have r1 : List.range 1 = [0] := rfl
  have i0 : itr r b 0 = b := rfl
  split
  · rename_i e; rw [r1]; simp only [List.all_cons, List.all_nil, Bool.and_true, i0, Nat.le_refl, decide_true]; exact (decide_eq_true (by omega)).symm
  · rename_i e
    rw [r2]
    simp only [List.all_cons, List.all_nil, Bool.and_true, i0, e1, Nat.le_refl, decide_true, Bool.true_and, decide_eq_decide]
    omega
theorem oddTo_snoc (l : List (List Int)) (c : List Int) : oddTo (l ++ [c]) (l ++ [c]).length = (oddTo l l.length != decide (((c.length % 2 : Nat) : Int) = 0)) := by
  simp only [oddTo, List.take_length, List.foldl_append, List.foldl_cons, List.foldl_nil]
theorem ordTo_snoc (l : List (List Int)) (c : List Int) : ordTo (l ++ [c]) (l ++ [c]).length = ordTo l l.length * (c.length / Nat.gcd (ordTo l l.length) c.length) := by
  simp only [ordTo, List.take_length, List.foldl_append, List.foldl_cons, List.foldl_nil]
theorem inv_cycles {n : Nat} {r : List Int} (h : Piece 0 n r) (hr : IsRow r) (hl : r.length = n) : ∀ k, k ≤ n →
    (ordTo (cyclesTo r k) (cyclesTo r k).length = 1 ∨ ordTo (cyclesTo r k) (cyclesTo r k).length = 2) ∧
    oddTo (cyclesTo r k) (cyclesTo r k).length = decide ((List.range k).countP (fun (j : Nat) => decide ((j : Int) < r.getD j 0)) % 2 = 1)
  | 0, _ => ⟨.inl rfl, rfl⟩
  | k + 1, hk => by
    have ih := inv_cycles h hr hl k (by omega)
    have hle := least_inv h hr hl (b := k) (by omega)
    have hpe := per_iff h hr hl (b := k) (by omega)
    rw [List.range_succ, List.countP_append, List.countP_cons, List.countP_nil]
    by_cases hlt : (k : Int) ≤ r.getD k 0
    · rw [cyclesTo_yes r k (by rw [hle]; exact decide_eq_true hlt), oddTo_snoc, ordTo_snoc, orb_len, hpe, ih.2]
      by_cases e : r.getD k 0 = k
      · rw [if_pos e]
        refine ⟨?_, ?_⟩
        · rw [Nat.gcd_one_right]; simpa using ih.1
        · have : ¬ ((k : Int) < r.getD k 0) := by omega
          simp only [this, decide_false, Bool.false_eq_true, if_false]
          simp
      · rw [if_neg e]
        have e3 : ((k : Int) < r.getD k 0) := by omega
        refine ⟨?_, ?_⟩
        · rcases ih.1 with h1 | h1 <;> rw [h1] <;> decide
        · simp only [e3, decide_true, if_true]
          rcases Nat.mod_two_eq_zero_or_one ((List.range k).countP (fun (j : Nat) => decide ((j : Int) < r.getD j 0))) with h1 | h1
          · rw [show (0 + 1 : Nat) = 1 from rfl, Nat.add_mod, h1]; decide
          · rw [show (0 + 1 : Nat) = 1 from rfl, Nat.add_mod, h1]; decide
    · rw [cyclesTo_no r k (by rw [hle]; exact decide_eq_false hlt)]
      have e3 : ¬ ((k : Int) < r.getD k 0) := by omega
      simp only [e3, decide_false]
      simpa using ih
theorem ord_inv {n : Nat} {l : List Int} (h : okL 0 l n) (h1 : 1 ≤ n) (h2 : n ≤ 12) : IsRow (chgRow n l) ∧ ordL (chgRow n l) ≤ 2 ∧ oddL (chgRow n l) = decide (((n - l.length) / 2) % 2 = 1) ∧ l.length ≤ n := by
  obtain ⟨hp, hc⟩ := chgRow_piece h
  have hl : (chgRow n l).length = n := chgRow_len h
  have hr := piece_row hp h1 h2
  have hi := inv_cycles hp hr hl n (Nat.le_refl _)
  have e : cyclesL (chgRow n l) = cyclesTo (chgRow n l) n := by unfold cyclesL; rw [hl]
  refine ⟨hr, ?_, ?_, by omega⟩
  · unfold ordL; rw [e]; rcases hi.1 with h | h <;> rw [h] <;> decide
  · unfold oddL; rw [e, hi.2]
    congr 2
    have : (List.range n).countP (fun (j : Nat) => decide ((j : Int) < (chgRow n l).getD j 0)) = ups 0 (chgRow n l) := by
      unfold ups; rw [hl]; rfl
    rw [this]; omega
end Go.KL
