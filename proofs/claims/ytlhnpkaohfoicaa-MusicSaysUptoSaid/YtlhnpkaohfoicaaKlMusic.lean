/- Patterns of bells: the maths. -/
import Derived.Test.YtlhnpkaohfoicaaKlRunes
import Derived.Test.YtlhnpkaohfoicaaKlRowLaw
namespace Go.KL
theorem runsF_len (s : ByteArray) : ∀ (f p : Nat), (runsF s f p).length ≤ s.size - p
  | 0, p => by simp [runsF]
  | f + 1, p => by
    rw [runsF]
    split
    · have := runsF_len s f (p + wid s p)
      have := wid_pos s p
      rw [List.length_cons]; omega
    · simp
theorem runsL_len (s : ByteArray) : (runsL s).length ≤ s.size := runsF_len s s.size 0
theorem runsF_cons {s : ByteArray} {f p : Nat} (hp : p < s.size) (hf : s.size ≤ f + p) : runsF s f p = runM s p :: runsF s (f - 1) (p + wid s p) := by
  obtain ⟨f, rfl⟩ : ∃ g, f = g + 1 := ⟨f - 1, by omega⟩
  rw [runsF, if_pos hp]; rfl
def bellQ (c : Int) : Int := if c = 63 then -1 else signIdx c
def frR : List Int → List Int
  | [] => []
  | c :: l => if c = 42 then [] else c :: frR l
def bkR : List Int → List Int
  | [] => []
  | c :: l => if c = 42 then l else bkR l
def hasS (l : List Int) : Bool := decide ((42 : Int) ∈ l)
theorem hasS_nil : hasS [] = false := rfl
/-- What a rune more says. -/
def okStep (n : Int) (xs : List Int) (c : Int) : Int := if c = 42 ∧ hasS xs = false then 0 else if c = 63 then 0 else if signIdx c < 0 ∨ n ≤ signIdx c then 4 else if c ∈ xs then 2 else 0
def peF (n : Int) : List Int → List Int → Int
  | _, [] => 0
  | xs, c :: r => if okStep n xs c ≠ 0 then okStep n xs c else peF n (xs ++ [c]) r
def starN (l : List Int) : Nat := if hasS l = true then 1 else 0
def patMay (n : Int) (l : List Int) : Int :=
  if n < 1 ∨ 12 < n then 1 else if peF n [] l ≠ 0 then peF n [] l else if n < ((l.length : Nat) : Int) - starN l ∨ (((l.length : Nat) : Int) < n ∧ starN l = 0) then 1 else 0
theorem patMay_cnt {n : Int} {l : List Int} (h : n < 1 ∨ 12 < n) : patMay n l = 1 := if_pos h
theorem patMay_err {n : Int} {l : List Int} (h : ¬ (n < 1 ∨ 12 < n)) (h2 : peF n [] l ≠ 0) : patMay n l = peF n [] l := by unfold patMay; rw [if_neg h, if_pos h2]
theorem patMay_len {n : Int} {l : List Int} (h : ¬ (n < 1 ∨ 12 < n)) (h2 : peF n [] l = 0) (h3 : n < ((l.length : Nat) : Int) - starN l ∨ (((l.length : Nat) : Int) < n ∧ starN l = 0)) : patMay n l = 1 := by
  unfold patMay; rw [if_neg h, if_neg (by omega), if_pos h3]
theorem patMay_ok {n : Int} {l : List Int} (h : ¬ (n < 1 ∨ 12 < n)) (h2 : peF n [] l = 0) (h3 : ¬ (n < ((l.length : Nat) : Int) - starN l ∨ (((l.length : Nat) : Int) < n ∧ starN l = 0))) : patMay n l = 0 := by
  unfold patMay; rw [if_neg h, if_neg (by omega), if_neg h3]
theorem pe_stop {n : Int} {xs r z : List Int} {c e : Int} (h : peF n xs (c :: r) = peF n [] z) (h2 : okStep n xs c = e) (h3 : e ≠ 0) : peF n [] z = e := by
  rw [← h, peF, h2, if_pos h3]
theorem pe_go {n : Int} {xs r z : List Int} {c : Int} (h : peF n xs (c :: r) = peF n [] z) (h2 : okStep n xs c = 0) : peF n (xs ++ [c]) r = peF n [] z := by
  rw [← h, peF, h2, if_neg (by simp)]
/-! ### Signs -/
theorem sign_back {c : Int} (h : 0 ≤ signIdx c) : signIdx c < 12 ∧ c = (((SIGNS.get! (signIdx c).toNat).toNat : Nat) : Int) := by
  by_cases hc : 0 ≤ c ∧ c < 128
  · have key : ∀ c : Fin 128, signIdx ((c.val : Nat) : Int) < 0 ∨ (signIdx ((c.val : Nat) : Int) < 12 ∧ ((c.val : Nat) : Int) = (((SIGNS.get! (signIdx ((c.val : Nat) : Int)).toNat).toNat : Nat) : Int)) := by decide +kernel
    have := key ⟨c.toNat, by omega⟩
    simp only [show ((c.toNat : Nat) : Int) = c by omega] at this
    omega
  · rw [signIdx_hi hc] at h; omega
theorem sign_inj {c d : Int} (h : 0 ≤ signIdx c) (e : signIdx c = signIdx d) : c = d := by
  have h1 := (sign_back h).2
  have h2 := (sign_back (c := d) (by omega)).2
  rw [h1, h2, e]
theorem sign_42 : signIdx 42 = -1 := by decide +kernel
theorem sign_63 : signIdx 63 = -1 := by decide +kernel
theorem run_m (s : ByteArray) (p : Nat) : runM s p = ((run1 s p : Nat) : Int) ∨ (runM s p = -1 ∧ run1 s p = 65533) := by
  unfold runM
  split
  · rename_i h; exact .inr ⟨rfl, h.1⟩
  · exact .inl rfl
theorem run_same (s : ByteArray) (p : Nat) : signIdx (runM s p) = signIdx ((run1 s p : Nat) : Int) ∧ (runM s p = 42 ↔ ((run1 s p : Nat) : Int) = 42) ∧ (runM s p = 63 ↔ ((run1 s p : Nat) : Int) = 63) := by
  rcases run_m s p with e | ⟨e1, e2⟩
  · rw [e]; exact ⟨rfl, Iff.rfl, Iff.rfl⟩
  · rw [e1, e2]
    refine ⟨?_, ?_, ?_⟩
    · rw [signIdx_hi (by omega), signIdx_hi (by omega)]
    · omega
    · omega
/-! ### Ahead of the star and behind it -/
theorem hasS_cons (x : Int) (l : List Int) : hasS (x :: l) = (decide (x = 42) || hasS l) := by
  unfold hasS
  rw [Bool.eq_iff_iff]
  simp only [List.mem_cons, Bool.or_eq_true, decide_eq_true_eq]
  constructor <;> rintro (h | h) <;> first | exact .inl h.symm | exact .inr h
theorem pat_at {l : List Int} {i : Nat} (hi : i < l.length) (hn : ∀ j, j < i → l.getD j 0 ≠ 42) (h : l.getD i 0 = 42) : frR l = l.take i ∧ bkR l = l.drop (i + 1) ∧ hasS l = true := by
  induction l generalizing i with
  | nil => simp at hi
  | cons x l ih =>
    cases i with
    | zero =>
      have hx : x = 42 := by simpa using h
      subst hx
      refine ⟨by simp [frR], by simp [bkR], by simp [hasS]⟩
    | succ i =>
      have hx : x ≠ 42 := by have := hn 0 (by omega); simpa using this
      obtain ⟨a, b, c⟩ := ih (i := i) (by simpa using hi) (fun j hj => by have := hn (j + 1) (by omega); simpa using this) (by simpa using h)
      refine ⟨?_, ?_, ?_⟩
      · rw [frR, if_neg hx, a]; rfl
      · rw [bkR, if_neg hx, b]; rfl
      · rw [hasS_cons, c, Bool.or_true]
theorem frbk_no : ∀ {xs : List Int}, hasS xs = false → frR xs = xs ∧ bkR xs = []
  | [], _ => ⟨rfl, rfl⟩
  | x :: l, h => by
    rw [hasS_cons, Bool.or_eq_false_iff, decide_eq_false_iff_not] at h
    obtain ⟨a, b⟩ := frbk_no h.2
    rw [frR, bkR, if_neg h.1, if_neg h.1, a, b]; exact ⟨rfl, rfl⟩
theorem hasS_no {l : List Int} (hn : ∀ j, j < l.length → l.getD j 0 ≠ 42) : hasS l = false := by
  refine decide_eq_false fun hc => ?_
  obtain ⟨j, hj, e⟩ := List.getElem_of_mem hc
  have := hn j hj
  simp [hj] at this
  exact this e
theorem pat_no {l : List Int} (hn : ∀ j, j < l.length → l.getD j 0 ≠ 42) : frR l = l ∧ bkR l = [] ∧ hasS l = false :=
  ⟨(frbk_no (hasS_no hn)).1, (frbk_no (hasS_no hn)).2, hasS_no hn⟩
theorem hasS_snoc (xs : List Int) (c : Int) : hasS (xs ++ [c]) = (hasS xs || decide (c = 42)) := by
  unfold hasS
  rw [Bool.eq_iff_iff]
  simp only [List.mem_append, List.mem_singleton, Bool.or_eq_true, decide_eq_true_eq]
  constructor <;> rintro (h | h) <;> first | exact .inl h | exact .inr h.symm
theorem frbk_yes : ∀ {xs : List Int}, hasS xs = true → ∀ c : Int, frR (xs ++ [c]) = frR xs ∧ bkR (xs ++ [c]) = bkR xs ++ [c]
  | [], h, _ => by simp [hasS] at h
  | x :: l, h, c => by
    by_cases hx : x = 42
    · rw [List.cons_append, frR, frR, bkR, bkR, if_pos hx, if_pos hx, if_pos hx, if_pos hx]; exact ⟨rfl, rfl⟩
    · rw [hasS_cons, decide_eq_false hx, Bool.false_or] at h
      obtain ⟨a, b⟩ := frbk_yes h c
      rw [List.cons_append, frR, frR, bkR, bkR, if_neg hx, if_neg hx, if_neg hx, if_neg hx, a, b]; exact ⟨rfl, rfl⟩
theorem frbk_new {xs : List Int} (h : hasS xs = false) {c : Int} (hc : c ≠ 42) : frR (xs ++ [c]) = frR xs ++ [c] ∧ bkR (xs ++ [c]) = bkR xs := by
  have h1 := frbk_no h
  have h2 := frbk_no (xs := xs ++ [c]) (by rw [hasS_snoc, h]; simp [hc])
  rw [h1.1, h1.2, h2.1, h2.2]; exact ⟨rfl, rfl⟩
theorem frbk_star {xs : List Int} (h : hasS xs = false) : frR (xs ++ [42]) = frR xs ∧ bkR (xs ++ [42]) = bkR xs := by
  have h1 := frbk_no h
  have hm : (42 : Int) ∉ xs := of_decide_eq_false h
  have := pat_at (l := xs ++ [42]) (i := xs.length) (by simp) (fun j hj e => hm (by
    have e1 : (xs ++ [42]).getD j 0 = xs[j] := by simp [List.getD_eq_getElem?_getD, List.getElem?_append_left hj, hj]
    rw [← e, e1]; exact List.getElem_mem hj)) (by simp)
  rw [this.1, this.2.1, h1.1, h1.2]; simp
theorem frbk_len : ∀ (l : List Int), (frR l).length + (bkR l).length + starN l = l.length
  | [] => rfl
  | x :: l => by
    have ih := frbk_len l
    unfold starN at ih ⊢
    by_cases hx : x = 42
    · rw [frR, bkR, if_pos hx, if_pos hx, hasS_cons, decide_eq_true hx, Bool.true_or, if_pos rfl, List.length_cons, List.length_nil]; omega
    · rw [frR, bkR, if_neg hx, if_neg hx, hasS_cons, decide_eq_false hx, Bool.false_or, List.length_cons, List.length_cons]; omega
/-! ### What was seen -/
def seenF (xs : List Int) (b : Int) : Option Int := if 0 ≤ b ∧ ∃ c ∈ xs, signIdx c = b then some 1 else none
theorem seen_nil : seenF [] = fun _ => none := by funext b; simp [seenF]
theorem seen_mem {xs : List Int} {c : Int} (h : 0 ≤ signIdx c) : seenF xs (signIdx c) = some 1 ↔ c ∈ xs := by
  unfold seenF
  constructor
  · intro hh
    split at hh
    · rename_i h2
      obtain ⟨_, d, hd, e⟩ := h2
      rw [sign_inj h e.symm]; exact hd
    · cases hh
  · intro hc; rw [if_pos ⟨h, c, hc, rfl⟩]
theorem seen_none {xs : List Int} {c : Int} (h : 0 ≤ signIdx c) (hc : c ∉ xs) : seenF xs (signIdx c) = none := by
  have := seen_mem (xs := xs) h
  unfold seenF at this ⊢
  split
  · rename_i h2; rw [if_pos h2] at this; exact absurd (this.1 rfl) hc
  · rfl
theorem seen_skip {xs : List Int} {c : Int} (h : signIdx c < 0) : seenF (xs ++ [c]) = seenF xs := by
  funext b
  unfold seenF
  congr 1
  apply propext
  constructor
  · rintro ⟨h0, d, hd, e⟩
    rcases List.mem_append.1 hd with h1 | h1
    · exact ⟨h0, d, h1, e⟩
    · simp at h1; subst h1; omega
  · rintro ⟨h0, d, hd, e⟩; exact ⟨h0, d, List.mem_append_left _ hd, e⟩
theorem seen_new {xs : List Int} {c : Int} (h : 0 ≤ signIdx c) : seenF (xs ++ [c]) = fun x => if x = signIdx c then some 1 else seenF xs x := by
  funext b
  by_cases e : b = signIdx c
  · subst e; rw [if_pos rfl]; unfold seenF; rw [if_pos ⟨h, c, by simp, rfl⟩]
  · rw [if_neg e]
    unfold seenF
    congr 1
    apply propext
    constructor
    · rintro ⟨h0, d, hd, e'⟩
      rcases List.mem_append.1 hd with h1 | h1
      · exact ⟨h0, d, h1, e'⟩
      · simp at h1; subst h1; exact absurd e'.symm e
    · rintro ⟨h0, d, hd, e'⟩; exact ⟨h0, d, List.mem_append_left _ hd, e'⟩
/-! ### Like a pattern -/
def likeB (f b r : List Int) : Bool := ((List.range f.length).all fun i => decide (f.getD i 0 < 0 ∨ r.getD i 0 = f.getD i 0)) && ((List.range b.length).all fun i => decide (b.getD i 0 < 0 ∨ r.getD (r.length - b.length + i) 0 = b.getD i 0))
theorem like_no1 {f b r : List Int} {i : Nat} (hi : i < f.length) (h0 : 0 ≤ f.getD i 0) (h : r.getD i 0 ≠ f.getD i 0) : likeB f b r = false := by
  unfold likeB
  rw [Bool.and_eq_false_iff]; left
  rw [List.all_eq_false]
  exact ⟨i, List.mem_range.2 hi, by simp only [decide_eq_true_eq]; omega⟩
theorem like_no2 {f b r : List Int} {i : Nat} (hi : i < b.length) (h0 : 0 ≤ b.getD i 0) (h : r.getD (r.length - b.length + i) 0 ≠ b.getD i 0) : likeB f b r = false := by
  unfold likeB
  rw [Bool.and_eq_false_iff]; right
  rw [List.all_eq_false]
  exact ⟨i, List.mem_range.2 hi, by simp only [decide_eq_true_eq]; omega⟩
theorem like_yes {f b r : List Int} (h1 : ∀ i, i < f.length → f.getD i 0 < 0 ∨ r.getD i 0 = f.getD i 0) (h2 : ∀ i, i < b.length → b.getD i 0 < 0 ∨ r.getD (r.length - b.length + i) 0 = b.getD i 0) : likeB f b r = true := by
  unfold likeB
  rw [Bool.and_eq_true, List.all_eq_true, List.all_eq_true]
  exact ⟨fun i hi => decide_eq_true (h1 i (List.mem_range.1 hi)), fun i hi => decide_eq_true (h2 i (List.mem_range.1 hi))⟩
theorem all_next {Q : Nat → Prop} {k : Nat} (h : ∀ j, j < k → Q j) (hk : Q k) : ∀ j, j < k + 1 → Q j := fun j hj => by
  by_cases e : j = k
  · rw [e]; exact hk
  · exact h j (by omega)
theorem bq_get {l : List Int} {i : Nat} (hi : i < l.length) : (l.map bellQ).getD i 0 = bellQ (l.getD i 0) := by simp [hi]
theorem bellQ_63 : bellQ 63 = -1 := rfl
theorem bellQ_ne {c : Int} (h : c ≠ 63) : bellQ c = signIdx c := if_neg h
/-! ### Steps -/
theorem starN_snoc {xs : List Int} {c : Int} (h : c ≠ 42) : starN (xs ++ [c]) = starN xs := by unfold starN; rw [hasS_snoc, decide_eq_false h, Bool.or_false]
theorem starN_star {xs : List Int} (h : starN xs = 0) : starN (xs ++ [42]) = starN xs + 1 := by rw [h]; unfold starN; rw [hasS_snoc]; simp
theorem starN_0 {xs : List Int} : starN xs = 0 ↔ hasS xs = false := by unfold starN; split <;> simp_all
theorem starN_le (xs : List Int) : starN xs ≤ 1 := by unfold starN; split <;> omega
theorem ok_star {n : Int} {xs : List Int} {c : Int} (h : c = 42) (h2 : starN xs = 0) : okStep n xs c = 0 := by unfold okStep; rw [if_pos ⟨h, starN_0.1 h2⟩]
theorem ok_q {n : Int} {xs : List Int} {c : Int} (h : c = 63) : okStep n xs c = 0 := by unfold okStep; rw [if_neg (by omega), if_pos h]
theorem ok_word {n : Int} {xs : List Int} {c : Int} (h : ¬ (c = 42 ∧ starN xs = 0)) (h2 : c ≠ 63) (h3 : signIdx c < 0 ∨ n ≤ signIdx c) : okStep n xs c = 4 := by
  unfold okStep; rw [if_neg (by rw [← starN_0]; exact h), if_neg h2, if_pos h3]
theorem ok_row {n : Int} {xs : List Int} {c : Int} (h : ¬ (c = 42 ∧ starN xs = 0)) (h2 : c ≠ 63) (h3 : ¬ (signIdx c < 0 ∨ n ≤ signIdx c)) (h4 : c ∈ xs) : okStep n xs c = 2 := by
  unfold okStep; rw [if_neg (by rw [← starN_0]; exact h), if_neg h2, if_neg h3, if_pos h4]
theorem ok_new {n : Int} {xs : List Int} {c : Int} (h : ¬ (c = 42 ∧ starN xs = 0)) (h2 : c ≠ 63) (h3 : ¬ (signIdx c < 0 ∨ n ≤ signIdx c)) (h4 : c ∉ xs) : okStep n xs c = 0 := by
  unfold okStep; rw [if_neg (by rw [← starN_0]; exact h), if_neg h2, if_neg h3, if_neg h4]
theorem ne_42 {c : Int} (h : 0 ≤ signIdx c) : c ≠ 42 := fun e => by rw [e, sign_42] at h; omega
theorem drop_at {l : List Int} {i : Nat} (hi : i < l.length) : l.drop i = l.getD i 0 :: l.drop (i + 1) := by
  rw [List.drop_eq_getElem_cons hi]; simp [hi]
theorem in_take {l : List Int} {i k : Nat} {c : Int} (hi : i ≤ l.length) (hk : k < i) (h : l.getD k 0 = c) : c ∈ l.take i := by
  rw [← h]
  have hk2 : k < (l.take i).length := by rw [List.length_take]; omega
  have e : l.getD k 0 = (l.take i)[k] := by rw [List.getElem_take]; simp [show k < l.length by omega]
  rw [e]; exact List.getElem_mem hk2
theorem not_take {l : List Int} {i : Nat} {c : Int} (h : ∀ k, k < i → l.getD k 0 ≠ c) : c ∉ l.take i := fun hm => by
  obtain ⟨k, hk, e⟩ := List.getElem_of_mem hm
  rw [List.length_take] at hk
  rw [List.getElem_take] at e
  refine h k (by omega) ?_
  rw [← e]; simp [show k < l.length by omega]
/-! ### A pattern that may be -/
theorem pe_all {n : Int} : ∀ (r xs : List Int), peF n xs r = 0 → ∀ c ∈ r, c = 42 ∨ c = 63 ∨ 0 ≤ signIdx c
  | [], _, _, c, hc => by simp at hc
  | x :: r, xs, h, c, hc => by
    rw [peF] at h
    by_cases h0 : okStep n xs x = 0
    · rw [if_neg (by simp [h0])] at h
      rcases List.mem_cons.1 hc with rfl | hc
      · unfold okStep at h0
        split at h0
        · rename_i h1; exact .inl h1.1
        · split at h0
          · rename_i h1; exact .inr (.inl h1)
          · split at h0
            · omega
            · rename_i h1; exact .inr (.inr (by omega))
      · exact pe_all r _ h c hc
    · rw [if_pos h0] at h; exact absurd h h0
theorem fr_mem : ∀ {l : List Int} {c : Int}, c ∈ frR l → c ∈ l ∧ c ≠ 42
  | [], _, h => by simp [frR] at h
  | x :: l, c, h => by
    rw [frR] at h
    split at h
    · simp at h
    · rename_i hx
      rcases List.mem_cons.1 h with rfl | h
      · exact ⟨by simp, hx⟩
      · exact ⟨List.mem_cons_of_mem _ (fr_mem h).1, (fr_mem h).2⟩
theorem pat_facts {n : Int} {l : List Int} (h : patMay n l = 0) : ¬ (n < 1 ∨ 12 < n) ∧ peF n [] l = 0 ∧ (((frR l).length + (bkR l).length : Nat) : Int) ≤ n ∧ (hasS l = false → (((frR l).length + (bkR l).length : Nat) : Int) = n) := by
  have hl := frbk_len l
  unfold patMay at h
  split at h
  · omega
  · rename_i h1
    split at h
    · omega
    · rename_i h2
      split at h
      · omega
      · rename_i h3
        refine ⟨h1, by omega, by omega, fun hs => ?_⟩
        have := starN_0.2 hs
        omega
/-- Behind the star no second one stands. -/
theorem bk_ok {n : Int} : ∀ (r xs : List Int), peF n xs r = 0 → (hasS xs = true → (42 : Int) ∉ r) ∧ (42 : Int) ∉ bkR r
  | [], _, _ => by simp [bkR]
  | x :: r, xs, h => by
    rw [peF] at h
    by_cases h0 : okStep n xs x = 0
    · rw [if_neg (by simp [h0])] at h
      obtain ⟨a, b⟩ := bk_ok r _ h
      have key : hasS xs = true → x ≠ 42 := fun hs hx => by
        unfold okStep at h0
        rw [if_neg (by simp [hs]), if_neg (by omega), hx, sign_42] at h0
        simp at h0
      refine ⟨fun hs hm => ?_, ?_⟩
      · rcases List.mem_cons.1 hm with e | e
        · exact key hs e.symm
        · exact a (by rw [hasS_snoc, hs, Bool.true_or]) e
      · rw [bkR]
        split
        · rename_i hx
          exact a (by rw [hasS_snoc, decide_eq_true hx, Bool.or_true])
        · exact b
    · rw [if_pos h0] at h; exact absurd h h0
theorem bk_mem : ∀ {l : List Int} {c : Int}, c ∈ bkR l → c ∈ l
  | [], _, h => by simp [bkR] at h
  | x :: l, c, h => by
    rw [bkR] at h
    split at h
    · exact List.mem_cons_of_mem _ h
    · exact List.mem_cons_of_mem _ (bk_mem h)
theorem like_pre {n : Int} {l : List Int} (h : patMay n l = 0) : (∀ c ∈ frR l, c = 63 ∨ 0 ≤ signIdx c) ∧ ∀ c ∈ bkR l, c = 63 ∨ 0 ≤ signIdx c := by
  obtain ⟨_, hp, _, _⟩ := pat_facts h
  have ha := pe_all l [] hp
  have hb := (bk_ok l [] hp).2
  refine ⟨fun c hc => ?_, fun c hc => ?_⟩
  · have := fr_mem hc
    rcases ha c this.1 with e | e
    · exact absurd e this.2
    · exact e
  · rcases ha c (bk_mem hc) with e | e
    · subst e; exact absurd hc hb
    · exact e
/-! ### The walks of Like and fits -/
theorem lk_no1 {F B r : List Int} {i : Nat} (hi : i < F.length) (h1 : ∀ c ∈ F, c = 63 ∨ 0 ≤ signIdx c) (a : F.getD i 0 ≠ 63) (b : signIdx (F.getD i 0) ≠ r.getD i 0) : likeB (F.map bellQ) B r = false := by
  have hm : F.getD i 0 ∈ F := by rw [show F.getD i 0 = F[i] by simp [hi]]; exact List.getElem_mem hi
  have h0 := (h1 _ hm).resolve_left a
  refine like_no1 (i := i) (by rw [List.length_map]; exact hi) ?_ ?_ <;> rw [bq_get hi, bellQ_ne a]
  · exact h0
  · exact fun e => b e.symm
theorem lk_no2 {F B r : List Int} {i : Nat} (hi : i < B.length) (h1 : ∀ c ∈ B, c = 63 ∨ 0 ≤ signIdx c) (a : B.getD i 0 ≠ 63) (b : signIdx (B.getD i 0) ≠ r.getD (r.length - B.length + i) 0) : likeB F (B.map bellQ) r = false := by
  have hm : B.getD i 0 ∈ B := by rw [show B.getD i 0 = B[i] by simp [hi]]; exact List.getElem_mem hi
  have h0 := (h1 _ hm).resolve_left a
  refine like_no2 (i := i) (by rw [List.length_map]; exact hi) ?_ ?_ <;> rw [bq_get hi, bellQ_ne a]
  · exact h0
  · rw [List.length_map]; exact fun e => b e.symm
theorem lk_go {F : List Int} {i : Nat} {x : Int} (hi : i < F.length) (h : F.getD i 0 = 63 ∨ signIdx (F.getD i 0) = x) : (F.map bellQ).getD i 0 < 0 ∨ x = (F.map bellQ).getD i 0 := by
  rw [bq_get hi]
  by_cases a : F.getD i 0 = 63
  · rw [a, bellQ_63]; exact .inl (by decide)
  · rw [bellQ_ne a]; exact .inr (h.resolve_left a).symm
theorem lk_all {F B r : List Int} {i k : Nat} (hi : i = F.length) (hk : k = B.length) (h1 : ∀ j, j < i → (F.map bellQ).getD j 0 < 0 ∨ r.getD j 0 = (F.map bellQ).getD j 0) (h2 : ∀ j, j < k → (B.map bellQ).getD j 0 < 0 ∨ r.getD (r.length - B.length + j) 0 = (B.map bellQ).getD j 0) : likeB (F.map bellQ) (B.map bellQ) r = true := by
  refine like_yes (fun j hj => h1 j (by rw [List.length_map] at hj; omega)) (fun j hj => ?_)
  rw [List.length_map]
  exact h2 j (by rw [List.length_map] at hj; omega)
theorem seen_in {xs : List Int} {c : Int} (h0 : 0 ≤ signIdx c) (h : 0 < (seenF xs (signIdx c)).getD 0) : c ∈ xs := by
  refine Classical.byContradiction fun hn => ?_
  rw [seen_none h0 hn] at h; simp at h
theorem seen_out {xs : List Int} {c : Int} (h0 : 0 ≤ signIdx c) (h : ¬ 0 < (seenF xs (signIdx c)).getD 0) : c ∉ xs := fun hm => by
  rw [(seen_mem h0).2 hm] at h; simp at h
end Go.KL
