/- All rows, each once: what is found rings, and nothing ahead of it does. -/
import Derived.Test.YtlhnpkaohfoicaaKlTour
namespace Go.KL
/-- Is a list ahead of another one? -/
def belowL : List Int → List Int → Bool
  | [], b => decide (0 < b.length)
  | _ :: _, [] => false
  | x :: a, y :: b => if x = y then belowL a b else decide (x < y)
theorem below_step {a b : List Int} {i : Nat} {z : Bool} (h : belowL (a.drop i) (b.drop i) = z) (h1 : i < a.length) (h2 : i < b.length) (e : ¬ a.getD i 0 ≠ b.getD i 0) : belowL (a.drop (i + 1)) (b.drop (i + 1)) = z := by
  rw [List.drop_eq_getElem_cons h1, List.drop_eq_getElem_cons h2, belowL, if_pos (by simpa [h1, h2] using e)] at h
  exact h
theorem below_ne {a b : List Int} {i : Nat} {z : Bool} (h : belowL (a.drop i) (b.drop i) = z) (h1 : i < a.length) (h2 : i < b.length) (e : a.getD i 0 ≠ b.getD i 0) : decide (a.getD i 0 < b.getD i 0) = z := by
  rw [List.drop_eq_getElem_cons h1, List.drop_eq_getElem_cons h2, belowL, if_neg (by simpa [h1, h2] using e)] at h
  simpa [h1, h2] using h
theorem below_end {a b : List Int} {i : Nat} {z : Bool} (h : belowL (a.drop i) (b.drop i) = z) (hi : i ≤ a.length) (hj : i ≤ b.length) (hc : ¬ (i < a.length ∧ i < b.length)) : decide (((a.length : Nat) : Int) < ((b.length : Nat) : Int)) = z := by
  by_cases h1 : i < a.length
  · have h2 : i = b.length := by omega
    subst h2
    rw [List.drop_eq_getElem_cons h1, List.drop_length, belowL] at h
    rw [← h, decide_eq_false (by omega)]
  · have h2 : i = a.length := by omega
    subst h2
    rw [List.drop_length, belowL, List.length_drop] at h
    rw [← h, decide_eq_decide]; omega

/-- A way on, from a row, where some were rung: to the end, and rounds. -/
def goodQ (cs : List (List Int)) : List (List Int) → List Int → List Int → Prop
  | _, _, [] => False
  | rows, r, k :: q => (0 ≤ k ∧ k < cs.length) ∧ (if q = [] then rankL (byL r (cs.getD k.toNat [])) = 0 else byL r (cs.getD k.toNat []) ∉ rows ∧ goodQ cs (rows ++ [byL r (cs.getD k.toNat [])]) (byL r (cs.getD k.toNat [])) q)

theorem below_irr : ∀ a : List Int, belowL a a = false
  | [] => rfl
  | x :: a => by rw [belowL, if_pos rfl]; exact below_irr a
theorem findSome_split {α : Type} {g : Nat → Option α} {n : Nat} {p : α} (h : (List.range n).findSome? g = some p) : ∃ k, k < n ∧ g k = some p ∧ ∀ j, j < k → g j = none := by
  rw [List.findSome?_eq_some_iff] at h
  obtain ⟨l1, k, l2, e, hk, hn⟩ := h
  have hl : k = l1.length := by
    have h1 : (List.range n)[l1.length]? = some k := by rw [e]; simp
    have h2 := (List.getElem?_eq_some_iff.1 h1)
    obtain ⟨h3, h4⟩ := h2
    simp at h4; exact h4.symm
  have hkn : k < n := List.mem_range.1 (by rw [e]; simp)
  refine ⟨k, hkn, hk, fun j hj => hn j ?_⟩
  have h1 : (List.range n)[j]? = some j := by rw [List.getElem?_range (by omega)]
  rw [e, List.getElem?_append_left (by omega)] at h1
  exact List.mem_of_getElem? h1

theorem circ_good {n : Nat} {cs : List (List Int)} : ∀ (f : Nat) (rows : List (List Int)) (path r : List Int), Tour n cs rows path r → f + path.length = fct n →
    (∀ p, circF cs (fct n) f rows path = some p → ∃ q, p = path ++ q ∧ q.length = f ∧ goodQ cs rows r q ∧ ∀ q', q'.length = f → goodQ cs rows r q' → belowL q' q = false) ∧
    (circF cs (fct n) f rows path = none → ∀ q', q'.length = f → ¬ goodQ cs rows r q')
  | 0, rows, path, r, ht, hf => ⟨fun p h => by simp [circF] at h, fun _ q' hq hg => by
      rw [List.eq_nil_of_length_eq_zero hq] at hg; exact hg⟩
  | f + 1, rows, path, r, ht, hf => by
    have hl := ht.last
    -- one change: found or not
    have step : ∀ k, k < cs.length →
        (∀ p, circK (circF cs (fct n) f) cs (fct n) rows path k = some p → ∃ q, p = path ++ (k : Int) :: q ∧ q.length = f ∧ goodQ cs rows r ((k : Int) :: q) ∧ ∀ q', q'.length = f → goodQ cs rows r ((k : Int) :: q') → belowL q' q = false) ∧
        (circK (circF cs (fct n) f) cs (fct n) rows path k = none → ∀ q', q'.length = f → ¬ goodQ cs rows r ((k : Int) :: q')) := by
      intro k hk
      have hkk : (0 : Int) ≤ (k : Int) ∧ (k : Int) < cs.length := by omega
      have ek : ((k : Nat) : Int).toNat = k := by omega
      by_cases hp : path.length + 1 = fct n
      · have hf0 : f = 0 := by omega
        subst hf0
        by_cases h0 : rankL (byL r (cs.getD k [])) = 0
        · rw [circK_hit hl hp h0]
          refine ⟨fun p h => ⟨[], by simpa using h.symm, rfl, ?_, fun q' hq _ => by rw [List.eq_nil_of_length_eq_zero hq]; rfl⟩, fun h => by cases h⟩
          rw [goodQ, ek, if_pos rfl]; exact ⟨hkk, h0⟩
        · rw [circK_in hl (fun h => h0 h.2) (.inl hp)]
          refine ⟨fun p h => (by cases h), fun _ q' hq hg => ?_⟩
          rw [List.eq_nil_of_length_eq_zero hq, goodQ, ek, if_pos rfl] at hg
          exact h0 hg.2
      · have hfp : f ≠ 0 := by omega
        by_cases hm : byL r (cs.getD k []) ∈ rows
        · rw [circK_in hl (fun h => hp h.1) (.inr hm)]
          refine ⟨fun p h => (by cases h), fun _ q' hq hg => ?_⟩
          rw [goodQ, ek, if_neg (by rintro rfl; simp at hq; omega)] at hg
          exact hg.2.1 hm
        · rw [circK_on hl hp hm]
          have ih := circ_good f _ _ _ (ht.next hk hm) (by simp; omega)
          refine ⟨fun p h => ?_, fun h q' hq hg => ?_⟩
          · obtain ⟨q, e, h1, h2, h3⟩ := ih.1 p h
            refine ⟨q, by rw [e]; simp, h1, ?_, fun q' hq' hg => h3 q' hq' ?_⟩
            · rw [goodQ, ek, if_neg (by rintro rfl; simp at h1; omega)]; exact ⟨hkk, hm, h2⟩
            · rw [goodQ, ek, if_neg (by rintro rfl; simp at hq'; omega)] at hg; exact hg.2.2
          · rw [goodQ, ek, if_neg (by rintro rfl; simp at hq; omega)] at hg
            exact ih.2 h q' hq hg.2.2
    refine ⟨fun p h => ?_, fun h q' hq hg => ?_⟩
    · rw [circF] at h
      obtain ⟨k, hk, e, hno⟩ := findSome_split h
      obtain ⟨q, e1, h1, h2, h3⟩ := (step k hk).1 p e
      refine ⟨(k : Int) :: q, e1, by simp [h1], h2, fun q' hq hg => ?_⟩
      cases q' with
      | nil => simp at hq
      | cons j q' =>
        have hj := hg
        rw [goodQ] at hj
        obtain ⟨hj1, _⟩ := hj
        rw [belowL]
        by_cases hjk : j = (k : Int)
        · rw [if_pos hjk]
          exact h3 q' (by simpa using hq) (by rw [← hjk]; exact hg)
        · rw [if_neg hjk]
          refine decide_eq_false fun hlt => ?_
          have hjn : ((j.toNat : Nat) : Int) = j := by omega
          have := (step j.toNat (by omega)).2 (hno j.toNat (by omega)) q' (by simpa using hq)
          rw [hjn] at this
          exact this hg
    · cases q' with
      | nil => simp at hq
      | cons j q' =>
        have hj := hg
        rw [goodQ] at hj
        obtain ⟨hj1, _⟩ := hj
        have hjn : ((j.toNat : Nat) : Int) = j := by omega
        rw [circF, List.findSome?_eq_none_iff] at h
        have := (step j.toNat (by omega)).2 (h j.toNat (List.mem_range.2 (by omega))) q' (by simpa using hq)
        rw [hjn] at this
        exact this hg

/-- All rows once, and then rounds? -/
def ringsF (cs : List (List Int)) : List (List Int) → List Int → List Int → Bool
  | _, r, [] => decide (rankL r = 0)
  | vis, r, k :: q => (decide (0 ≤ k) && decide (k < cs.length)) && (decide (r ∉ vis) && ringsF cs (vis ++ [r]) (byL r (cs.getD k.toNat [])) q)
def ringsB (n : Nat) (cs : List (List Int)) (p : List Int) : Bool := decide (p.length = fct n) && ringsF cs [] (roundsL n) p
theorem rings_good {cs : List (List Int)} : ∀ (q : List Int) (vis : List (List Int)) (r : List Int), q ≠ [] → (ringsF cs vis r q = true ↔ r ∉ vis ∧ goodQ cs (vis ++ [r]) r q)
  | [], _, _, h => absurd rfl h
  | [k], vis, r, _ => by
    rw [ringsF, ringsF, goodQ]
    simp only [Bool.and_eq_true, decide_eq_true_eq, if_true]
    constructor
    · rintro ⟨h1, h2, h3⟩; exact ⟨h2, h1, h3⟩
    · rintro ⟨h2, h1, h3⟩; exact ⟨h1, h2, h3⟩
  | k :: j :: q, vis, r, _ => by
    rw [ringsF, goodQ, if_neg (by simp)]
    simp only [Bool.and_eq_true, decide_eq_true_eq]
    rw [rings_good (j :: q) (vis ++ [r]) _ (by simp)]
    constructor
    · rintro ⟨h1, h2, h3, h4⟩; exact ⟨h2, h1, h3, h4⟩
    · rintro ⟨h2, h1, h3, h4⟩; exact ⟨h1, h2, h3, h4⟩
theorem ringsB_good {n : Nat} {cs : List (List Int)} {p : List Int} : ringsB n cs p = true ↔ p.length = fct n ∧ goodQ cs [roundsL n] (roundsL n) p := by
  unfold ringsB
  rw [Bool.and_eq_true, decide_eq_true_eq]
  constructor
  · rintro ⟨h1, h2⟩
    have := fct_pos n
    exact ⟨h1, ((rings_good p [] _ (by rintro rfl; simp at h1; omega)).1 h2).2⟩
  · rintro ⟨h1, h2⟩
    have := fct_pos n
    exact ⟨h1, (rings_good p [] _ (by rintro rfl; simp at h1; omega)).2 ⟨by simp, h2⟩⟩
theorem rings_step {cs : List (List Int)} {vis : List (List Int)} {r p : List Int} {i : Nat} {z : Bool} (h : ringsF cs vis r (p.drop i) = z) (hi : i < p.length) :
    ((decide (0 ≤ p.getD i 0) && decide (p.getD i 0 < cs.length)) && (decide (r ∉ vis) && ringsF cs (vis ++ [r]) (byL r (cs.getD (p.getD i 0).toNat [])) (p.drop (i + 1)))) = z := by
  rw [List.drop_eq_getElem_cons hi, ringsF] at h
  simpa [hi] using h
/-- What is held of the rows that were rung. -/
def SeenB (n : Nat) (vis : List (List Int)) (f : Int → Option Bool) : Prop := ∀ x, IsRow x → x.length = n → (f ((rankL x : Nat) : Int)).getD false = decide (x ∈ vis)
theorem SeenB.put {n : Nat} {vis : List (List Int)} {f : Int → Option Bool} (h : SeenB n vis f) {x : List Int} (hx : IsRow x) (hl : x.length = n) : SeenB n (vis ++ [x]) (fun p => if p = ((rankL x : Nat) : Int) then some true else f p) := by
  intro y hy hly
  by_cases e : y = x
  · subst e; simp
  · have hne : rankL y ≠ rankL x := fun hh => e (rank_row_inj hy hx (by omega) hh)
    simp only [Int.natCast_inj, if_neg hne]
    rw [h y hy hly]
    simp [e]
/-- The changes that the law draws. -/
def chgsL (raw : List Int) (n many : Nat) : List (List Int) := (List.range many).map fun i => chgRow n (changeOf (rawAt raw i) n)
theorem chgsL_len (raw : List Int) (n many : Nat) : (chgsL raw n many).length = many := by simp [chgsL]
theorem chgsL_succ (raw : List Int) (n k : Nat) : chgsL raw n (k + 1) = chgsL raw n k ++ [chgRow n (changeOf (rawAt raw k) n)] := by simp [chgsL, List.range_succ]
theorem chgsL_get {raw : List Int} {n many k : Nat} (h : k < many) : (chgsL raw n many).getD k [] = chgRow n (changeOf (rawAt raw k) n) := by simp [chgsL, h]
theorem chgsL_row {raw : List Int} {n many k : Nat} (h1 : 1 ≤ n) (h2 : n ≤ 12) (hk : k < many) : IsRow ((chgsL raw n many).getD k []) ∧ ((chgsL raw n many).getD k []).length = n ∧ ordL ((chgsL raw n many).getD k []) ≤ 2 := by
  rw [chgsL_get hk]
  have h := ord_inv (changeOf_ok (rawAt raw k) n) h1 h2
  exact ⟨h.1, chgRow_len (changeOf_ok _ _), h.2.1⟩
theorem gensTo_all {n : Int} : ∀ {l : List (List Int)}, (∀ g ∈ l, IsRow g ∧ ((g.length : Nat) : Int) = n) → gensTo n l = 0
  | [], _ => rfl
  | x :: l, h => by
    rw [gensTo, if_neg (by rw [rowMay_ok.2 (h x (by simp)).1]; simp), if_neg (by rw [(h x (by simp)).2]; simp)]
    exact gensTo_all fun g hg => h g (by simp [hg])
theorem cirMay_chgs {raw : List Int} {n many : Nat} (h1 : 1 ≤ n) (h2 : n ≤ 4) (hm : many ≤ 8) : cirMay ((n : Nat) : Int) (chgsL raw n many) = 0 := by
  have hl := chgsL_len raw n many
  refine cirMay_ok (by omega) (fun h => h ?_) (fun k hk => (chgsL_row h1 (by omega) (by omega)).2.2)
  unfold gensMay
  rw [if_neg (by omega)]
  refine gensTo_all fun g hg => ?_
  obtain ⟨k, hk, rfl⟩ := List.getElem_of_mem hg
  have := chgsL_row (raw := raw) (n := n) (many := many) (k := k) h1 (by omega) (by omega)
  rw [List.getD_eq_getElem?_getD, List.getElem?_eq_getElem hk] at this
  exact ⟨this.1, by have := this.2.1; simp at this ⊢; omega⟩
def leadsOf (raw : List Int) (many calls : Nat) : List Int := (List.range many).map fun i => ((pick (rawAt raw i) calls : Nat) : Int)
theorem leadsOf_len (raw : List Int) (many calls : Nat) : (leadsOf raw many calls).length = many := by simp [leadsOf]
theorem leadsOf_succ (raw : List Int) (k calls : Nat) : leadsOf raw (k + 1) calls = leadsOf raw k calls ++ [((pick (rawAt raw k) calls : Nat) : Int)] := by simp [leadsOf, List.range_succ]
/-- The law: what is told rings, and nothing ahead of it. -/
theorem ring_law {n : Nat} {cs : List (List Int)} (h : cirMay ((n : Nat) : Int) cs = 0) : (∀ p, cirO ((n : Nat) : Int) cs = some p → ringsB n cs p = true ∧ ∀ g, ringsB n cs g = true → belowL g p = false) ∧ (cirO ((n : Nat) : Int) cs = none → ∀ g, ringsB n cs g = false) := by
  have hf := cirMay_facts h
  have ht := Tour.start hf.1 hf.2
  have hg := circ_good (fct n) _ _ _ ht rfl
  rw [cirO_ok h]
  refine ⟨fun p hp => ?_, fun hn g => ?_⟩
  · obtain ⟨q, e, h1, h2, h3⟩ := hg.1 p hp
    simp at e; subst e
    exact ⟨ringsB_good.2 ⟨h1, h2⟩, fun g hg' => h3 g (ringsB_good.1 hg').1 (ringsB_good.1 hg').2⟩
  · cases hb : ringsB n cs g with
    | false => rfl
    | true => exact absurd (ringsB_good.1 hb).2 (hg.2 hn g (ringsB_good.1 hb).1)
theorem rings_stop {n : Nat} {cs vis : List (List Int)} {r p : List Int} {i : Nat} {fb : Int → Option Bool} (hv : ringsF cs vis r (p.drop i) = ringsF cs [] (roundsL n) p) (hi : i < p.length) (hs : SeenB n vis fb) (hr : IsRow r) (hrl : r.length = n)
    (c : ((decide (p.getD i 0 < 0) || decide (((cs.length : Nat) : Int) ≤ p.getD i 0)) || (fb ((rankL r : Nat) : Int)).getD false) = true) : ringsB n cs p = false := by
  have h := rings_step hv hi
  rw [hs r hr hrl] at c
  unfold ringsB
  rw [← h]
  simp only [Bool.or_eq_true, decide_eq_true_eq] at c
  rcases c with (c | c) | c
  · rw [decide_eq_false (show ¬ 0 ≤ p.getD i 0 by omega)]; simp
  · rw [decide_eq_false (show ¬ p.getD i 0 < ((cs.length : Nat) : Int) by omega)]; simp
  · simp [c]
theorem rings_on {n : Nat} {cs vis : List (List Int)} {r p : List Int} {i : Nat} {fb : Int → Option Bool} (hv : ringsF cs vis r (p.drop i) = ringsF cs [] (roundsL n) p) (hi : i < p.length) (hs : SeenB n vis fb) (hr : IsRow r) (hrl : r.length = n)
    (c : ((decide (p.getD i 0 < 0) || decide (((cs.length : Nat) : Int) ≤ p.getD i 0)) || (fb ((rankL r : Nat) : Int)).getD false) = false) :
    (0 ≤ p.getD i 0 ∧ p.getD i 0 < ((cs.length : Nat) : Int)) ∧ ringsF cs (vis ++ [r]) (byL r (cs.getD (p.getD i 0).toNat [])) (p.drop (i + 1)) = ringsF cs [] (roundsL n) p := by
  have h := rings_step hv hi
  rw [hs r hr hrl] at c
  simp only [Bool.or_eq_false_iff, decide_eq_false_iff_not] at c
  obtain ⟨⟨c1, c2⟩, c3⟩ := c
  refine ⟨by omega, ?_⟩
  rw [← h, decide_eq_true (show 0 ≤ p.getD i 0 by omega), decide_eq_true (show p.getD i 0 < ((cs.length : Nat) : Int) by omega), decide_eq_true c3]
  simp
theorem rings_end {n : Nat} {cs vis : List (List Int)} {r p : List Int} {i : Nat} (hv : ringsF cs vis r (p.drop i) = ringsF cs [] (roundsL n) p) (hi : p.length ≤ i) :
    (decide (((p.length : Nat) : Int) = ((fct n : Nat) : Int)) && decide (((rankL r : Nat) : Int) = 0)) = ringsB n cs p := by
  rw [List.drop_eq_nil_of_le hi, ringsF] at hv
  unfold ringsB
  rw [← hv]
  congr 1
  · rw [decide_eq_decide]; omega
  · rw [decide_eq_decide]; omega
theorem ring_facts {n : Nat} {cs : List (List Int)} {O : Option (List Int)} (h : cirMay ((n : Nat) : Int) cs = 0) (hO : O = cirO ((n : Nat) : Int) cs) :
    (O.isSome && !ringsB n cs (O.getD [])) = false ∧ (!O.isSome && decide ((0 : Int) < (((O.getD []).length : Nat) : Int))) = false ∧ (cs.length = 0 → O.isSome = false) ∧ ∀ g, (!ringsB n cs g || (O.isSome && !belowL g (O.getD []))) = true := by
  have hl := ring_law h
  rw [← hO] at hl
  cases hc : O with
  | none =>
    refine ⟨rfl, rfl, fun _ => rfl, fun g => by rw [hl.2 hc g]; rfl⟩
  | some p =>
    have h1 := hl.1 p hc
    refine ⟨by rw [Option.getD_some, h1.1]; rfl, rfl, fun hcs => ?_, fun g => ?_⟩
    · have h2 := (ringsB_good.1 h1.1).2
      cases p with
      | nil => exact absurd h2 (by simp [goodQ])
      | cons k q => rw [goodQ] at h2; omega
    · rw [Option.getD_some]
      cases hg : ringsB n cs g with
      | false => rfl
      | true => rw [h1.2 g hg]; rfl
end Go.KL
