/- Plain maths: touches that are searched. -/
import Derived.Test.YtbilebfnanlgfaaKlBuild
import Derived.Test.YtbilebfnanlgfaaKlRing
namespace Go.KL
structure Qst where
  met : Nat
  found : List (List Int)
  full : Bool
section
variable (n : Nat) (l : List (List Int)) (cs : List BCall) (leads many : Nat)
def trueP (p : List Int) : Bool := (prO (tRows n l cs p p.length)).isNone
def roundP (p : List Int) : Bool := rndB (tRows n l cs p p.length)
def overQ (s : Qst) : Bool := s.full || decide (many ≤ s.found.length)
def takeQ (F : List Int → Qst → Qst) (p : List Int) (s : Qst) : Qst :=
  if 20000 < s.met + 1 then ⟨s.met + 1, s.found, true⟩ else if p.length < leads then F p ⟨s.met + 1, s.found, s.full⟩ else if roundP n l cs p = true then ⟨s.met + 1, s.found ++ [p], s.full⟩ else ⟨s.met + 1, s.found, s.full⟩
def stepQ (F : List Int → Qst → Qst) (path : List Int) (s : Qst) (k : Nat) : Qst :=
  if overQ many s = true then s else if trueP n l cs (path ++ [((k : Nat) : Int)]) = true then takeQ n l cs leads F (path ++ [((k : Nat) : Int)]) s else s
def goQ : Nat → List Int → Qst → Qst
  | 0, _, s => s
  | d + 1, path, s => (List.range cs.length).foldl (stepQ n l cs leads many (goQ d) path) s
def lpQ (d : Nat) (path : List Int) (s : Qst) (k : Nat) : Qst := (List.range k).foldl (stepQ n l cs leads many (goQ n l cs leads many d) path) s
end
section
variable {n : Nat} {l : List (List Int)} {cs : List BCall} {leads many : Nat}
theorem lpQ_succ (d : Nat) (path : List Int) (s : Qst) (k : Nat) : lpQ n l cs leads many d path s (k + 1) = stepQ n l cs leads many (goQ n l cs leads many d) path (lpQ n l cs leads many d path s k) k := by
  unfold lpQ; rw [List.range_succ, List.foldl_append]; rfl
theorem goQ_lp (d : Nat) (path : List Int) (s : Qst) : goQ n l cs leads many (d + 1) path s = lpQ n l cs leads many d path s cs.length := rfl
theorem lpQ_over {d : Nat} {path : List Int} {s : Qst} {k : Nat} (h : overQ many (lpQ n l cs leads many d path s k) = true) : ∀ m, lpQ n l cs leads many d path s (k + m) = lpQ n l cs leads many d path s k
  | 0 => rfl
  | m + 1 => by
    rw [show k + (m + 1) = k + m + 1 by omega, lpQ_succ, lpQ_over h m, stepQ, if_pos h]
theorem goQ_over {d : Nat} {path : List Int} {s : Qst} {k : Nat} (h : overQ many (lpQ n l cs leads many d path s k) = true) (hk : k ≤ cs.length) : goQ n l cs leads many (d + 1) path s = lpQ n l cs leads many d path s k := by
  rw [goQ_lp]
  have := lpQ_over h (cs.length - k)
  rwa [show k + (cs.length - k) = cs.length by omega] at this
def QOk (many : Nat) (s : Qst) : Prop := s.found.length ≤ many ∧ s.met ≤ 20001 ∧ (s.full = false → s.met ≤ 20000)
theorem goQ_ok : ∀ (d : Nat) (path : List Int) (s : Qst), QOk many s → QOk many (goQ n l cs leads many d path s)
  | 0, _, s, h => h
  | d + 1, path, s, h => by
    have : ∀ k, QOk many (lpQ n l cs leads many d path s k) := fun k => by
      induction k with
      | zero => exact h
      | succ k ih =>
        rw [lpQ_succ, stepQ]
        split
        · exact ih
        · rename_i ho
          have hov : (lpQ n l cs leads many d path s k).full = false ∧ (lpQ n l cs leads many d path s k).found.length < many := by
            unfold overQ at ho
            simp only [Bool.or_eq_true, decide_eq_true_eq, not_or, Bool.not_eq_true] at ho
            exact ⟨ho.1, by omega⟩
          obtain ⟨i1, i2, i3⟩ := ih
          have i4 := i3 hov.1
          split
          · unfold takeQ
            split
            · exact ⟨i1, by show _ + 1 ≤ _; omega, fun h => by cases h⟩
            · split
              · exact goQ_ok d _ _ ⟨i1, by show _ + 1 ≤ _; omega, fun _ => by show _ + 1 ≤ _; omega⟩
              · split
                · refine ⟨?_, by show _ + 1 ≤ _; omega, fun _ => by show _ + 1 ≤ _; omega⟩
                  simp only [List.length_append, List.length_singleton]; omega
                · exact ⟨i1, by show _ + 1 ≤ _; omega, fun _ => by show _ + 1 ≤ _; omega⟩
          · exact ⟨i1, i2, i3⟩
    exact this cs.length
theorem lpQ_ok {d : Nat} {path : List Int} {s : Qst} (h : QOk many s) (k : Nat) : QOk many (lpQ n l cs leads many d path s k) := by
  induction k with
  | zero => exact h
  | succ k ih =>
    rw [lpQ_succ, stepQ]
    split
    · exact ih
    · rename_i ho
      have hov : (lpQ n l cs leads many d path s k).full = false ∧ (lpQ n l cs leads many d path s k).found.length < many := by
        unfold overQ at ho
        simp only [Bool.or_eq_true, decide_eq_true_eq, not_or, Bool.not_eq_true] at ho
        exact ⟨ho.1, by omega⟩
      obtain ⟨i1, i2, i3⟩ := ih
      have i4 := i3 hov.1
      split
      · unfold takeQ
        split
        · exact ⟨i1, by show _ + 1 ≤ _; omega, fun h => by cases h⟩
        · split
          · exact goQ_ok d _ _ ⟨i1, by show _ + 1 ≤ _; omega, fun _ => by show _ + 1 ≤ _; omega⟩
          · split
            · refine ⟨?_, by show _ + 1 ≤ _; omega, fun _ => by show _ + 1 ≤ _; omega⟩
              simp only [List.length_append, List.length_singleton]; omega
            · exact ⟨i1, by show _ + 1 ≤ _; omega, fun _ => by show _ + 1 ≤ _; omega⟩
      · exact ⟨i1, i2, i3⟩
/-! ### One lead more -/
theorem leadE_app {p : List Int} (q : List Int) {k : Nat} (hk : k < p.length) : leadE l cs (p ++ q) k = leadE l cs p k := by
  have e : (p ++ q).getD k 0 = p.getD k 0 := by rw [List.getD_eq_getElem?_getD, List.getElem?_append_left hk, ← List.getD_eq_getElem?_getD]
  unfold leadE; rw [e]
theorem tHd_app {p : List Int} (q : List Int) : ∀ k, k ≤ p.length → tHd n l cs (p ++ q) k = tHd n l cs p k
  | 0, _ => rfl
  | k + 1, hk => by rw [tHd, tHd, tHd_app q k (by omega), leadE_app q (by omega)]
theorem tRows_app {p : List Int} (q : List Int) : ∀ k, k ≤ p.length → tRows n l cs (p ++ q) k = tRows n l cs p k
  | 0, _ => rfl
  | k + 1, hk => by rw [tRows, tRows, tRows_app q k (by omega), tHd_app q k (by omega), leadE_app q (by omega)]
theorem leadE_last (p : List Int) (k : Nat) : leadE l cs (p ++ [((k : Nat) : Int)]) p.length = endsL l (cs.getD k D0) := by
  unfold leadE; simp
def nextF (n : Nat) (l : List (List Int)) (cs : List BCall) (p : List Int) (k : Nat) : List (List Int) := fromL (tHd n l cs p p.length) (endsL l (cs.getD k D0))
theorem tRows_next (p : List Int) (k : Nat) : tRows n l cs (p ++ [((k : Nat) : Int)]) (p ++ [((k : Nat) : Int)]).length = tRows n l cs p p.length ++ (nextF n l cs p k).drop 1 := by
  rw [List.length_append, List.length_singleton, tRows, tRows_app _ _ (Nat.le_refl _), tHd_app _ _ (Nat.le_refl _), leadE_last]; rfl
theorem tHd_next (p : List Int) (k : Nat) : tHd n l cs (p ++ [((k : Nat) : Int)]) (p ++ [((k : Nat) : Int)]).length = curL (tHd n l cs p p.length) (endsL l (cs.getD k D0)) l.length := by
  rw [List.length_append, List.length_singleton, tHd, tHd_app _ _ (Nat.le_refl _), leadE_last]
theorem inCalls_next {p : List Int} (h : inCalls cs p) {k : Nat} (hk : k < cs.length) : inCalls cs (p ++ [((k : Nat) : Int)]) := fun i hi => by
  rw [List.length_append, List.length_singleton] at hi
  by_cases e : i < p.length
  · rw [List.getD_eq_getElem?_getD, List.getElem?_append_left e, ← List.getD_eq_getElem?_getD]; exact h i e
  · rw [show i = p.length by omega, List.getD_eq_getElem?_getD, List.getElem?_append_right (Nat.le_refl _)]
    simp only [Nat.sub_self, List.getElem?_cons_zero, Option.getD_some]; omega
theorem touch_path {nm : ByteArray} {n : Int} {p : List Int} (h : callsMay nm n l cs = 0) (hi : inCalls cs p) (h1 : 1 ≤ p.length) (h2 : p.length ≤ 24) : touchMay nm n l cs p = 0 := by
  have hl := (callsMay_ok h).1.meth.l2
  have hm : p.length * l.length ≤ 24 * 200 := Nat.mul_le_mul h2 hl
  exact touchMay_yes h (by omega) hi (by omega)
/-! ### What was met -/
def seenS (S : List Int) : Int → Option Int := fun x_ => if x_ ∈ S then some 1 else none
theorem seenS_cons (S : List Int) (a : Int) : (fun x_ => if x_ = a then some (1 : Int) else seenS S x_) = seenS (a :: S) := by
  funext x; unfold seenS
  by_cases e : x = a
  · simp [e]
  · simp [e]
theorem seenS_del {S : List Int} {a : Int} (h : a ∉ S) : (fun x_ => if x_ = a then none else seenS (a :: S) x_) = seenS S := by
  funext x; unfold seenS
  by_cases e : x = a
  · simp [e, h]
  · simp [e]
theorem seenS_same {S T : List Int} (h : ∀ x, x ∈ S ↔ x ∈ T) : seenS S = seenS T := by
  funext x; unfold seenS; simp only [h]
abbrev rkI (r : List Int) : Int := ((rankL r : Nat) : Int)
def ringN : List Int → List (List Int) → Nat
  | _, [] => 0
  | S, r :: rs => if rkI r ∈ S then 0 else 1 + ringN (rkI r :: S) rs
def addS : List Int → List (List Int) → List Int
  | S, [] => S
  | S, r :: rs => addS (rkI r :: S) rs
theorem addS_snoc : ∀ (rows : List (List Int)) (S : List Int) (r : List Int), addS S (rows ++ [r]) = rkI r :: addS S rows
  | [], _, _ => rfl
  | x :: rows, S, r => by rw [List.cons_append, addS, addS_snoc rows, addS]
theorem mem_addS : ∀ {rows : List (List Int)} {S : List Int} {x : Int}, x ∈ addS S rows ↔ x ∈ S ∨ ∃ r ∈ rows, rkI r = x
  | [], S, x => by simp [addS]
  | r :: rows, S, x => by
    rw [addS, mem_addS, List.mem_cons]
    constructor
    · rintro ((h | h) | ⟨r', h1, h2⟩)
      · exact .inr ⟨r, by simp, h.symm⟩
      · exact .inl h
      · exact .inr ⟨r', by simp [h1], h2⟩
    · rintro (h | ⟨r', h1, h2⟩)
      · exact .inl (.inr h)
      · rcases List.mem_cons.1 h1 with e | e
        · subst e; exact .inl (.inl h2.symm)
        · exact .inr ⟨r', e, h2⟩
theorem ringN_le : ∀ (rows : List (List Int)) (S : List Int), ringN S rows ≤ rows.length
  | [], _ => Nat.le_refl _
  | r :: rows, S => by
    rw [ringN]
    split
    · omega
    · have := ringN_le rows (rkI r :: S); rw [List.length_cons]; omega
theorem ring_step {rows : List (List Int)} {S : List Int} {k N : Nat} (h : k + ringN (addS S (rows.take k)) (rows.drop k) = N) (hk : k < rows.length) (hn : rkI (rows.getD k []) ∉ addS S (rows.take k)) :
    (k + 1) + ringN (addS S (rows.take (k + 1))) (rows.drop (k + 1)) = N := by
  rw [drop_consD [] hk, ringN, if_neg hn] at h
  rw [take_snocD [] hk, addS_snoc]; omega
theorem ring_hit {rows : List (List Int)} {S : List Int} {k N : Nat} (h : k + ringN (addS S (rows.take k)) (rows.drop k) = N) (hk : k < rows.length) (hn : rkI (rows.getD k []) ∈ addS S (rows.take k)) : N = k := by
  rw [drop_consD [] hk, ringN, if_pos hn] at h; omega
theorem ring_end {rows : List (List Int)} {S : List Int} {k N : Nat} (h : k + ringN (addS S (rows.take k)) (rows.drop k) = N) (hk : rows.length ≤ k) : N = k := by
  rw [List.drop_eq_nil_of_le hk] at h; exact h.symm
def NewR (S : List Int) (rows : List (List Int)) : Prop := ∀ i, i < rows.length → rkI (rows.getD i []) ∉ S ∧ ∀ j, j < i → rankL (rows.getD j []) ≠ rankL (rows.getD i [])
theorem newR_ring : ∀ (rows : List (List Int)) (S : List Int), NewR S (rows.take (ringN S rows))
  | [], S => fun i hi => by simp at hi
  | r :: rows, S => by
    rw [ringN]
    split
    · exact fun i hi => by simp at hi
    · rename_i hr
      rw [Nat.add_comm, List.take_succ_cons]
      have ih := newR_ring rows (rkI r :: S)
      intro i hi
      cases i with
      | zero => exact ⟨hr, fun j hj => by omega⟩
      | succ i =>
        obtain ⟨h1, h2⟩ := ih i (by simpa using hi)
        rw [List.mem_cons, not_or] at h1
        refine ⟨by simpa using h1.2, fun j hj => ?_⟩
        cases j with
        | zero => intro e; refine h1.1 ?_; simp only [List.getD_cons_zero, List.getD_cons_succ] at e; exact congrArg (fun z : Nat => (z : Int)) e.symm
        | succ j => simpa using h2 j (by omega)
theorem newR_full : ∀ (rows : List (List Int)) (S : List Int), NewR S rows → ringN S rows = rows.length
  | [], S, _ => rfl
  | r :: rows, S, h => by
    have h0 := h 0 (by simp)
    rw [ringN, if_neg (by simpa using h0.1)]
    rw [newR_full rows (rkI r :: S) (fun i hi => ?_), List.length_cons, Nat.add_comm]
    obtain ⟨h1, h2⟩ := h (i + 1) (by simpa using hi)
    refine ⟨?_, fun j hj => by simpa using h2 (j + 1) (by omega)⟩
    rw [List.mem_cons, not_or]
    refine ⟨fun e => h2 0 (by omega) ?_, by simpa using h1⟩
    simp only [List.getD_cons_zero, List.getD_cons_succ]
    unfold rkI at e; omega
theorem newR_drop {S : List Int} {rows : List (List Int)} (h : NewR S rows) {j : Nat} (hj : j < rows.length) : rkI (rows.getD j []) ∉ addS S (rows.drop (j + 1)) := fun hm => by
  rcases mem_addS.1 hm with h1 | ⟨r, h1, h2⟩
  · exact (h j hj).1 h1
  · obtain ⟨i, hi, e⟩ := List.getElem_of_mem h1
    rw [List.length_drop] at hi
    rw [List.getElem_drop] at e
    refine (h (j + 1 + i) (by omega)).2 j (by omega) ?_
    rw [List.getD_eq_getElem?_getD (i := j + 1 + i), List.getElem?_eq_getElem (by omega), Option.getD_some, e]
    unfold rkI at h2; omega
theorem del_step {S : List Int} {rows : List (List Int)} (h : NewR S rows) {j : Nat} (hj : j < rows.length) : (fun x_ => if x_ = rkI (rows.getD j []) then none else seenS (addS S (rows.drop j)) x_) = seenS (addS S (rows.drop (j + 1))) := by
  rw [drop_consD [] hj, addS]
  have e : seenS (addS (rkI (rows.getD j []) :: S) (rows.drop (j + 1))) = seenS (rkI (rows.getD j []) :: addS S (rows.drop (j + 1))) := seenS_same fun x => by
    rw [mem_addS, List.mem_cons, List.mem_cons, mem_addS]
    constructor
    · rintro ((h | h) | h)
      · exact .inl h
      · exact .inr (.inl h)
      · exact .inr (.inr h)
    · rintro (h | h | h)
      · exact .inl (.inl h)
      · exact .inl (.inr h)
      · exact .inr h
  rw [e]
  exact seenS_del (newR_drop h hj)
def VisOk (n : Nat) (l : List (List Int)) (cs : List BCall) (p : List Int) (S : List Int) : Prop := ∀ x, x ∈ S ↔ ∃ i, i < p.length * l.length ∧ rkI ((tRows n l cs p p.length).getD i []) = x
variable {nm : ByteArray}
theorem nextF_len (h : CallsOk nm n l cs) {p : List Int} {k : Nat} (hk : k < cs.length) : (nextF n l cs p k).length = l.length + 1 := by
  unfold nextF; rw [fromL, fromTo_len, endsL_len (h.short k hk)]
theorem next_get (h : CallsOk nm n l cs) {p : List Int} (hi : inCalls cs p) {k : Nat} (hk : k < cs.length) {j : Nat} (hj : j ≤ l.length) :
    (tRows n l cs (p ++ [((k : Nat) : Int)]) (p ++ [((k : Nat) : Int)]).length).getD (p.length * l.length + j) [] = (nextF n l cs p k).getD j [] := by
  have h1 := tRows_len h hi p.length (Nat.le_refl _)
  have h2 := nextF_len h (p := p) hk
  have hl1 := h.meth.l1
  rw [tRows_next, List.getD_eq_getElem?_getD]
  by_cases e : j = 0
  · subst e
    rw [List.getElem?_append_left (by omega), ← List.getD_eq_getElem?_getD, Nat.add_zero, tRows_last h hi _ (Nat.le_refl _)]
    unfold nextF; rw [fromL_getj (Nat.zero_le _)]; rfl
  · rw [List.getElem?_append_right (by omega), h1, List.getElem?_drop, ← List.getD_eq_getElem?_getD]
    congr 1; omega
theorem next_get0 (h : CallsOk nm n l cs) {p : List Int} (hi : inCalls cs p) {k : Nat} {i : Nat} (hj : i < p.length * l.length) :
    (tRows n l cs (p ++ [((k : Nat) : Int)]) (p ++ [((k : Nat) : Int)]).length).getD i [] = (tRows n l cs p p.length).getD i [] := by
  have h1 := tRows_len h hi p.length (Nat.le_refl _)
  rw [tRows_next, List.getD_eq_getElem?_getD, List.getElem?_append_left (by omega), ← List.getD_eq_getElem?_getD]
theorem trueP_sep (h : CallsOk nm n l cs) {p : List Int} (hi : inCalls cs p) : trueP n l cs p = true ↔ Sep (tRows n l cs p p.length) (p.length * l.length) := by
  unfold trueP
  rw [Option.isNone_iff_eq_none, prO_none, tRows_len h hi _ (Nat.le_refl _), Nat.add_sub_cancel]
theorem true_iff (h : CallsOk nm n l cs) {p S : List Int} (hi : inCalls cs p) (ht : trueP n l cs p = true) (hv : VisOk n l cs p S) {k : Nat} (hk : k < cs.length) :
    trueP n l cs (p ++ [((k : Nat) : Int)]) = true ↔ NewR S ((nextF n l cs p k).take l.length) := by
  have hl := nextF_len h (p := p) hk
  have hm : ((nextF n l cs p k).take l.length).length = l.length := by rw [List.length_take]; omega
  have hlen : (p ++ [((k : Nat) : Int)]).length * l.length = p.length * l.length + l.length := by rw [List.length_append, List.length_singleton, Nat.succ_mul]
  rw [trueP_sep h (inCalls_next hi hk), hlen]
  have hp := (trueP_sep h hi).1 ht
  constructor
  · intro hs i hi2
    rw [hm] at hi2
    rw [getD_takeD [] hi2, ← next_get h hi hk (Nat.le_of_lt hi2)]
    refine ⟨fun hx => ?_, fun j hj => ?_⟩
    · obtain ⟨a, h1, h2⟩ := (hv _).1 hx
      have := hs a (p.length * l.length + i) (by omega) (by omega)
      rw [next_get0 h hi h1] at this
      unfold rkI at h2; omega
    · rw [getD_takeD [] (by omega), ← next_get h hi hk (by omega)]
      exact hs _ _ (by omega) (by omega)
  · intro hs a b hab hb
    by_cases hb2 : b < p.length * l.length
    · rw [next_get0 h hi (by omega), next_get0 h hi hb2]; exact hp a b hab hb2
    · obtain ⟨i, rfl⟩ : ∃ i, b = p.length * l.length + i := ⟨b - p.length * l.length, by omega⟩
      obtain ⟨h1, h2⟩ := hs i (by omega)
      rw [getD_takeD [] (by omega)] at h1
      rw [next_get h hi hk (by omega)]
      by_cases ha : a < p.length * l.length
      · rw [next_get0 h hi ha]
        intro e
        refine h1 ((hv _).2 ⟨a, ha, ?_⟩)
        unfold rkI; rw [e]
      · obtain ⟨j, rfl⟩ : ∃ j, a = p.length * l.length + j := ⟨a - p.length * l.length, by omega⟩
        rw [next_get h hi hk (by omega)]
        have := h2 j (by omega)
        rwa [getD_takeD [] (by omega), getD_takeD [] (by omega)] at this
theorem true_ring (h : CallsOk nm n l cs) {p S : List Int} (hi : inCalls cs p) (ht : trueP n l cs p = true) (hv : VisOk n l cs p S) {k : Nat} (hk : k < cs.length) :
    trueP n l cs (p ++ [((k : Nat) : Int)]) = true ↔ ringN S ((nextF n l cs p k).take l.length) = l.length := by
  have hl := nextF_len h (p := p) hk
  have hm : ((nextF n l cs p k).take l.length).length = l.length := by rw [List.length_take]; omega
  rw [true_iff h hi ht hv hk]
  constructor
  · intro hn; rw [newR_full _ _ hn, hm]
  · intro e
    have := newR_ring ((nextF n l cs p k).take l.length) S
    rwa [e, List.take_of_length_le (by omega)] at this
theorem vis_next (h : CallsOk nm n l cs) {p S : List Int} (hi : inCalls cs p) (hv : VisOk n l cs p S) {k : Nat} (hk : k < cs.length) : VisOk n l cs (p ++ [((k : Nat) : Int)]) (addS S ((nextF n l cs p k).take l.length)) := fun x => by
  have hl := nextF_len h (p := p) hk
  have hm : ((nextF n l cs p k).take l.length).length = l.length := by rw [List.length_take]; omega
  have hlen : (p ++ [((k : Nat) : Int)]).length * l.length = p.length * l.length + l.length := by rw [List.length_append, List.length_singleton, Nat.succ_mul]
  rw [mem_addS, hv, hlen]
  constructor
  · rintro (⟨i, h1, h2⟩ | ⟨r, h1, h2⟩)
    · exact ⟨i, by omega, by rw [next_get0 h hi h1]; exact h2⟩
    · obtain ⟨j, hj, e⟩ := List.getElem_of_mem h1
      refine ⟨p.length * l.length + j, by omega, ?_⟩
      rw [next_get h hi hk (by omega), ← getD_takeD [] (show j < l.length by omega), List.getD_eq_getElem?_getD, List.getElem?_eq_getElem hj, Option.getD_some, e]; exact h2
  · rintro ⟨i, h1, h2⟩
    by_cases hi2 : i < p.length * l.length
    · exact .inl ⟨i, hi2, by rw [next_get0 h hi hi2] at h2; exact h2⟩
    · obtain ⟨j, rfl⟩ : ∃ j, i = p.length * l.length + j := ⟨i - p.length * l.length, by omega⟩
      rw [next_get h hi hk (by omega), ← getD_takeD [] (show j < l.length by omega)] at h2
      exact .inr ⟨_, mem_getDD [] (by omega), h2⟩
theorem vis_nil (n : Nat) (l : List (List Int)) (cs : List BCall) : VisOk n l cs [] [] := fun x => by simp
theorem true_nil (n : Nat) (l : List (List Int)) (cs : List BCall) : trueP n l cs [] = true := by
  unfold trueP; rw [Option.isNone_iff_eq_none, prO_none]
  intro i j hij hj
  simp [tRows] at hj
/-! ### What is answered -/
def qMay (nm : ByteArray) (n : Int) (l : List (List Int)) (cs : List BCall) (leads many : Int) : Int :=
  if callsMay nm n l cs ≠ 0 then callsMay nm n l cs else if leads < 1 ∨ 24 < leads ∨ many < 1 ∨ 50 < many then 1
  else if (goQ n.toNat l cs leads.toNat many.toNat leads.toNat [] ⟨0, [], false⟩).full = true then 3 else 0
def qFnd (n : Int) (l : List (List Int)) (cs : List BCall) (leads many : Int) : List (List Int) := (goQ n.toNat l cs leads.toNat many.toNat leads.toNat [] ⟨0, [], false⟩).found
end
end Go.KL
namespace Go.KL
section
variable {n : Nat} {l : List (List Int)} {cs : List BCall} {leads many f k : Nat} {path : List Int} {s0 s : Qst}
theorem go_stop (hs : s = lpQ n l cs leads many f path s0 k) (hk : k ≤ cs.length) (hc : ((decide (((k : Nat) : Int) < ((cs.length : Nat) : Int)) && !s.full) && decide (((s.found.length : Nat) : Int) < ((many : Nat) : Int))) = false) :
    goQ n l cs leads many (f + 1) path s0 = s := by
  by_cases e : k = cs.length
  · rw [goQ_lp, ← e, hs]
  · have ho : overQ many s = true := by
      unfold overQ
      simp only [Bool.and_eq_false_iff, decide_eq_false_iff_not, Bool.not_eq_false'] at hc
      simp only [Bool.or_eq_true, decide_eq_true_eq]
      rcases hc with (h | h) | h
      · omega
      · exact .inl h
      · right; omega
    rw [hs] at ho ⊢
    exact goQ_over ho hk
theorem go_on (hc : ((decide (((k : Nat) : Int) < ((cs.length : Nat) : Int)) && !s.full) && decide (((s.found.length : Nat) : Int) < ((many : Nat) : Int))) = true) : k < cs.length ∧ overQ many s = false ∧ s.full = false ∧ s.found.length < many := by
  simp only [Bool.and_eq_true, decide_eq_true_eq, Bool.not_eq_true'] at hc
  unfold overQ
  refine ⟨by omega, ?_, hc.1.2, by omega⟩
  rw [hc.1.2, Bool.false_or, decide_eq_false_iff_not]; omega
theorem lp_A (hs : s = lpQ n l cs leads many f path s0 k) (ho : overQ many s = false) (ht : trueP n l cs (path ++ [((k : Nat) : Int)]) = false) : s = lpQ n l cs leads many f path s0 (k + 1) := by
  rw [lpQ_succ, ← hs, stepQ, if_neg (by rw [ho]; simp), if_neg (by rw [ht]; simp)]
theorem lp_T (hs : s = lpQ n l cs leads many f path s0 k) (ho : overQ many s = false) (ht : trueP n l cs (path ++ [((k : Nat) : Int)]) = true) : takeQ n l cs leads (goQ n l cs leads many f) (path ++ [((k : Nat) : Int)]) s = lpQ n l cs leads many f path s0 (k + 1) := by
  rw [lpQ_succ, ← hs, stepQ, if_neg (by rw [ho]; simp), if_pos ht]
theorem take_full {F : List Int → Qst → Qst} {p : List Int} (h : 20000 < s.met + 1) : takeQ n l cs leads F p s = ⟨s.met + 1, s.found, true⟩ := by unfold takeQ; rw [if_pos h]
theorem take_on {F : List Int → Qst → Qst} {p : List Int} (h : ¬ 20000 < s.met + 1) (h2 : p.length < leads) : takeQ n l cs leads F p s = F p ⟨s.met + 1, s.found, s.full⟩ := by unfold takeQ; rw [if_neg h, if_pos h2]
theorem take_yes {F : List Int → Qst → Qst} {p : List Int} (h : ¬ 20000 < s.met + 1) (h2 : ¬ p.length < leads) (h3 : roundP n l cs p = true) : takeQ n l cs leads F p s = ⟨s.met + 1, s.found ++ [p], s.full⟩ := by unfold takeQ; rw [if_neg h, if_neg h2, if_pos h3]
theorem take_no {F : List Int → Qst → Qst} {p : List Int} (h : ¬ 20000 < s.met + 1) (h2 : ¬ p.length < leads) (h3 : roundP n l cs p = false) : takeQ n l cs leads F p s = ⟨s.met + 1, s.found, s.full⟩ := by unfold takeQ; rw [if_neg h, if_neg h2, if_neg (by rw [h3]; simp)]
theorem go_full {t : Qst} (hs : t = lpQ n l cs leads many f path s0 (k + 1)) (hk : k < cs.length) (hf : t.full = true) : goQ n l cs leads many (f + 1) path s0 = t := by
  rw [hs] at hf ⊢
  exact goQ_over (by unfold overQ; rw [hf]; rfl) hk
theorem qok_next (h : QOk many s) (h2 : s.full = false) (h3 : ¬ 20000 < s.met + 1) : QOk many ⟨s.met + 1, s.found, s.full⟩ := ⟨h.1, by show s.met + 1 ≤ _; omega, fun _ => by show s.met + 1 ≤ _; omega⟩
end
end Go.KL
namespace Go.KL
section
variable {n : Nat} {l : List (List Int)} {cs : List BCall} {leads many f k : Nat} {path : List Int} {s0 s : Qst} {nm : ByteArray}
theorem seen_pos {S : List Int} {x : Int} : 0 < (seenS S x).getD 0 ↔ x ∈ S := by
  unfold seenS
  by_cases e : x ∈ S
  · simp [e]
  · simp [e]
theorem seenS_nil : seenS [] = fun _ => none := by funext x; simp [seenS]
theorem go_end (hs : s = lpQ n l cs leads many f path s0 k) (hk : k = cs.length) : goQ n l cs leads many (f + 1) path s0 = s := by rw [goQ_lp, ← hk, hs]
theorem over_yes (hs : s = lpQ n l cs leads many f path s0 k) (hk : k ≤ cs.length) (hc : (s.full || decide (((s.found.length : Nat) : Int) = ((many : Nat) : Int))) = true) : goQ n l cs leads many (f + 1) path s0 = s := by
  have ho : overQ many s = true := by
    unfold overQ
    simp only [Bool.or_eq_true, decide_eq_true_eq] at hc ⊢
    rcases hc with h | h
    · exact .inl h
    · right; omega
  rw [hs] at ho ⊢
  exact goQ_over ho hk
theorem over_no (hq : s.found.length ≤ many) (hc : (s.full || decide (((s.found.length : Nat) : Int) = ((many : Nat) : Int))) = false) : overQ many s = false ∧ s.full = false ∧ s.found.length < many := by
  simp only [Bool.or_eq_false_iff, decide_eq_false_iff_not] at hc
  refine ⟨?_, hc.1, by omega⟩
  unfold overQ; rw [hc.1, Bool.false_or, decide_eq_false_iff_not]; omega
theorem lines_get {k : Nat} (hk : k < cs.length) : (cs.map (endsL l)).getD k [] = endsL l (cs.getD k D0) := by simp [hk]
theorem next_last (h : CallsOk nm n l cs) {k : Nat} (hk : k < cs.length) : (nextF n l cs path k).getD l.length [] = tHd n l cs (path ++ [((k : Nat) : Int)]) (path ++ [((k : Nat) : Int)]).length := by
  unfold nextF
  rw [fromL_getj (by rw [endsL_len (h.short k hk)]; exact Nat.le_refl _), tHd_next]
theorem next_row (h : CallsOk nm n l cs) (hi : inCalls cs path) {k : Nat} (hk : k < cs.length) {j : Nat} (hj : j ≤ l.length) : IsRow ((nextF n l cs path k).getD j []) ∧ ((nextF n l cs path k).getD j []).length = n := by
  have hi2 := inCalls_next hi hk
  have hlen : (path ++ [((k : Nat) : Int)]).length * l.length = path.length * l.length + l.length := by rw [List.length_append, List.length_singleton, Nat.succ_mul]
  rw [← next_get h hi hk hj]
  exact tRows_row h hi2 (by omega)
theorem round_hd (h : CallsOk nm n l cs) (hi : inCalls cs path) : roundP n l cs path = decide (((rankL (tHd n l cs path path.length) : Nat) : Int) = (0 : Int)) := by
  unfold roundP rndB
  rw [tRows_len h hi _ (Nat.le_refl _), Nat.add_sub_cancel, tRows_last h hi _ (Nat.le_refl _)]
theorem lines_snoc {k : Nat} (hk : k < cs.length) : (cs.take (k + 1)).map (endsL l) = (cs.take k).map (endsL l) ++ [endsL l ((cs.getD k D0).1, (cs.getD k D0).2)] := by
  rw [take_snocD D0 hk, List.map_append]; rfl
theorem qMay_calls {n leads many : Int} (h : callsMay nm n l cs ≠ 0) : qMay nm n l cs leads many = callsMay nm n l cs := by unfold qMay; rw [if_pos h]
theorem qMay_cnt {n leads many : Int} (h : ¬ callsMay nm n l cs ≠ 0) (h2 : leads < 1 ∨ 24 < leads ∨ many < 1 ∨ 50 < many) : qMay nm n l cs leads many = 1 := by unfold qMay; rw [if_neg h, if_pos h2]
theorem qMay_full {n leads many : Int} (h : ¬ callsMay nm n l cs ≠ 0) (h2 : ¬ (leads < 1 ∨ 24 < leads ∨ many < 1 ∨ 50 < many)) (h3 : (goQ n.toNat l cs leads.toNat many.toNat leads.toNat [] ⟨0, [], false⟩).full = true) : qMay nm n l cs leads many = 3 := by unfold qMay; rw [if_neg h, if_neg h2, if_pos h3]
theorem qMay_ok {n leads many : Int} (h : ¬ callsMay nm n l cs ≠ 0) (h2 : ¬ (leads < 1 ∨ 24 < leads ∨ many < 1 ∨ 50 < many)) (h3 : ¬ (goQ n.toNat l cs leads.toNat many.toNat leads.toNat [] ⟨0, [], false⟩).full = true) : qMay nm n l cs leads many = 0 := by unfold qMay; rw [if_neg h, if_neg h2, if_neg h3]
theorem qok_zero (many : Nat) : QOk many ⟨0, [], false⟩ := ⟨Nat.zero_le _, by decide, fun _ => by decide⟩
end
end Go.KL
