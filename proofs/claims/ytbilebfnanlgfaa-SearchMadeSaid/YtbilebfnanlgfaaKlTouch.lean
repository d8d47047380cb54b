/- Plain maths: calls and touches. -/
import Derived.Test.YtbilebfnanlgfaaKlCourse
import Derived.Test.YtbilebfnanlgfaaKlCells
namespace Go.KL
abbrev BCall := Int × List (List Int)
def callC (c : BCall) : List Ty := [Ty.val (.int .i32 c.1), Ty.rows c.2]
theorem callOne : ∀ x, ∀ U ∈ callC x, One U := fun x U hU => by
  simp only [callC, List.mem_cons, List.not_mem_nil, or_false] at hU
  rcases hU with rfl | rfl
  · exact one_val rfl
  · exact one_sl
def signMay (c : Int) : Bool := decide (33 ≤ c ∧ c ≤ 12287 ∧ c ≠ 40 ∧ c ≠ 41 ∧ ¬ (48 ≤ c ∧ c ≤ 57) ∧ (c < 127 ∨ 160 < c))
/-! ### Which calls may be -/
def callStep (n : Int) (L : Nat) (pre : List Int) (c : BCall) : Int :=
  if signMay c.1 = false then 4 else if c.1 ∈ pre then 8 else if L < c.2.length then 1 else allMay n c.2
def callsTo (n : Int) (L : Nat) : List Int → List BCall → Int
  | _, [] => 0
  | pre, c :: cs => if callStep n L pre c ≠ 0 then callStep n L pre c else callsTo n L (pre ++ [c.1]) cs
def callsMay (nm : ByteArray) (n : Int) (l : List (List Int)) (cs : List BCall) : Int :=
  if methMay nm n l ≠ 0 then methMay nm n l else if cs.length < 1 ∨ 8 < cs.length then 1 else callsTo n l.length [] cs
abbrev D0 : BCall := (0, [])
theorem drop_consD {α : Type} (d : α) {l : List α} {k : Nat} (h : k < l.length) : l.drop k = l.getD k d :: l.drop (k + 1) := by
  rw [List.drop_eq_getElem_cons h]; simp [h]
theorem take_snocD {α : Type} (d : α) {l : List α} {k : Nat} (h : k < l.length) : l.take (k + 1) = l.take k ++ [l.getD k d] := by
  rw [List.take_add_one]; simp [h]
theorem calls_step {n : Int} {L : Nat} {cs : List BCall} {i : Nat} {e : Int} (h : callsTo n L ((cs.take i).map (·.1)) (cs.drop i) = e) (hi : i < cs.length) (hc : callStep n L ((cs.take i).map (·.1)) (cs.getD i D0) = 0) :
    callsTo n L ((cs.take (i + 1)).map (·.1)) (cs.drop (i + 1)) = e := by
  rw [drop_consD D0 hi, callsTo, if_neg (by rw [hc]; simp)] at h
  rw [take_snocD D0 hi, List.map_append]; exact h
theorem calls_stop {n : Int} {L : Nat} {cs : List BCall} {i : Nat} {e : Int} (h : callsTo n L ((cs.take i).map (·.1)) (cs.drop i) = e) (hi : i < cs.length) (hc : callStep n L ((cs.take i).map (·.1)) (cs.getD i D0) ≠ 0) :
    e = callStep n L ((cs.take i).map (·.1)) (cs.getD i D0) := by
  rw [drop_consD D0 hi, callsTo, if_pos hc] at h; exact h.symm
theorem calls_end {n : Int} {L : Nat} {cs : List BCall} {i : Nat} {e : Int} (h : callsTo n L ((cs.take i).map (·.1)) (cs.drop i) = e) (hi : cs.length ≤ i) : e = 0 := by
  rw [List.drop_eq_nil_of_le hi] at h; exact h.symm
structure CallsOk (nm : ByteArray) (n : Nat) (l : List (List Int)) (cs : List BCall) : Prop where
  meth : MethOk nm n l
  c1 : 1 ≤ cs.length
  c8 : cs.length ≤ 8
  short : ∀ i, i < cs.length → (cs.getD i D0).2.length ≤ l.length
  ok : ∀ i, i < cs.length → ∀ k, k < (cs.getD i D0).2.length → okL 0 ((cs.getD i D0).2.getD k []) n
theorem callStep_ok {n : Int} {L : Nat} {pre : List Int} {c : BCall} (h : callStep n L pre c = 0) : c.2.length ≤ L ∧ allMay n c.2 = 0 := by
  unfold callStep at h
  split at h
  · cases h
  · split at h
    · cases h
    · split at h
      · cases h
      · exact ⟨by omega, h⟩
theorem callsTo_ok {n : Int} {L : Nat} : ∀ {cs : List BCall} {pre : List Int}, callsTo n L pre cs = 0 → ∀ c ∈ cs, c.2.length ≤ L ∧ allMay n c.2 = 0
  | [], _, _, c, h => by simp at h
  | d :: cs, pre, h, c, hc => by
    rw [callsTo] at h
    split at h
    · rename_i h2; exact absurd h h2
    · rename_i h2
      rcases List.mem_cons.1 hc with e | e
      · subst e; exact callStep_ok (Classical.not_not.1 h2)
      · exact callsTo_ok h c e
theorem mem_getDD {α : Type} (d : α) {l : List α} {k : Nat} (h : k < l.length) : l.getD k d ∈ l := by
  rw [List.getD_eq_getElem?_getD, List.getElem?_eq_getElem h]; exact List.getElem_mem _
theorem callsMay_ok {nm : ByteArray} {n : Int} {l : List (List Int)} {cs : List BCall} (h : callsMay nm n l cs = 0) : CallsOk nm n.toNat l cs ∧ ((n.toNat : Nat) : Int) = n := by
  unfold callsMay at h
  split at h
  · rename_i h1; exact absurd h h1
  · rename_i h1
    split at h
    · omega
    · rename_i h2
      obtain ⟨m, hnm, hm⟩ := methMay_ok.1 (Classical.not_not.1 h1)
      have hn : n.toNat = m := by omega
      rw [hn]
      refine ⟨⟨hm, by omega, by omega, fun i hi => (callsTo_ok h _ (mem_getDD D0 hi)).1, fun i hi k hk => ?_⟩, by omega⟩
      have h3 := allMay_zero.1 (callsTo_ok h _ (mem_getDD D0 hi)).2 _ (mem_getDD [] hk)
      have h4 := okL_of_chgMay h3
      rwa [hnm] at h4
/-! ### The changes of a lead -/
def endsL (l : List (List Int)) (c : BCall) : List (List Int) := l.take (l.length - c.2.length) ++ c.2
theorem endsL_len {l : List (List Int)} {c : BCall} (h : c.2.length ≤ l.length) : (endsL l c).length = l.length := by
  unfold endsL; rw [List.length_append, List.length_take]; omega
theorem endsL_ok {n : Nat} {l : List (List Int)} {c : BCall} (h : c.2.length ≤ l.length) (hl : ∀ k, k < l.length → okL 0 (l.getD k []) n) (hc : ∀ k, k < c.2.length → okL 0 (c.2.getD k []) n) :
    ∀ k, k < (endsL l c).length → okL 0 ((endsL l c).getD k []) n := fun k hk => by
  rw [endsL_len h] at hk
  unfold endsL
  rw [List.getD_eq_getElem?_getD, List.getElem?_append]
  have htl : (l.take (l.length - c.2.length)).length = l.length - c.2.length := by rw [List.length_take]; omega
  by_cases e : k < l.length - c.2.length
  · rw [if_pos (by omega), List.getElem?_take_of_lt e, ← List.getD_eq_getElem?_getD]; exact hl k hk
  · rw [if_neg (by omega), htl, ← List.getD_eq_getElem?_getD]; exact hc _ (by omega)
/-! ### The rows of a touch -/
def leadE (l : List (List Int)) (cs : List BCall) (leads : List Int) (k : Nat) : List (List Int) := endsL l (cs.getD (leads.getD k 0).toNat D0)
def tHd (n : Nat) (l : List (List Int)) (cs : List BCall) (leads : List Int) : Nat → List Int
  | 0 => roundsL n
  | k + 1 => curL (tHd n l cs leads k) (leadE l cs leads k) l.length
def tRows (n : Nat) (l : List (List Int)) (cs : List BCall) (leads : List Int) : Nat → List (List Int)
  | 0 => [roundsL n]
  | k + 1 => tRows n l cs leads k ++ (fromL (tHd n l cs leads k) (leadE l cs leads k)).drop 1
def inCalls (cs : List BCall) (leads : List Int) : Prop := ∀ k, k < leads.length → 0 ≤ leads.getD k 0 ∧ leads.getD k 0 < cs.length
section
variable {nm : ByteArray} {n : Nat} {l : List (List Int)} {cs : List BCall} {leads : List Int}
theorem leadE_len (h : CallsOk nm n l cs) (hi : inCalls cs leads) {k : Nat} (hk : k < leads.length) : (leadE l cs leads k).length = l.length :=
  endsL_len (h.short _ (by have := hi k hk; omega))
theorem leadE_ok (h : CallsOk nm n l cs) (hi : inCalls cs leads) {k : Nat} (hk : k < leads.length) : ∀ j, j < (leadE l cs leads k).length → okL 0 ((leadE l cs leads k).getD j []) n :=
  have hb : (leads.getD k 0).toNat < cs.length := by have := hi k hk; omega
  endsL_ok (h.short _ hb) h.meth.ok (h.ok _ hb)
theorem curL_row' {r : List Int} {l : List (List Int)} (hr : IsRow r) (h : ∀ k, k < l.length → okL 0 (l.getD k []) r.length) : ∀ k, k ≤ l.length → IsRow (curL r l k) ∧ (curL r l k).length = r.length
  | 0, _ => ⟨hr, rfl⟩
  | k + 1, hk => by
    obtain ⟨h1, h2⟩ := curL_row' hr h k (by omega)
    have ho := h k (by omega)
    have hc := (ord_inv ho hr.pos hr.le).1
    rw [curL_succ _ l k (by omega), h2]
    exact ⟨byL_row h1 hc (by rw [h2, chgRow_len ho]), by rw [byL_len, chgRow_len ho]⟩
theorem tHd_row (h : CallsOk nm n l cs) (hi : inCalls cs leads) : ∀ k, k ≤ leads.length → IsRow (tHd n l cs leads k) ∧ (tHd n l cs leads k).length = n
  | 0, _ => ⟨roundsL_row (by have := h.meth.n1; omega) h.meth.n2, roundsL_len n⟩
  | k + 1, hk => by
    obtain ⟨h1, h2⟩ := tHd_row h hi k (by omega)
    have hc := curL_row' h1 (l := leadE l cs leads k) (by rw [h2]; exact leadE_ok h hi (by omega)) l.length (by rw [leadE_len h hi (by omega)]; exact Nat.le_refl _)
    exact ⟨hc.1, by rw [tHd, hc.2, h2]⟩
theorem tRows_len (h : CallsOk nm n l cs) (hi : inCalls cs leads) : ∀ k, k ≤ leads.length → (tRows n l cs leads k).length = k * l.length + 1
  | 0, _ => by simp [tRows]
  | k + 1, hk => by
    rw [tRows, List.length_append, tRows_len h hi k (by omega), List.length_drop, fromL, fromTo_len, leadE_len h hi (by omega), Nat.succ_mul]; omega
theorem fromL_getj {r : List Int} {l : List (List Int)} {j : Nat} (h : j ≤ l.length) : (fromL r l).getD j [] = curL r l j := by
  unfold fromL fromTo
  rw [List.getD_eq_getElem?_getD]; simp [show j < l.length + 1 by omega]
theorem tRows_last (h : CallsOk nm n l cs) (hi : inCalls cs leads) : ∀ k, k ≤ leads.length → (tRows n l cs leads k).getD (k * l.length) [] = tHd n l cs leads k
  | 0, _ => by simp [tRows, tHd]
  | k + 1, hk => by
    have hl1 := h.meth.l1
    have hll := leadE_len h hi (k := k) (by omega)
    rw [tRows, List.getD_eq_getElem?_getD, List.getElem?_append_right (by rw [tRows_len h hi k (by omega), Nat.succ_mul]; omega), tRows_len h hi k (by omega), List.getElem?_drop, ← List.getD_eq_getElem?_getD, tHd, Nat.succ_mul,
      show 1 + (k * l.length + l.length - (k * l.length + 1)) = l.length by omega, fromL_getj (by omega)]
theorem tRows_pre (n : Nat) (l : List (List Int)) (cs : List BCall) (leads : List Int) (k : Nat) : ∀ m, k ≤ m → ∃ x, tRows n l cs leads m = tRows n l cs leads k ++ x
  | 0, hm => ⟨[], by rw [show k = 0 by omega, List.append_nil]⟩
  | m + 1, hm => by
    by_cases e : k = m + 1
    · exact ⟨[], by rw [e, List.append_nil]⟩
    · obtain ⟨x, hx⟩ := tRows_pre n l cs leads k m (by omega)
      exact ⟨x ++ _, by rw [tRows, hx, List.append_assoc]⟩
theorem tRows_get (h : CallsOk nm n l cs) (hi : inCalls cs leads) {m k j : Nat} (hm : m ≤ leads.length) (hk : k < m) (hj : j ≤ l.length) : (tRows n l cs leads m).getD (k * l.length + j) [] = curL (tHd n l cs leads k) (leadE l cs leads k) j := by
  have hll := leadE_len h hi (k := k) (by omega)
  obtain ⟨x, hx⟩ := tRows_pre n l cs leads (k + 1) m (by omega)
  have h1 := tRows_len h hi k (by omega)
  have h2 := tRows_len h hi (k + 1) (by omega)
  rw [Nat.succ_mul] at h2
  rw [hx, List.getD_eq_getElem?_getD, List.getElem?_append_left (by omega), tRows]
  by_cases e : j = 0
  · subst e
    rw [List.getElem?_append_left (by omega), ← List.getD_eq_getElem?_getD, Nat.add_zero, tRows_last h hi k (by omega)]; rfl
  · rw [List.getElem?_append_right (by omega), h1, List.getElem?_drop, ← List.getD_eq_getElem?_getD, show 1 + (k * l.length + j - (k * l.length + 1)) = j by omega, fromL_getj (by omega)]
theorem tRows_row (h : CallsOk nm n l cs) (hi : inCalls cs leads) {i : Nat} (hk : i ≤ leads.length * l.length) : IsRow ((tRows n l cs leads leads.length).getD i []) ∧ ((tRows n l cs leads leads.length).getD i []).length = n := by
  have hl1 := h.meth.l1
  by_cases e : i = leads.length * l.length
  · rw [e, tRows_last h hi _ (Nat.le_refl _)]; exact tHd_row h hi _ (Nat.le_refl _)
  · have h1 : i / l.length < leads.length := Nat.div_lt_of_lt_mul (by rw [Nat.mul_comm]; omega)
    have h2 := Nat.mod_lt i (show 0 < l.length by omega)
    have h3 := Nat.div_add_mod i l.length
    rw [Nat.mul_comm] at h3
    rw [← h3, tRows_get h hi (Nat.le_refl _) h1 (by omega)]
    obtain ⟨h4, h5⟩ := tHd_row h hi _ (Nat.le_of_lt h1)
    have := curL_row' h4 (l := leadE l cs leads (i / l.length)) (by rw [h5]; exact leadE_ok h hi h1) (i % l.length) (by rw [leadE_len h hi h1]; omega)
    exact ⟨this.1, by rw [this.2, h5]⟩
end
/-! ### Which touches may be -/
def touchMay (nm : ByteArray) (n : Int) (l : List (List Int)) (cs : List BCall) (leads : List Int) : Int :=
  if callsMay nm n l cs ≠ 0 then callsMay nm n l cs else if leads.length < 1 ∨ 400 < leads.length then 1
  else if ∀ k, k < leads.length → 0 ≤ leads.getD k 0 ∧ leads.getD k 0 < cs.length then (if 20000 < leads.length * l.length then 3 else 0) else 12
theorem touchMay_ok {nm : ByteArray} {n : Int} {l : List (List Int)} {cs : List BCall} {leads : List Int} (h : touchMay nm n l cs leads = 0) :
    CallsOk nm n.toNat l cs ∧ ((n.toNat : Nat) : Int) = n ∧ 1 ≤ leads.length ∧ leads.length ≤ 400 ∧ inCalls cs leads ∧ leads.length * l.length ≤ 20000 := by
  unfold touchMay at h
  split at h
  · rename_i h1; exact absurd h h1
  · rename_i h1
    have h0 := callsMay_ok (Classical.not_not.1 h1)
    split at h
    · omega
    · split at h
      · rename_i h3
        split at h
        · omega
        · exact ⟨h0.1, h0.2, by omega, by omega, h3, by omega⟩
      · omega
theorem touchMay_yes {nm : ByteArray} {n : Int} {l : List (List Int)} {cs : List BCall} {leads : List Int} (h : callsMay nm n l cs = 0) (h2 : ¬ (leads.length < 1 ∨ 400 < leads.length)) (h3 : ∀ k, k < leads.length → 0 ≤ leads.getD k 0 ∧ leads.getD k 0 < cs.length) (h4 : ¬ 20000 < leads.length * l.length) : touchMay nm n l cs leads = 0 := by
  unfold touchMay; rw [if_neg (by omega), if_neg h2, if_pos h3, if_neg h4]
end Go.KL
