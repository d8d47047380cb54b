/- Plain maths: methods. -/
import Derived.Test.YtbilebfnanlgfaaKlInv
import Derived.Test.YtbilebfnanlgfaaKlStr
namespace Go.KL

theorem cvit {σ : GW} {k : Nat} {v : Value} {s : ByteArray} {p q : Nat} (e : p = q) (h : Iter σ k v s p) : Iter σ k v s q := e ▸ h
theorem wid_le (s : ByteArray) (p : Nat) : wid s p ≤ 4 := by
  unfold wid Utf8.decode
  simp only
  repeat' split
  all_goals (show _ ≤ 4; simp)
def letterB (c : Int) : Bool := ((((decide (65 ≤ c) && decide (c ≤ 90)) || (decide (97 ≤ c) && decide (c ≤ 122))) || (decide (48 ≤ c) && decide (c ≤ 57))) || decide (c = 32)) || (((decide (192 ≤ c) && decide (c ≤ 382)) && decide (c ≠ 215)) && decide (c ≠ 247))
def nameL (s : ByteArray) : Bool := (runesL s).all (fun (c : Nat) => letterB (c : Int)) && (decide ((1 : Int) ≤ (((runesL s).length : Nat) : Int)) && decide ((((runesL s).length : Nat) : Int) ≤ (20 : Int)) && decide ((((s.get! 0).toNat : Nat) : Int) ≠ 32) && decide ((((s.get! (s.size - 1)).toNat : Nat) : Int) ≠ 32))
theorem nameL_no {s : ByteArray} {xs : List Nat} {f p : Nat} (h : xs ++ runesF s f p = runesL s) (hp : p < s.size) (hf : s.size ≤ f + p) (hb : letterB (run1 s p : Nat) = false) : nameL s = false := by
  obtain ⟨f, rfl⟩ : ∃ g, f = g + 1 := ⟨f - 1, by omega⟩
  rw [runesF, if_pos hp] at h
  unfold nameL
  rw [← h]
  simp [hb]
theorem nameL_all {s : ByteArray} (h : ∀ c ∈ runesL s, letterB ((c : Nat) : Int) = true) : nameL s = (decide ((1 : Int) ≤ (((runesL s).length : Nat) : Int)) && decide ((((runesL s).length : Nat) : Int) ≤ (20 : Int)) && decide ((((s.get! 0).toNat : Nat) : Int) ≠ 32) && decide ((((s.get! (s.size - 1)).toNat : Nat) : Int) ≠ 32)) := by
  unfold nameL
  rw [List.all_eq_true.2 h, Bool.true_and]

/-! ### Which methods may be -/
def allMay (n : Int) : List (List Int) → Int
  | [] => 0
  | p :: l => if chgMay n p ≠ 0 then chgMay n p else allMay n l
def methMay (s : ByteArray) (n : Int) (l : List (List Int)) : Int :=
  if nameL s = false then 7 else if n < 2 ∨ 12 < n ∨ l.length < 1 ∨ 200 < l.length then 1 else allMay n l
theorem drop_cons0 {l : List (List Int)} {k : Nat} (h : k < l.length) : l.drop k = l.getD k [] :: l.drop (k + 1) := by
  rw [List.drop_eq_getElem_cons h]; simp [h]
theorem allMay_step {n : Int} {l : List (List Int)} {k : Nat} {e : Int} (h : allMay n (l.drop k) = e) (hk : k < l.length) (hc : ¬ chgMay n (l.getD k []) ≠ 0) : allMay n (l.drop (k + 1)) = e := by
  rw [drop_cons0 hk, allMay, if_neg hc] at h; exact h
theorem allMay_stop {n : Int} {l : List (List Int)} {k : Nat} {e : Int} (h : allMay n (l.drop k) = e) (hk : k < l.length) (hc : chgMay n (l.getD k []) ≠ 0) : e = chgMay n (l.getD k []) := by
  rw [drop_cons0 hk, allMay, if_pos hc] at h; exact h.symm
theorem allMay_end {n : Int} {l : List (List Int)} {k : Nat} {e : Int} (h : allMay n (l.drop k) = e) (hk : l.length ≤ k) : e = 0 := by
  rw [List.drop_eq_nil_of_le hk] at h; exact h.symm
theorem allMay_zero {n : Int} : ∀ {l : List (List Int)}, allMay n l = 0 ↔ ∀ p ∈ l, chgMay n p = 0
  | [] => by simp [allMay]
  | p :: l => by
    rw [allMay]
    split
    · rename_i h; simp [h]
    · rename_i h
      have h := Classical.not_not.1 h
      rw [allMay_zero]; simp [h]
structure MethOk (s : ByteArray) (n : Nat) (l : List (List Int)) : Prop where
  name : nameL s = true
  n1 : 2 ≤ n
  n2 : n ≤ 12
  l1 : 1 ≤ l.length
  l2 : l.length ≤ 200
  ok : ∀ k, k < l.length → okL 0 (l.getD k []) n
theorem methMay_ok {s : ByteArray} {n : Int} {l : List (List Int)} : methMay s n l = 0 ↔ ∃ m : Nat, n = m ∧ MethOk s m l := by
  unfold methMay
  constructor
  · intro h
    split at h
    · omega
    · rename_i h1
      split at h
      · omega
      · rename_i h2
        refine ⟨n.toNat, by omega, by simpa using h1, by omega, by omega, by omega, by omega, fun k hk => ?_⟩
        have := allMay_zero.1 h (l.getD k []) (by rw [List.getD_eq_getElem?_getD]; simp [hk])
        have := okL_of_chgMay this
        rwa [show ((n.toNat : Nat) : Int) = n by omega]
  · rintro ⟨m, rfl, h⟩
    rw [if_neg (by rw [h.name]; simp), if_neg (by have := h.n1; have := h.n2; have := h.l1; have := h.l2; omega), allMay_zero]
    intro p hp
    obtain ⟨k, hk, rfl⟩ := List.getElem_of_mem hp
    have := h.ok k hk
    rw [List.getD_eq_getElem?_getD] at this
    simp [hk] at this
    exact chgMay_of_okL (by have := h.n1; have := h.n2; omega) this

/-! ### Rows that come one behind the other -/
def curL (r : List Int) (l : List (List Int)) (k : Nat) : List Int := (l.take k).foldl (fun r p => byL r (chgRow r.length p)) r
def fromTo (r : List Int) (l : List (List Int)) (k : Nat) : List (List Int) := (List.range (k + 1)).map (curL r l)
def fromL (r : List Int) (l : List (List Int)) : List (List Int) := fromTo r l l.length
theorem fromTo_len (r : List Int) (l : List (List Int)) (k : Nat) : (fromTo r l k).length = k + 1 := by simp [fromTo]
theorem fromTo_zero (r : List Int) (l : List (List Int)) : fromTo r l 0 = [r] := by simp [fromTo, curL]
theorem curL_succ (r : List Int) (l : List (List Int)) (k : Nat) (hk : k < l.length) : curL r l (k + 1) = byL (curL r l k) (chgRow (curL r l k).length (l.getD k [])) := by
  unfold curL
  rw [take_snoc l [] k hk, List.foldl_append]; rfl
theorem fromTo_succ (r : List Int) (l : List (List Int)) (k : Nat) : fromTo r l (k + 1) = fromTo r l k ++ [curL r l (k + 1)] := by
  unfold fromTo; rw [List.range_succ, List.map_append]; rfl
theorem curL_len {r : List Int} {l : List (List Int)} (h : ∀ k, k < l.length → okL 0 (l.getD k []) r.length) : ∀ k, k ≤ l.length → (curL r l k).length = r.length
  | 0, _ => rfl
  | k + 1, hk => by
    have ih := curL_len h k (by omega)
    rw [curL_succ r l k (by omega), byL_len, ih, chgRow_len (h k (by omega))]
theorem chgRow_bd {n : Nat} {l : List Int} (h : okL 0 l n) {i : Nat} (hi : i < (chgRow n l).length) : 0 ≤ (chgRow n l).getD i 0 ∧ (chgRow n l).getD i 0 < n := by
  have hl := chgRow_len h
  have := (chgRow_piece h).1.bd i (by omega) (by omega)
  simpa using this

/-! ### What is made of raw numbers -/
def rawAt (raw : List Int) (k : Nat) : Int := if raw.length = 0 then 0 else raw.getD (k % raw.length) 0
theorem rawAt_bd {raw : List Int} (h : ∀ x ∈ raw, -9223372036854775808 ≤ x ∧ x ≤ 9223372036854775807) (k : Nat) : -9223372036854775808 ≤ rawAt raw k ∧ rawAt raw k ≤ 9223372036854775807 := by
  unfold rawAt
  split
  · omega
  · rename_i h0
    have hlt := Nat.mod_lt k (show 0 < raw.length by omega)
    apply h
    rw [List.getD_eq_getElem?_getD]; simp [hlt]
def changesOf (raw : List Int) (b n many : Nat) : List (List Int) := (List.range many).map fun i => changeOf (rawAt raw (b + i)) n
theorem changesOf_len (raw : List Int) (b n many : Nat) : (changesOf raw b n many).length = many := by simp [changesOf]
theorem changesOf_succ (raw : List Int) (b n k : Nat) : changesOf raw b n (k + 1) = changesOf raw b n k ++ [changeOf (rawAt raw (b + k)) n] := by simp [changesOf, List.range_succ]
end Go.KL
