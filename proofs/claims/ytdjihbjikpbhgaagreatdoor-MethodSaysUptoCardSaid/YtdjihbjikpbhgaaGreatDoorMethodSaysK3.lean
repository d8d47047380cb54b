/- Sorted, without doubles: what the reader of changes asks of places. -/
import Derived.Test.YtdjihbjikpbhgaaGreatDoorMethodSaysK2
import Derived.Test.YtdjihbjikpbhgaaGreatDoorMethodSaysK1
import Derived.Below
import Derived.WideLaws
import Derived.Lib.AtoiErrMem
import Derived.ProofKit
import Derived.JoinedCond
import Derived.SizedLaws
import Derived.Deep.Slices
import Derived.Deep.CondSized
import Derived.Stop.LaidErr
import Derived.LaidSub
import Derived.Lay
import Derived.MakeChecks
import Derived.Deep.DeepHandedRow
import Derived.Recover
import Derived.Deep.Strs
namespace Go.KL
def sortB : List Int → Bool
  | [] => true
  | [_] => true
  | x :: y :: r => decide (x ≤ y) && sortB (y :: r)
def dupB : List Int → Bool
  | [] => false
  | [_] => false
  | x :: y :: r => decide (x = y) || dupB (y :: r)
theorem sortB_iff : ∀ (l : List Int), sortB l = true ↔ ∀ k, k + 1 < l.length → l.getD k 0 ≤ l.getD (k + 1) 0
  | [] => by simp [sortB]
  | [x] => by simp [sortB]
  | x :: y :: r => by
    rw [sortB, Bool.and_eq_true, decide_eq_true_eq, sortB_iff (y :: r)]
    constructor
    · rintro ⟨h1, h2⟩ k hk
      cases k with
      | zero => exact h1
      | succ k =>
        have := h2 k (by simp at hk ⊢; omega)
        simpa using this
    · intro h
      refine ⟨h 0 (by simp), fun k hk => ?_⟩
      have := h (k + 1) (by simp at hk ⊢; omega)
      simpa using this
theorem sortB_no {l : List Int} {k : Nat} (hk : k + 1 < l.length) (h : l.getD (k + 1) 0 < l.getD k 0) : sortB l = false := by
  cases e : sortB l with
  | false => rfl
  | true => have := (sortB_iff l).1 e k hk; omega
theorem dupB_iff : ∀ (l : List Int), dupB l = false ↔ ∀ k, k + 1 < l.length → l.getD k 0 ≠ l.getD (k + 1) 0
  | [] => by simp [dupB]
  | [x] => by simp [dupB]
  | x :: y :: r => by
    rw [dupB, Bool.or_eq_false_iff, decide_eq_false_iff_not, dupB_iff (y :: r)]
    constructor
    · rintro ⟨h1, h2⟩ k hk
      cases k with
      | zero => exact h1
      | succ k =>
        have := h2 k (by simp at hk ⊢; omega)
        simpa using this
    · intro h
      refine ⟨h 0 (by simp), fun k hk => ?_⟩
      have := h (k + 1) (by simp at hk ⊢; omega)
      simpa using this
theorem dupB_yes {l : List Int} {k : Nat} (hk : k + 1 < l.length) (h : l.getD k 0 = l.getD (k + 1) 0) : dupB l = true := by
  cases e : dupB l with
  | true => rfl
  | false => exact absurd h ((dupB_iff l).1 e k hk)
theorem incr_sd (l : List Int) : incrB l = (sortB l && !dupB l) := by
  rw [Bool.eq_iff_iff, incrB_iff, Bool.and_eq_true, sortB_iff, Bool.not_eq_true', dupB_iff]
  constructor
  · intro h
    exact ⟨fun k hk => by have := h k hk; omega, fun k hk => by have := h k hk; omega⟩
  · rintro ⟨h1, h2⟩ k hk
    have := h1 k hk
    have := h2 k hk
    omega
theorem putE_1 {n : Int} {k : Nat} {l : List Int} (h : chgMay n l ≠ 0) : plPutE n k l = chgMay n l := by unfold plPutE; rw [if_pos h]
theorem putE_2 {n : Int} {k : Nat} {l : List Int} (h : ¬ chgMay n l ≠ 0) (h2 : 200 < k + 1) : plPutE n k l = 3 := by unfold plPutE; rw [if_neg h, if_pos h2]
theorem putE_0 {n : Int} {k : Nat} {l : List Int} (h : ¬ chgMay n l ≠ 0) (h2 : ¬ 200 < k + 1) : plPutE n k l = 0 := by unfold plPutE; rw [if_neg h, if_neg h2]
section
variable {n : Int} {sm L : List Int} {blk : List (List Int)}
theorem clE_6 (h : sm ≠ []) (h2 : incrB sm = false) : clE n blk sm = 6 := by unfold clE; rw [if_neg h, if_pos h2]
theorem clE_put (h : sm ≠ []) (h2 : incrB sm = true) (hL : plIn n sm = L) : clE n blk sm = plPutE n blk.length L := by unfold clE; rw [if_neg h, if_neg (by rw [h2]; simp), hL]
theorem clB_put (h : sm ≠ []) (hL : plIn n sm = L) : clB n blk sm = blk ++ [L] := by unfold clB; rw [if_neg h, hL]
theorem clD_ne {d : Bool} (h : sm ≠ []) : clD sm d = true := by unfold clD; rw [if_neg h]
theorem plFst_1 {x : Int} (h : (((x.toNat % 2 : Nat)) : Int) = 0) (hx : x = sm.getD 0 0 := by rfl) : plFst sm = [(1 : Int)] ++ sm := by
  unfold plFst; rw [if_pos (by rw [← hx]; omega)]; rfl
theorem plFst_0 {x : Int} (h : ¬ (((x.toNat % 2 : Nat)) : Int) = 0) (hx : x = sm.getD 0 0 := by rfl) : plFst sm = sm := by
  unfold plFst; rw [if_neg (by rw [← hx]; omega)]
theorem plIn_1 {m : List Int} (hf : plFst sm = m) (h1 : m.getD (m.length - 1) 0 < n) (h2 : (n - m.getD (m.length - 1) 0).toNat % 2 = 1) : plIn n sm = m ++ [n] := by
  unfold plIn plLst; rw [hf, if_pos ⟨h1, h2⟩]
theorem plIn_0 {m : List Int} (hf : plFst sm = m) (h : ¬ (m.getD (m.length - 1) 0 < n ∧ (n - m.getD (m.length - 1) 0).toNat % 2 = 1)) : plIn n sm = m := by
  unfold plIn plLst; rw [hf, if_neg h]
end
theorem ins_last {ql : List Int} {c : Int} (h : 1 ≤ ql.length) : ([c] ++ ql).getD (([c] ++ ql).length - 1) 0 = ql.getD (ql.length - 1) 0 := by
  rw [List.length_append, List.length_singleton, show 1 + ql.length - 1 = ql.length - 1 + 1 by omega, List.singleton_append, List.getD_cons_succ]
end Go.KL
namespace Go.KL
section
variable {n : Int} {all blk B : List (List Int)} {mir d : Bool} {ql : List Int} {k : Nat}
theorem enE_1 (h : clE n blk ql ≠ 0) : enE n ⟨all, blk, mir, ql, d⟩ = clE n blk ql := by unfold enE; rw [if_pos h]
theorem enE_2 (h : clE n blk ql = 0) (hd : clD ql d = false) : enE n ⟨all, blk, mir, ql, d⟩ = 5 := by unfold enE; rw [if_neg (by rw [h]; simp), if_pos hd]
theorem enE_3 (h : clE n blk ql = 0) (hd : clD ql d = true) (h2 : 200 < (all ++ mirL mir (clB n blk ql)).length) : enE n ⟨all, blk, mir, ql, d⟩ = 3 := by unfold enE; rw [if_neg (by rw [h]; simp), if_neg (by rw [hd]; simp), if_pos h2]
theorem enE_0 (h : clE n blk ql = 0) (hd : clD ql d = true) (h2 : ¬ 200 < (all ++ mirL mir (clB n blk ql)).length) : enE n ⟨all, blk, mir, ql, d⟩ = 0 := by unfold enE; rw [if_neg (by rw [h]; simp), if_neg (by rw [hd]; simp), if_neg h2]
def mirP (B : List (List Int)) (k : Nat) : List (List Int) := (B.take (B.length - 1)).reverse.take k
theorem mirP_0 : mirP B 0 = [] := rfl
theorem mirP_len (h : k + 1 ≤ B.length) : (mirP B k).length = k := by
  unfold mirP
  rw [List.length_take, List.length_reverse, List.length_take]; omega
theorem mirP_succ (h : k + 2 ≤ B.length) : mirP B (k + 1) = mirP B k ++ [B.getD (B.length - 2 - k) []] := by
  unfold mirP
  have hl : k < ((B.take (B.length - 1)).reverse).length := by rw [List.length_reverse, List.length_take]; omega
  rw [List.take_add_one, List.getElem?_eq_getElem hl]
  congr 1
  simp only [Option.toList_some, List.getElem_reverse, List.length_take]
  have h2 : min (B.length - 1) B.length - 1 - k = B.length - 2 - k := by omega
  simp only [h2]
  rw [List.getElem_take, List.getD_eq_getElem?_getD, List.getElem?_eq_getElem (by omega)]
  rfl
theorem mir_el {i : Int} (h : k + 2 ≤ B.length) (hi : i = ((B.length : Nat) : Int) - 2 - ((k : Nat) : Int)) : (B ++ mirP B k).getD i.toNat [] = B.getD (B.length - 2 - k) [] := by
  subst hi
  rw [List.getD_eq_getElem?_getD, List.getD_eq_getElem?_getD, List.getElem?_append_left (by omega)]
  congr 2; omega
theorem mirL_all (h : B.length ≤ k + 1) : B ++ mirP B k = mirL true B := by
  unfold mirL mirP
  rw [if_pos rfl, List.take_of_length_le (by rw [List.length_reverse, List.length_take]; omega)]
theorem mirL_len : (mirL mir B).length ≤ 2 * B.length := by
  unfold mirL
  split
  · rw [List.length_append, List.length_reverse, List.length_take]; omega
  · omega
theorem plIn_len : (plIn n ql).length ≤ ql.length + 2 := by
  have h1 : (plFst ql).length ≤ ql.length + 1 := by unfold plFst; split <;> simp
  unfold plIn plLst
  split
  · rw [List.length_append, List.length_singleton]; omega
  · omega
theorem clB_el (h : ∀ x ∈ blk, x.length ≤ 20000) (hq : ql.length ≤ 10000) : ∀ x ∈ clB n blk ql, x.length ≤ 20000 := by
  unfold clB
  split
  · exact h
  · intro x hx
    rcases List.mem_append.1 hx with h1 | h1
    · exact h x h1
    · rw [List.mem_singleton.1 h1]
      have := plIn_len (n := n) (ql := ql); omega
theorem el_len {l : List (List Int)} {j : Nat} (h : ∀ x ∈ l, x.length ≤ 20000) : (l.getD j []).length ≤ 20000 := by
  by_cases hj : j < l.length
  · rw [List.getD_eq_getElem?_getD, List.getElem?_eq_getElem hj]
    exact h _ (List.getElem_mem hj)
  · rw [List.getD_eq_getElem?_getD, List.getElem?_eq_none (by omega)]; simp
theorem clB_len : (clB n blk ql).length ≤ blk.length + 1 := by
  unfold clB
  split
  · omega
  · simp
end
end Go.KL
namespace Go.KL
section
variable {n c : Int} {s : PSt} {f : Bool}
theorem sgE_A (hA : isA f c = true) : sgE n s f c = 0 := by unfold sgE; rw [if_pos hA]
theorem sgS_A (hA : isA f c = true) : sgS n s f c = { s with mir := decide (c = 38) } := by unfold sgS; rw [if_pos hA]
theorem sgE_X (hA : isA f c = false) (hX : isX c = true) : sgE n s f c = if clE n s.blk s.sm ≠ 0 then clE n s.blk s.sm else plPutE n (clB n s.blk s.sm).length [] := by unfold sgE; rw [if_neg (by rw [hA]; simp), if_pos hX]
theorem sgS_X (hA : isA f c = false) (hX : isX c = true) : sgS n s f c = ⟨s.all, clB n s.blk s.sm ++ [[]], s.mir, [], true⟩ := by unfold sgS; rw [if_neg (by rw [hA]; simp), if_pos hX]
theorem sgE_D (hA : isA f c = false) (hX : isX c = false) (h : c = 46) : sgE n s f c = if s.sm = [] ∧ s.dot = false then 4 else clE n s.blk s.sm := by unfold sgE; rw [if_neg (by rw [hA]; simp), if_neg (by rw [hX]; simp), if_pos h]
theorem sgS_D (hA : isA f c = false) (hX : isX c = false) (h : c = 46) : sgS n s f c = ⟨s.all, clB n s.blk s.sm, s.mir, [], false⟩ := by unfold sgS; rw [if_neg (by rw [hA]; simp), if_neg (by rw [hX]; simp), if_pos h]
theorem sgE_C (hA : isA f c = false) (hX : isX c = false) (h : c ≠ 46) (h2 : c = 44) : sgE n s f c = if s.sm = [] ∧ s.dot = false then 4 else enE n s := by unfold sgE; rw [if_neg (by rw [hA]; simp), if_neg (by rw [hX]; simp), if_neg h, if_pos h2]
theorem sgS_C (hA : isA f c = false) (hX : isX c = false) (h : c ≠ 46) (h2 : c = 44) : sgS n s f c = ⟨enA n s, [], false, [], false⟩ := by unfold sgS; rw [if_neg (by rw [hA]; simp), if_neg (by rw [hX]; simp), if_neg h, if_pos h2]
theorem sgE_N (hA : isA f c = false) (hX : isX c = false) (h : c ≠ 46) (h2 : c ≠ 44) (h3 : signIdx c < 0) : sgE n s f c = if clE n s.blk s.sm ≠ 0 then clE n s.blk s.sm else 4 := by unfold sgE; rw [if_neg (by rw [hA]; simp), if_neg (by rw [hX]; simp), if_neg h, if_neg h2, if_pos h3]
theorem sgE_S (hA : isA f c = false) (hX : isX c = false) (h : c ≠ 46) (h2 : c ≠ 44) (h3 : ¬ signIdx c < 0) : sgE n s f c = 0 := by unfold sgE; rw [if_neg (by rw [hA]; simp), if_neg (by rw [hX]; simp), if_neg h, if_neg h2, if_neg h3]
theorem sgS_S (hA : isA f c = false) (hX : isX c = false) (h : c ≠ 46) (h2 : c ≠ 44) : sgS n s f c = { s with sm := s.sm ++ [signIdx c + 1] } := by unfold sgS; rw [if_neg (by rw [hA]; simp), if_neg (by rw [hX]; simp), if_neg h, if_neg h2]
theorem isA_44 (h : isA f c = true) : c ≠ 44 := by
  simp only [isA, Bool.and_eq_true, Bool.or_eq_true, decide_eq_true_eq] at h
  omega
theorem isX_44 (h : isX c = true) : c ≠ 44 := by
  simp only [isX, Bool.or_eq_true, decide_eq_true_eq] at h
  omega
theorem ite_l {a b : Int} (h : a ≠ 0) : (if a ≠ 0 then a else b) = a := if_pos h
theorem ite_r {a b : Int} (h : a = 0) : (if a ≠ 0 then a else b) = b := if_neg (by rw [h]; simp)
theorem signIdx_bd (c : Int) : -1 ≤ signIdx c ∧ signIdx c ≤ 11 := by
  by_cases h : 0 ≤ c ∧ c < 128
  · have := (by decide +kernel : ∀ m : Fin 128, -1 ≤ signIdx ((m.val : Nat) : Int) ∧ signIdx ((m.val : Nat) : Int) ≤ 11) ⟨c.toNat, by omega⟩
    simp only at this
    rwa [Int.toNat_of_nonneg h.1] at this
  · rw [signIdx_hi h]; omega
end
end Go.KL

/- The reader's loop over a text: bounds, runs that are no characters. -/
namespace Go.KL
variable {n : Int} {st : PSt} {f : Bool} {c : Int}
theorem sgE_off (h : c = -1 ∨ c = 65533) : sgE n st f c = if clE n st.blk st.sm ≠ 0 then clE n st.blk st.sm else 4 := by
  have hA : isA f c = false := by rcases h with rfl | rfl <;> cases f <;> rfl
  have hX : isX c = false := by rcases h with rfl | rfl <;> rfl
  exact sgE_N hA hX (by omega) (by omega) (by rcases h with rfl | rfl <;> decide)
theorem sgE_run {s : ByteArray} {p : Nat} : sgE n st f (run1 s p : Nat) = sgE n st f (runM s p) := by
  unfold runM
  split
  · rename_i h
    rw [h.1, sgE_off (c := ((65533 : Nat) : Int)) (.inr rfl), sgE_off (.inl rfl)]
  · rfl
theorem run_eq {s : ByteArray} {p : Nat} (h : sgE n st f (run1 s p : Nat) = 0) : runM s p = (run1 s p : Nat) := by
  unfold runM
  split
  · rename_i h1
    rw [h1.1, sgE_off (c := ((65533 : Nat) : Int)) (.inr rfl)] at h
    split at h
    · exact absurd h (by assumption)
    · cases h
  · rfl
structure PB (s : PSt) (m : Nat) : Prop where
  all : s.all.length ≤ 200
  blk : s.blk.length ≤ 200
  el : ∀ x ∈ s.blk, x.length ≤ 20000
  sm : s.sm.length ≤ m
  v : ∀ k, k < s.sm.length → 1 ≤ s.sm.getD k 0 ∧ s.sm.getD k 0 ≤ 12
theorem pb0 : PB ps0 0 := ⟨by decide, by decide, (by intro x h; cases h), by decide, (by intro k h; cases h)⟩
theorem clB_200 (h : clE n st.blk st.sm = 0) (hb : st.blk.length ≤ 200) : (clB n st.blk st.sm).length ≤ 200 := by
  unfold clB
  split
  · exact hb
  · rename_i h1
    unfold clE at h
    rw [if_neg h1] at h
    split at h
    · cases h
    · unfold plPutE at h
      split at h
      · exact absurd h (by assumption)
      · split at h
        · cases h
        · rw [List.length_append, List.length_singleton]; omega
theorem pb_step {m : Nat} (hb : PB st m) (hm : m ≤ 10000) (h : sgE n st f c = 0) : PB (sgS n st f c) (m + 1) := by
  have hel := clB_el (n := n) hb.el (ql := st.sm) (Nat.le_trans hb.sm hm)
  have hsm := hb.sm
  have nov : ∀ k, k < ([] : List Int).length → 1 ≤ ([] : List Int).getD k 0 ∧ ([] : List Int).getD k 0 ≤ 12 := fun k h => absurd h (by simp)
  by_cases hA : isA f c = true
  · rw [sgS_A hA]
    exact ⟨hb.all, hb.blk, hb.el, Nat.le_succ_of_le hb.sm, hb.v⟩
  · have hA' : isA f c = false := by simpa using hA
    by_cases hX : isX c = true
    · rw [sgE_X hA' hX] at h
      rw [sgS_X hA' hX]
      have h0 : clE n st.blk st.sm = 0 := by
        apply Classical.byContradiction
        intro h1
        rw [if_pos h1] at h
        exact h1 h
      rw [if_neg (by rw [h0]; simp)] at h
      have h3 : (clB n st.blk st.sm).length + 1 ≤ 200 := by
        unfold plPutE at h
        split at h
        · exact absurd h (by assumption)
        · split at h
          · cases h
          · omega
      refine ⟨hb.all, by rw [List.length_append, List.length_singleton]; exact h3, fun x hx => ?_, Nat.zero_le _, nov⟩
      rcases List.mem_append.1 hx with hx | hx
      · exact hel x hx
      · rw [List.mem_singleton.1 hx]; exact Nat.zero_le _
    · have hX' : isX c = false := by simpa using hX
      by_cases h46 : c = 46
      · rw [sgE_D hA' hX' h46] at h
        rw [sgS_D hA' hX' h46]
        have h0 : clE n st.blk st.sm = 0 := by
          split at h
          · cases h
          · exact h
        exact ⟨hb.all, clB_200 h0 hb.blk, hel, Nat.zero_le _, nov⟩
      · by_cases h44 : c = 44
        · rw [sgE_C hA' hX' h46 h44] at h
          rw [sgS_C hA' hX' h46 h44]
          have h1 : enE n st = 0 := by
            split at h
            · cases h
            · exact h
          refine ⟨?_, Nat.zero_le _, (by intro x h; cases h), Nat.zero_le _, nov⟩
          unfold enE at h1
          split at h1
          · exact absurd h1 (by assumption)
          · split at h1
            · cases h1
            · split at h1
              · cases h1
              · show (enA n st).length ≤ 200
                unfold enA
                omega
        · rw [sgS_S hA' hX' h46 h44]
          have h5 : ¬ signIdx c < 0 := by
            intro h5
            rw [sgE_N hA' hX' h46 h44 h5] at h
            split at h
            · exact absurd h (by assumption)
            · cases h
          have h6 := signIdx_bd c
          refine ⟨hb.all, hb.blk, hb.el, ?_, fun k hk => ?_⟩
          · show (st.sm ++ [signIdx c + 1]).length ≤ m + 1
            rw [List.length_append, List.length_singleton]; omega
          · show 1 ≤ (st.sm ++ [signIdx c + 1]).getD k 0 ∧ (st.sm ++ [signIdx c + 1]).getD k 0 ≤ 12
            rw [List.getD_eq_getElem?_getD]
            by_cases hk2 : k < st.sm.length
            · rw [List.getElem?_append_left hk2, ← List.getD_eq_getElem?_getD]; exact hb.v k hk2
            · have hk3 : k < (st.sm ++ [signIdx c + 1]).length := hk
              rw [List.length_append, List.length_singleton] at hk3
              rw [List.getElem?_append_right (by omega), show k - st.sm.length = 0 by omega]
              simp only [List.getElem?_cons_zero, Option.getD_some]
              omega
theorem pb_wid {m w : Nat} (h : PB st (m + 1)) (hw : 1 ≤ w) : PB st (m + w) := ⟨h.all, h.blk, h.el, Nat.le_trans h.sm (by omega), h.v⟩
theorem runsF_cns {s : ByteArray} {g p : Nat} (hp : p < s.size) (hg : s.size ≤ g + p) : runsF s g p = runM s p :: runsF s (g - 1) (p + wid s p) := by
  have := runsF_step (s := s) (f := g) (p := p) (xs := []) rfl hp hg
  simpa using this.symm
theorem runsF_out {s : ByteArray} {g p : Nat} (hp : ¬ p < s.size) : runsF s g p = [] := by
  cases g with
  | zero => rfl
  | succ g => unfold runsF; rw [if_neg hp]
theorem pl_go {s : ByteArray} {g p : Nat} {X : Int × List (List Int)} (hX : plF n (runsF s g p) st f = X) (hp : p < s.size) (hg : s.size ≤ g + p) (h : sgE n st f (run1 s p : Nat) = 0) :
    plF n (runsF s (g - 1) (p + wid s p)) (sgS n st f (run1 s p : Nat)) (decide (((run1 s p : Nat) : Int) = 44)) = X := by
  rw [← hX, runsF_cns hp hg, plF, run_eq h, if_neg (by rw [h]; simp)]
theorem pl_bad {s : ByteArray} {g p : Nat} {X : Int × List (List Int)} (hX : plF n (runsF s g p) st f = X) (hp : p < s.size) (hg : s.size ≤ g + p) (h : sgE n st f (run1 s p : Nat) ≠ 0) :
    X = (sgE n st f (run1 s p : Nat), []) := by
  rw [← hX, runsF_cns hp hg, plF, ← sgE_run, if_pos h]
theorem pl_out {s : ByteArray} {g p : Nat} {X : Int × List (List Int)} (hX : plF n (runsF s g p) st f = X) (hp : ¬ p < s.size) : X = if enE n st ≠ 0 then (enE n st, []) else (0, enA n st) := by
  rw [← hX, runsF_out hp, plF]
theorem pl_bad2 {s : ByteArray} {g p : Nat} {X : Int × List (List Int)} (hX : plF n (runsF s g p) st f = X) (hp : ¬ p < s.size) (h : enE n st ≠ 0) : X = (enE n st, []) := by
  rw [pl_out hX hp, if_pos h]
theorem pl_end2 {s : ByteArray} {g p : Nat} {X : Int × List (List Int)} (hX : plF n (runsF s g p) st f = X) (hp : ¬ p < s.size) (h : enE n st = 0) : X = (0, enA n st) := by
  rw [pl_out hX hp, if_neg (by rw [h]; simp)]
theorem plM_1 {s : ByteArray} (h : n < 1 ∨ 12 < n) : plM n s = (1, []) := by unfold plM; rw [if_pos h]
theorem plM_3 {s : ByteArray} (h : ¬ (n < 1 ∨ 12 < n)) (h2 : 4000 < s.size) : plM n s = (3, []) := by unfold plM; rw [if_neg h, if_pos h2]
theorem plM_in {s : ByteArray} (h : ¬ (n < 1 ∨ 12 < n)) (h2 : ¬ 4000 < s.size) : plF n (runsF s s.size 0) ps0 true = plM n s := by unfold plM; rw [if_neg h, if_neg h2]; rfl
theorem bad_has {s : ByteArray} {e : Int} {σ : GW} (h : plM n s = (e, [])) : (Ty.tup2 (Ty.lst Ty.ints (plM n s).2) (Ty.int (plM n s).1)).has σ (.tuple #[.slice none 0 0, .int .i64 e]) := by
  rw [h]
  exact hasT2 sl_nil rfl
end Go.KL

/- The document's reader of places: what each branch answers. -/
namespace Go.KL
variable {n c : Int} {L xs : List Int} {last : Bool}
variable {blk : List (List Int)}
variable {q : QSt}
section
variable (h : ¬ 0 ≤ signIdx c) (h1 : clE n q.blk q.sm = 0)
include h h1
end
section
variable (h : ¬ 0 ≤ signIdx c)
include h
end
/-! ### The loop -/
variable {k : Nat} {X : Int × List (List Int)}
theorem drop_c {L : List Int} {k : Nat} (hk : k < L.length) : L.drop k = L.getD k 0 :: L.drop (k + 1) := by
  rw [List.drop_eq_getElem_cons hk]
  congr 1
  simp [List.getD_eq_getElem?_getD, hk]
end Go.KL
namespace Go.KL
end Go.KL

/- A method's line, read. -/
namespace Go.KL
def pcs (s : ByteArray) (k : Nat) : ByteArray := (cutT 124 s).getD k ByteArray.empty
def rdE (s : ByteArray) : Int :=
  if 4000 < s.size then 3 else if (cutT 124 s).length < 3 then 5 else if 3 < (cutT 124 s).length then 4 else if nameL (pcs s 0) = false then 7
  else if digE (pcs s 1) < 0 then 4 else if digE (pcs s 1) < 2 ∨ 12 < digE (pcs s 1) then 1 else (plM (digE (pcs s 1)) (pcs s 2)).1
variable {s : ByteArray}
theorem rd_3 (h : 4000 < s.size) : rdE s = 3 := by unfold rdE; rw [if_pos h]
theorem rd_5 (h : ¬ 4000 < s.size) (h1 : (cutT 124 s).length < 3) : rdE s = 5 := by unfold rdE; rw [if_neg h, if_pos h1]
theorem rd_4 (h : ¬ 4000 < s.size) (h1 : ¬ (cutT 124 s).length < 3) (h2 : 3 < (cutT 124 s).length) : rdE s = 4 := by unfold rdE; rw [if_neg h, if_neg h1, if_pos h2]
section
variable (h : ¬ 4000 < s.size) (h1 : ¬ (cutT 124 s).length < 3) (h2 : ¬ 3 < (cutT 124 s).length)
include h h1 h2
theorem rd_7 (h3 : nameL (pcs s 0) = false) : rdE s = 7 := by unfold rdE; rw [if_neg h, if_neg h1, if_neg h2, if_pos h3]
theorem rd_4b (h3 : nameL (pcs s 0) = true) (h4 : digE (pcs s 1) < 0) : rdE s = 4 := by unfold rdE; rw [if_neg h, if_neg h1, if_neg h2, if_neg (by rw [h3]; simp), if_pos h4]
theorem rd_1 (h3 : nameL (pcs s 0) = true) (h4 : ¬ digE (pcs s 1) < 0) (h5 : digE (pcs s 1) < 2 ∨ 12 < digE (pcs s 1)) : rdE s = 1 := by unfold rdE; rw [if_neg h, if_neg h1, if_neg h2, if_neg (by rw [h3]; simp), if_neg h4, if_pos h5]
theorem rd_p (h3 : nameL (pcs s 0) = true) (h4 : ¬ digE (pcs s 1) < 0) (h5 : ¬ (digE (pcs s 1) < 2 ∨ 12 < digE (pcs s 1))) : rdE s = (plM (digE (pcs s 1)) (pcs s 2)).1 := by unfold rdE; rw [if_neg h, if_neg h1, if_neg h2, if_neg (by rw [h3]; simp), if_neg h4, if_neg h5]
end
end Go.KL
namespace Go.KL
variable {s : ByteArray}
theorem cutp_len {c : UInt8} : ∀ {l : List UInt8}, ∀ p ∈ cutL c l, p.length ≤ l.length
  | [], p, h => by simp [cutL] at h; simp [h]
  | b :: r, p, h => by
    unfold cutL at h
    split at h
    · rcases List.mem_cons.1 h with rfl | h
      · simp
      · exact Nat.le_succ_of_le (cutp_len p h)
    · split at h
      · simp at h; simp [h]
      · rename_i q qs e
        have ih : ∀ p ∈ cutL c r, p.length ≤ r.length := fun p hp => cutp_len p hp
        rw [e] at ih
        rcases List.mem_cons.1 h with rfl | h
        · have := ih q (by simp); simp only [List.length_cons]; omega
        · have := ih p (by simp [h]); simp only [List.length_cons]; omega
theorem pcs_le (k : Nat) : (pcs s k).size ≤ s.size := by
  unfold pcs cutT
  rw [List.getD_eq_getElem?_getD, List.getElem?_map]
  cases e : (cutL 124 s.data.toList)[k]? with
  | none => exact Nat.zero_le _
  | some p =>
    have := cutp_len p (List.mem_of_getElem? e)
    show (bsL p).size ≤ s.size
    rw [bsL_size]
    have h2 : s.data.toList.length = s.size := by simp
    omega
end Go.KL

/- Contracts of the shelf, as contracts here. -/
namespace Go.KL
variable {P : Program}
def GW.grow (σ : GW) (w' : World) (h : σ.w.heap.size ≤ w'.heap.size) : GW := ⟨w', fun b => if b < σ.w.heap.size then σ.st b else 0, fun b hb => by
  by_cases hlt : b < σ.w.heap.size
  · omega
  · simp [hlt] at hb⟩
theorem GW.grow_stp {σ : GW} {w' : World} (h : RowKit.Below σ.w.heap.size σ.w w') : Stp 0 σ (σ.grow w' h.size) :=
  ⟨h.os, h.tape, h.output, .inr trivial, h.size, fun b hb _ => h.block b hb, fun b hb _ => by simp [GW.grow, hb]⟩
theorem fnc_below {f : FuncId} {args : Array Value} {σ : GW} {R : Ty} {v : Value} (h : Calls P f args σ.w fun e w' => e = .returned v ∧ RowKit.Below σ.w.heap.size σ.w w') (hR : ∀ τ, R.has τ v) : FnC P f args σ R := by
  refine Calls.mono h ?_
  rintro e w' ⟨rfl, hb⟩
  exact ⟨v, σ.grow w' hb.size, rfl, GW.grow_stp hb, rfl, hR _⟩
end Go.KL

/- A global that is there; errors held against nil; numbers read by the library. -/
namespace Go.KL
variable {P : Program}
def Glb (G : Nat) (σ : GW) : Prop := σ.st G = 1 ∧ ∃ ev, σ.w.cell? ⟨G, 0, none⟩ = some ev ∧ (ev = .nilIface ∨ ∃ te pe, ev = .iface te pe)
theorem Glb.up {G : Nat} {σ τ : GW} (h : σ.Le τ) (k : Glb G σ) : Glb G τ := by
  obtain ⟨h1, ev, h2, h3⟩ := k
  exact ⟨h.st G h1, ev, by rw [World.cell?_of_block (w := σ.w) (h.blk G h1)]; exact h2, h3⟩
theorem Glb.fl {G : Nat} {L : List Nat} {σ τ : GW} (h : FromL L σ τ) (hL : L.all (2 ≤ ·) = true) (k : Glb G σ) : Glb G τ := by
  have k1 := k.1
  have hn : σ.st G ∉ L := fun hm => by
    have := List.all_eq_true.1 hL _ hm
    rw [k1] at this
    simp at this
  have hlt := σ.lt G (by omega)
  obtain ⟨_, ev, h2, h3⟩ := k
  exact ⟨(h.stp.st G hlt hn).trans k1, ev, by rw [World.cell?_of_block (w := σ.w) (h.stp.blk G hlt hn)]; exact h2, h3⟩
def isNilV : Value → Bool
  | .nilIface => true
  | _ => false
def ErrV (ev : Value) : Prop := ev = .nilIface ∨ ∃ te pe, ev = .iface te pe
section
variable {σ : GW} {a : Act} {d : Option Tmp} {ty : TypeId} {pos : String} {af : Array Edge} {g : Option (Nat × Bool)}
theorem y_neqnil {t u : TypeId} {x : Operand} {ev : Value} (ht : P.underlying t = some (.interface (P.methodsAt t))) (hx : a.eval x = ev) (h : ErrV ev) :
    Yld P ⟨d, .binOp .neq t x (.const .nilIface) u, ty, pos, af, g⟩ a σ (Ty.bool (!isNilV ev)).pr := by
  rcases h with rfl | ⟨te, pe, rfl⟩
  · exact Yld.of_run (v := .bool false) (by simp only [execOp, hx]; simp [go_sem, eqGuard, Act.eval, run_neq_nil_nil σ.w t ht]) rfl
  · exact Yld.of_run (v := .bool true) (by simp only [execOp, hx]; simp [go_sem, eqGuard, Act.eval, run_neq_held_nil σ.w t te pe ht]) rfl
end
def AtR (s : ByteArray) (n : Int) (ev : Value) : Prop := ErrV ev ∧ ((isNilV ev = true ∧ 0 ≤ n ∧ n ≤ 9223372036854775807 ∧ dgF 0 s.data.toList = min n 1000000000) ∨ (isNilV ev = false ∧ dgF 0 s.data.toList = 1000000000))
theorem fnl_below {f : FuncId} {args : Array Value} {σ : GW} {R : Value → GW → Prop} (h : Calls P f args σ.w fun e w' => ∃ v, e = .returned v ∧ RowKit.Below σ.w.heap.size σ.w w' ∧ ∀ τ, R v τ) : FnL P f args σ [] R := by
  refine Calls.mono h ?_
  rintro e w' ⟨v, rfl, hb, hR⟩
  exact ⟨v, σ.grow w' hb.size, rfl, (GW.grow_stp hb).toL0, rfl, hR _⟩
theorem atr_of {f : FuncId} {s : ByteArray} {σ : GW} {ti : TypeId} {te : TypeId} {G : Nat} (hd : ∀ b ∈ s.data.toList, isDig b) (hne : s.data.toList ≠ []) (hg : Glb G σ)
    (hok : ∀ v, Lib.atoiAll s.data.toList = .ok v → Calls P f #[.string s] σ.w fun e w' => e = .returned (.tuple #[.int .i64 v, .nilIface]) ∧ (w' = σ.w ∨ ∃ t, w' = Lib.bytesWorld σ.w ti t))
    (hbd : ∀ v, Lib.atoiAll s.data.toList = .ok v → v ≤ 9223372036854775807)
    (hra : Lib.atoiAll s.data.toList = .range → ∀ ev, σ.w.cell? ⟨G, 0, none⟩ = some ev → (ev = .nilIface ∨ ∃ te pe, ev = .iface te pe) → Calls P f #[.string s] σ.w fun e w' => ∃ sat N, e = .returned (.tuple #[.int .i64 sat, .iface te (.pointer (some ⟨N, 0, none⟩))]) ∧ RowKit.Below σ.w.heap.size σ.w w') :
    FnL P f #[.string s] σ [] (fun v τ => ∃ (n : Int) (ev : Value), (Ty.has (.tup2 (.int n) (.val ev)) τ v) ∧ AtR s n ev) := by
  refine fnl_below ?_
  rcases atoi_dig hd hne with ⟨v, h1, h2⟩ | ⟨h1, h2⟩
  · refine (hok v h1).mono ?_
    rintro e w' ⟨rfl, hw⟩
    refine ⟨_, rfl, ?_, fun τ => ⟨v, .nilIface, ⟨_, _, rfl, rfl, rfl⟩, .inl rfl, .inl ⟨rfl, by omega, hbd _ h1, by rw [h2]; omega⟩⟩⟩
    rcases hw with rfl | ⟨t, rfl⟩
    · exact RowKit.Below.refl _ _
    · exact Lib.bytesWorld_below _ _ _
  · obtain ⟨_, ev, hv, hev⟩ := hg
    refine (hra h1 ev hv hev).mono ?_
    rintro e w' ⟨sat, N, rfl, hb⟩
    exact ⟨_, rfl, hb, fun τ => ⟨sat, _, ⟨_, _, rfl, rfl, rfl⟩, .inr ⟨_, _, rfl⟩, .inr ⟨rfl, h2⟩⟩⟩
end Go.KL

/- A method's line, read by the program. -/
namespace Go.KL
open Go.Lib
def trN (s : ByteArray) : ByteArray := bsL (trimS s.data.toList (ByteArray.data (ByteArray.mk #[48, 49, 50, 51, 52, 53, 54, 55, 56, 57])).toList)
theorem trN_nil {s : ByteArray} : trN s = ByteArray.mk #[] ↔ ∀ b ∈ s.data.toList, isDig b := by
  have e : trN s = ByteArray.mk #[] ↔ trimS s.data.toList [48, 49, 50, 51, 52, 53, 54, 55, 56, 57] = [] := by
    constructor
    · intro h
      have h2 := congrArg (fun x => x.data.toList) h
      simpa [trN, bsL] using h2
    · intro h
      show bsL _ = _
      rw [show (ByteArray.data (ByteArray.mk #[48, 49, 50, 51, 52, 53, 54, 55, 56, 57])).toList = [48, 49, 50, 51, 52, 53, 54, 55, 56, 57] from rfl, h]; rfl
  rw [e, trimS_nil]
  exact ⟨fun h b hb => (dig_mem b).1 (h b hb), fun h b hb => (dig_mem b).2 (h b hb)⟩
theorem size_nil {s : ByteArray} : s = ByteArray.mk #[] ↔ s.size = 0 := by
  constructor
  · rintro rfl; rfl
  · intro h
    cases s with
    | mk d => congr 1; exact Array.eq_empty_of_size_eq_zero h
def badN (s : ByteArray) : Prop := s.size = 0 ∨ trN s ≠ ByteArray.mk #[] ∨ (1 < s.size ∧ (s.get! 0).toNat = 48)
theorem digE_neg {s : ByteArray} (h : badN s) : digE s < 0 := by
  unfold digE
  by_cases hn : noNum s
  · rw [if_pos hn]; decide
  · rw [if_neg hn]
    have h2 : trN s ≠ ByteArray.mk #[] := by
      rcases h with h | h | h
      · exact absurd (.inl h) hn
      · exact h
      · exact absurd (.inr h) hn
    have h3 : ∃ b ∈ s.data.toList, ¬ isDig b := by
      apply Classical.byContradiction
      intro hc
      refine h2 (trN_nil.2 fun b hb => ?_)
      apply Classical.byContradiction
      intro hd
      exact hc ⟨b, hb, hd⟩
    rw [dgF_bad _ _ h3]; decide
theorem dig_ok {s : ByteArray} (h : ¬ badN s) : (∀ b ∈ s.data.toList, isDig b) ∧ s.data.toList ≠ [] ∧ digE s = dgF 0 s.data.toList := by
  unfold badN at h
  have h1 : ¬ s.size = 0 := fun e => h (.inl e)
  refine ⟨trN_nil.1 (Classical.byContradiction fun e => h (.inr (.inl e))), fun e => h1 ?_, ?_⟩
  · have : s.data.toList.length = s.size := by simp
    rw [← this, e]; rfl
  · unfold digE
    rw [if_neg]
    rintro (e | e)
    · exact h1 e
    · exact h (.inr (.inr e))
theorem digE_nn {s : ByteArray} (h : ¬ badN s) : 0 ≤ digE s := by
  obtain ⟨h1, h2, h3⟩ := dig_ok h
  have hD := dgF_ex s.data.toList 0 h1
  rw [show ((min 0 1000000000 : Nat) : Int) = 0 from rfl] at hD
  rw [h3, hD]; omega
theorem bad_iff {s : ByteArray} : (((decide (s = (ByteArray.mk #[]))) || (!(decide (trN s = (ByteArray.mk #[]))))) || ((decide ((1 : Int) < (((ByteArray.size s) : Nat) : Int))) && (decide ((((s.get! ((0 : Int)).toNat).toNat : Nat) : Int) = (48 : Int))))) = true ↔ badN s := by
  unfold badN
  simp only [Bool.or_eq_true, Bool.and_eq_true, Bool.not_eq_true', decide_eq_true_eq, decide_eq_false_iff_not]
  rw [size_nil]
  have e : ((0 : Int)).toNat = 0 := rfl
  rw [e]
  constructor
  · rintro ((h | h) | ⟨h1, h2⟩)
    · exact .inl h
    · exact .inr (.inl h)
    · exact .inr (.inr ⟨by omega, by omega⟩)
  · rintro (h | h | ⟨h1, h2⟩)
    · exact .inl (.inl h)
    · exact .inl (.inr h)
    · exact .inr ⟨by omega, by omega⟩
theorem bad_c {s : ByteArray} {b : Bool} (h : b = true) (e : b = (((decide (s = (ByteArray.mk #[]))) || (!(decide (trN s = (ByteArray.mk #[]))))) || ((decide ((1 : Int) < (((ByteArray.size s) : Nat) : Int))) && (decide ((((s.get! ((0 : Int)).toNat).toNat : Nat) : Int) = (48 : Int)))))) : badN s := bad_iff.1 (e ▸ h)
theorem bad_c0 {s : ByteArray} {b : Bool} (h : b = false) (e : b = (((decide (s = (ByteArray.mk #[]))) || (!(decide (trN s = (ByteArray.mk #[]))))) || ((decide ((1 : Int) < (((ByteArray.size s) : Nat) : Int))) && (decide ((((s.get! ((0 : Int)).toNat).toNat : Nat) : Int) = (48 : Int)))))) : ¬ badN s := fun k => by
  have := bad_iff.2 k
  rw [← e, h] at this; cases this
theorem at_c {n : Int} {ev : Value} (h : (((!(isNilV ev)) || (decide (n < (2 : Int)))) || (decide ((12 : Int) < n))) = true) : isNilV ev = false ∨ n < 2 ∨ 12 < n := by
  simp only [Bool.or_eq_true, Bool.not_eq_true', decide_eq_true_eq] at h
  rcases h with (h | h) | h
  · exact .inl h
  · exact .inr (.inl h)
  · exact .inr (.inr h)
theorem at_c0 {n : Int} {ev : Value} (h : (((!(isNilV ev)) || (decide (n < (2 : Int)))) || (decide ((12 : Int) < n))) = false) : isNilV ev = true ∧ 2 ≤ n ∧ n ≤ 12 := by
  simp only [Bool.or_eq_false_iff, Bool.not_eq_false', decide_eq_false_iff_not] at h
  exact ⟨h.1.1, by omega, by omega⟩
theorem at_bad {s : ByteArray} {n : Int} {ev : Value} (h : ¬ badN s) (k : AtR s n ev) (c : isNilV ev = false ∨ n < 2 ∨ 12 < n) : ¬ digE s < 0 ∧ (digE s < 2 ∨ 12 < digE s) := by
  have hn := digE_nn h
  obtain ⟨_, _, h3⟩ := dig_ok h
  refine ⟨by omega, ?_⟩
  rw [h3]
  obtain ⟨_, ⟨k1, k2, k3, k4⟩ | ⟨k1, k2⟩⟩ := k
  · rcases c with c | c
    · rw [c] at k1; cases k1
    · rw [k4]; omega
  · rw [k2]; omega
theorem at_good {s : ByteArray} {n : Int} {ev : Value} (h : ¬ badN s) (k : AtR s n ev) (c : isNilV ev = true) (c2 : 2 ≤ n) (c3 : n ≤ 12) : n = digE s := by
  obtain ⟨_, _, h3⟩ := dig_ok h
  rw [h3]
  obtain ⟨_, ⟨k1, k2, k3, k4⟩ | ⟨k1, k2⟩⟩ := k
  · rw [k4]; omega
  · rw [c] at k1; cases k1
end Go.KL

/- What is mirrored comes back: the maths. -/
namespace Go.KL

def mirB (l : List (List Int)) : Bool := decide (∀ i, i < l.length - 1 → l.getD i [] = l.getD (l.length - 2 - i) [])
theorem cut_len (l : List (List Int)) : (l.take (l.length - 1)).length = l.length - 1 := by rw [List.length_take]; omega
theorem cut_get {l X : List (List Int)} (hX : X = l.take (l.length - 1)) {k : Nat} (hk : k < X.length) : X.getD k [] = l.getD k [] := by
  subst hX
  rw [cut_len] at hk
  rw [List.getD_eq_getElem?_getD, List.getD_eq_getElem?_getD, List.getElem?_take, if_pos hk]
theorem cut_eq {l X : List (List Int)} (hX : X = l.take (l.length - 1)) {k : Nat} (hk : k < X.length) : (X.getD k [] = X.getD (((((X.length : Nat) : Int) - (1 : Int)) - ((k : Nat) : Int))).toNat []) ↔ l.getD k [] = l.getD (l.length - 2 - k) [] := by
  have hl : X.length = l.length - 1 := by rw [hX, cut_len]
  rw [cut_get hX hk, cut_get hX (by omega), show (((((X.length : Nat) : Int) - (1 : Int)) - ((k : Nat) : Int))).toNat = l.length - 2 - k by omega]
theorem mirB_no {l X : List (List Int)} (hX : X = l.take (l.length - 1)) {k : Nat} (hk : k < X.length) (h : (!decide (X.getD k [] = X.getD (((((X.length : Nat) : Int) - (1 : Int)) - ((k : Nat) : Int))).toNat [])) = true) : mirB l = false := by
  have hl : X.length = l.length - 1 := by rw [hX, cut_len]
  simp only [Bool.not_eq_true', decide_eq_false_iff_not, cut_eq hX hk] at h
  exact decide_eq_false fun e => h (e k (by omega))
theorem mir_snoc {l X : List (List Int)} (hX : X = l.take (l.length - 1)) {k : Nat} (hk : k < X.length) (h : (!decide (X.getD k [] = X.getD (((((X.length : Nat) : Int) - (1 : Int)) - ((k : Nat) : Int))).toNat [])) = false) (hq : ∀ j, j < k → l.getD j [] = l.getD (l.length - 2 - j) []) : ∀ j, j < k + 1 → l.getD j [] = l.getD (l.length - 2 - j) [] := by
  have h : l.getD k [] = l.getD (l.length - 2 - k) [] := (cut_eq hX hk).1 (by simpa using h)
  intro j hj
  by_cases e : j = k
  · subst e; exact h
  · exact hq j (by omega)
end Go.KL

/- Places, printed, read back as they were. -/
namespace Go.KL
def wdB (x : List Int) : List UInt8 := x.map fun p => SIGNS.get! (p - 1).toNat
def txB : Bool → List (List Int) → List UInt8
  | _, [] => []
  | b, x :: r => if x = [] then 120 :: txB false r else (if b = true then [46] else []) ++ wdB x ++ txB true r
def firstE (n : Int) : List (List Int) → Int
  | [] => 0
  | x :: r => if chgMay n x ≠ 0 then chgMay n x else firstE n r
def plwE (n : Int) (l : List (List Int)) : Int := if l.length < 1 ∨ 200 < l.length then 1 else firstE n l
theorem firstE_ok {n : Int} : ∀ {l : List (List Int)}, firstE n l = 0 ↔ ∀ x ∈ l, chgMay n x = 0
  | [] => by simp [firstE]
  | x :: r => by
    unfold firstE
    split
    · rename_i h
      simp [h]
    · rename_i h
      rw [firstE_ok]
      have h0 : chgMay n x = 0 := Classical.not_not.1 h
      simp [h0]
theorem plwE_ok {n : Int} {l : List (List Int)} (h : plwE n l = 0) : 1 ≤ l.length ∧ l.length ≤ 200 ∧ ∀ x ∈ l, chgMay n x = 0 := by
  unfold plwE at h
  split at h
  · cases h
  · rename_i h1
    exact ⟨by omega, by omega, firstE_ok.1 h⟩
/-! ### A change that may be is whole -/
theorem okL_incr : ∀ {l : List Int} {z n : Int}, okL z l n → incrB l = true
  | [], _, _, _ => rfl
  | [x], _, _, _ => rfl
  | x :: y :: l, z, n, h => by
    have h4 := h.2.2.2
    have h5 := okL_incr h4
    rw [incrB_iff]
    intro k hk
    cases k with
    | zero => simpa using h4.1
    | succ k => simpa using (incrB_iff _).1 h5 k (by simpa using hk)
theorem okL_last : ∀ {l : List Int} {z n : Int}, okL z l n → l ≠ [] → (n - l.getD (l.length - 1) 0) % 2 = 0
  | [], _, _, _, h => absurd rfl h
  | [x], z, n, h, _ => by
    have h4 := h.2.2.2
    simpa using h4.2
  | x :: y :: l, z, n, h, _ => by
    have := okL_last (l := y :: l) h.2.2.2 (by simp)
    simpa using this
theorem okL_len : ∀ {l : List Int} {z n : Int}, okL z l n → ((l.length : Nat) : Int) ≤ n - z
  | [], z, n, h => by simp; have := h.1; omega
  | x :: l, z, n, h => by
    have := okL_len h.2.2.2
    have := h.1
    simp only [List.length_cons]; omega
theorem plIn_self {n : Int} {x : List Int} (h : chgMay n x = 0) (hx : x ≠ []) : incrB x = true ∧ plIn n x = x := by
  have ho := okL_of_chgMay h
  refine ⟨okL_incr ho, ?_⟩
  have hf : plFst x = x := by
    cases x with
    | nil => exact absurd rfl hx
    | cons p l =>
      unfold plFst
      rw [if_neg]
      have := ho.2.2.1
      have := ho.1
      simp only [List.getD_cons_zero]; omega
  unfold plIn
  rw [hf]
  unfold plLst
  rw [if_neg]
  rintro ⟨h1, h2⟩
  have := okL_last ho hx
  omega
theorem clE_self {n : Int} {x : List Int} {blk : List (List Int)} (h : chgMay n x = 0) (hx : x ≠ []) (hb : blk.length + 1 ≤ 200) : clE n blk x = 0 ∧ clB n blk x = blk ++ [x] := by
  obtain ⟨h1, h2⟩ := plIn_self h hx
  refine ⟨?_, ?_⟩
  · rw [clE_put hx h1 h2, putE_0 (by rw [h]; simp) (by omega)]
  · rw [clB_put hx h2]
/-! ### The runes of a text of places -/
abbrev rI (l : List UInt8) : List Int := l.map fun b => ((b.toNat : Nat) : Int)
theorem wd_run {n : Int} : ∀ (x : List Int) (st : PSt) (f : Bool) (rest : List Int), (∀ p ∈ x, 1 ≤ p ∧ p ≤ 12) → plF n (rI (wdB x) ++ rest) st f = plF n rest { st with sm := st.sm ++ x } (if x = [] then f else false)
  | [], st, f, rest, _ => by simp [wdB]
  | p :: x, st, f, rest, h => by
    have hp := h p (by simp)
    have hs := sign_of (k := (p - 1).toNat) (by omega)
    obtain ⟨c, hc⟩ : ∃ c, c = (((SIGNS.get! (p - 1).toNat).toNat : Nat) : Int) := ⟨_, rfl⟩
    rw [← hc] at hs
    have h0 : ¬ signIdx c < 0 := by omega
    have hA : isA f c = false := by cases e : isA f c; rfl; exact absurd (isA_sign e) h0
    have hX : isX c = false := by cases e : isX c; rfl; exact absurd (isX_sign e) h0
    have h46 : c ≠ 46 := fun e => h0 (signIdx_spec (by omega))
    have h44 : c ≠ 44 := fun e => h0 (signIdx_spec (by omega))
    have ih := wd_run (n := n) x { st with sm := st.sm ++ [p] } false rest (fun q hq => h q (by simp [hq]))
    have e1 : rI (wdB (p :: x)) ++ rest = c :: (rI (wdB x) ++ rest) := by rw [hc]; rfl
    rw [e1, plF, sgE_S hA hX h46 h44 h0, if_neg (by simp), sgS_S hA hX h46 h44, decide_eq_false h44, hs, show (((p - 1).toNat : Nat) : Int) + 1 = p by omega, ih]
    simp
theorem tx_run {n : Int} (hn : chgMay n [] = 0 ∨ True) : ∀ (r : List (List Int)) (blk : List (List Int)) (so : List Int) (dot f : Bool), (∀ x ∈ r, chgMay n x = 0) → clE n blk so = 0 → (clB n blk so).length + r.length ≤ 200 → (so = [] → clB n blk so = [] ∨ dot = true) → (r = [] → clB n blk so ≠ []) →
    plF n (rI (txB (!so.isEmpty) r)) ⟨[], blk, false, so, dot⟩ f = (0, clB n blk so ++ r)
  | [], blk, so, dot, f, _, h1, h2, h3, h4 => by
    have hB := h4 rfl
    have hd : clD so dot = true := by
      unfold clD
      split
      · rename_i h
        exact (h3 h).resolve_left hB
      · rfl
    have e : enE n ⟨[], blk, false, so, dot⟩ = 0 := enE_0 h1 hd (by simp at h2; simp [mirL]; omega)
    rw [txB]
    show plF n [] _ _ = _
    rw [plF, e, if_neg (by simp)]
    simp [enA, mirL]
  | x :: r, blk, so, dot, f, h0, h1, h2, h3, _ => by
    simp only [List.length_cons] at h2
    have hx := h0 x (by simp)
    have hr : ∀ y ∈ r, chgMay n y = 0 := fun y hy => h0 y (by simp [hy])
    by_cases he : x = []
    · subst he
      have hA : isA f 120 = false := by cases f <;> rfl
      have hX : isX 120 = true := rfl
      have e1 : rI (txB (!so.isEmpty) ([] :: r)) = 120 :: rI (txB false r) := by rw [txB, if_pos rfl]; rfl
      have e2 : sgE n ⟨[], blk, false, so, dot⟩ f 120 = 0 := by
        rw [sgE_X hA hX]
        show (if clE n blk so ≠ 0 then _ else _) = (0 : Int)
        rw [if_neg (by rw [h1]; simp)]
        exact putE_0 (by rw [hx]; simp) (by show ¬ 200 < (clB n blk so).length + 1; omega)
      rw [e1, plF, e2, if_neg (by simp), sgS_X hA hX]
      have ih := tx_run hn r (clB n blk so ++ [[]]) [] true false hr clE_nil (by rw [clB_nil, List.length_append, List.length_singleton]; omega) (fun _ => .inr rfl) (fun _ => by rw [clB_nil]; simp)
      rw [clB_nil] at ih
      have := ih
      simp only [List.isEmpty_nil, Bool.not_true] at this
      show plF n (rI (txB false r)) ⟨[], clB n blk so ++ [[]], false, [], true⟩ (decide ((120 : Int) = 44)) = _
      rw [decide_eq_false (by decide), this]
      simp
    · have hcl := clE_self (blk := clB n blk so) hx he (by omega)
      have hv : ∀ p ∈ x, 1 ≤ p ∧ p ≤ 12 := fun p hp => by
        have h_ := okL_lt (okL_of_chgMay hx) p hp
        have h2_ := chgMay_n hx
        omega
      have hxe : x.isEmpty = false := by cases x; exact absurd rfl he; rfl
      have key : ∀ (d g : Bool), plF n (rI (wdB x) ++ rI (txB true r)) ⟨[], clB n blk so, false, [], d⟩ g = (0, clB n blk so ++ x :: r) := by
        intro d g
        rw [wd_run x _ g _ hv]
        have ih := tx_run hn r (clB n blk so) x d (if x = [] then g else false) hr hcl.1 (by rw [hcl.2, List.length_append, List.length_singleton]; omega) (fun h_ => absurd h_ he) (fun _ => by rw [hcl.2]; simp)
        rw [hxe, hcl.2] at ih
        simp only [List.nil_append]
        rw [show (true : Bool) = !false from rfl, ih]
        simp
      by_cases hs : so = []
      · subst hs
        have e1 : rI (txB (!([] : List Int).isEmpty) (x :: r)) = rI (wdB x) ++ rI (txB true r) := by rw [txB, if_neg he]; simp
        have k := key dot f
        rw [clB_nil] at k
        rw [e1, clB_nil, k]
      · have hse : so.isEmpty = false := by cases so; exact absurd rfl hs; rfl
        have hA : isA f 46 = false := by cases f <;> rfl
        have hX : isX 46 = false := rfl
        have e1 : rI (txB (!so.isEmpty) (x :: r)) = 46 :: (rI (wdB x) ++ rI (txB true r)) := by rw [txB, if_neg he, hse]; simp
        have e2 : sgE n ⟨[], blk, false, so, dot⟩ f 46 = 0 := by
          rw [sgE_D hA hX rfl]
          show (if so = [] ∧ dot = false then _ else _) = (0 : Int)
          rw [if_neg (fun h_ => hs h_.1)]
          exact h1
        rw [e1, plF, e2, if_neg (by simp), sgS_D hA hX rfl]
        exact key false _
theorem wd_asc (x : List Int) (hv : ∀ p ∈ x, 1 ≤ p ∧ p ≤ 12) : ∀ b ∈ wdB x, b.toNat < 128 := by
  intro b hb
  obtain ⟨p, hp, rfl⟩ := List.mem_map.1 hb
  have hs := sign_of (k := (p - 1).toNat) (by have := hv p hp; omega)
  apply Classical.byContradiction
  intro h
  rw [signIdx_hi (by omega)] at hs
  omega
theorem tx_all {n : Int} : ∀ (r : List (List Int)) (b : Bool), (∀ x ∈ r, chgMay n x = 0) → (∀ c ∈ txB b r, c.toNat < 128) ∧ (txB b r).length ≤ 13 * r.length
  | [], b, _ => ⟨(by intro c h; cases h), (by simp [txB])⟩
  | x :: r, b, h => by
    have hx := h x (by simp)
    have ih := fun b' => tx_all (n := n) r b' (fun y hy => h y (by simp [hy]))
    by_cases he : x = []
    · rw [txB, if_pos he]
      refine ⟨fun c hc => ?_, by have := (ih false).2; simp only [List.length_cons]; omega⟩
      rcases List.mem_cons.1 hc with rfl | hc
      · decide
      · exact (ih false).1 c hc
    · rw [txB, if_neg he]
      have hn := chgMay_n hx
      have ho := okL_of_chgMay hx
      have hv : ∀ p ∈ x, 1 ≤ p ∧ p ≤ 12 := fun p hp => by
        have h_ := okL_lt ho p hp
        omega
      refine ⟨fun c hc => ?_, ?_⟩
      · rcases List.mem_append.1 hc with hc | hc
        · rcases List.mem_append.1 hc with hc | hc
          · split at hc
            · rw [List.mem_singleton.1 hc]; decide
            · cases hc
          · exact wd_asc x hv c hc
        · exact (ih true).1 c hc
      · have h1 := okL_len ho
        have h2 := (ih true).2
        have h3 : (wdB x).length = x.length := by simp [wdB]
        have h4 : (if b = true then [(46 : UInt8)] else []).length ≤ 1 := by split <;> simp
        simp only [List.length_append, List.length_cons]
        omega
theorem places_back {n : Int} {l : List (List Int)} (h : plwE n l = 0) : plM n (bsL (txB false l)) = (0, l) := by
  obtain ⟨h1, h2, h3⟩ := plwE_ok h
  obtain ⟨ha, hl⟩ := tx_all l false h3
  have hn : ¬ (n < 1 ∨ 12 < n) := by
    cases l with
    | nil => simp at h1
    | cons x r => exact chgMay_n (h3 x (by simp))
  unfold plM
  rw [if_neg hn, if_neg (by rw [bsL_size]; omega), asc_runs ha]
  have := tx_run (n := n) (.inr trivial) l [] [] false true h3 clE_nil (by rw [clB_nil]; simpa using h2) (fun _ => .inl clB_nil) (fun e => by rw [e] at h1; simp at h1)
  rw [clB_nil] at this
  simp only [List.isEmpty_nil, Bool.not_true, List.nil_append] at this
  exact this
end Go.KL

/- Places, printed: the loops. -/
namespace Go.KL
def prv (l : List (List Int)) (i : Nat) : Bool := decide (0 < i) && decide (0 < (l.getD (i - 1) []).length)
variable {l : List (List Int)} {out ov T R : List UInt8} {i j : Nat} {x : List Int}
theorem prv_c : (decide (0 < ((i : Nat) : Int)) && decide (0 < (((l.getD (((i : Nat) : Int) - 1).toNat []).length : Nat) : Int))) = prv l i := by
  unfold prv
  rw [show (((i : Nat) : Int) - 1).toNat = i - 1 by omega]
  simp
theorem drop_l (hi : i < l.length) : l.drop i = l.getD i [] :: l.drop (i + 1) := by
  rw [List.drop_eq_getElem_cons hi]
  congr 1
  simp [List.getD_eq_getElem?_getD, hi]
theorem prv_s (_hi : i < l.length) : prv l (i + 1) = decide (0 < (l.getD i []).length) := by
  unfold prv
  rw [decide_eq_true (Nat.succ_pos i), Bool.true_and, Nat.add_sub_cancel]
theorem tx_0 : [] ++ txB (prv l 0) (l.drop 0) = txB false l := by simp [prv]
theorem tx_e (hs : out ++ txB (prv l i) (l.drop i) = T) (hi : i < l.length) (hx : l.getD i [] = []) : (out ++ [120]) ++ txB (prv l (i + 1)) (l.drop (i + 1)) = T := by
  rw [drop_l hi, txB, if_pos hx] at hs
  rw [prv_s hi, hx, ← hs]
  simp
theorem tx_n (hs : out ++ txB (prv l i) (l.drop i) = T) (hi : i < l.length) (hx : l.getD i [] ≠ []) (hb : prv l i = false) : out ++ wdB ((l.getD i []).drop 0) ++ txB true (l.drop (i + 1)) = T := by
  rw [drop_l hi, txB, if_neg hx, hb] at hs
  rw [← hs]
  simp
theorem tx_d (hs : out ++ txB (prv l i) (l.drop i) = T) (hi : i < l.length) (hx : l.getD i [] ≠ []) (hb : prv l i = true) : (out ++ [46]) ++ wdB ((l.getD i []).drop 0) ++ txB true (l.drop (i + 1)) = T := by
  rw [drop_l hi, txB, if_neg hx, hb] at hs
  rw [← hs]
  simp
theorem tx_s (hq : ov ++ wdB (x.drop j) ++ R = T) (hj : j < x.length) : (ov ++ [SIGNS.get! (x.getD j 0 - 1).toNat]) ++ wdB (x.drop (j + 1)) ++ R = T := by
  have e : x.drop j = x.getD j 0 :: x.drop (j + 1) := drop_c hj
  rw [e] at hq
  rw [← hq]
  simp [wdB]
theorem tx_o (hq : ov ++ wdB ((l.getD i []).drop j) ++ txB true (l.drop (i + 1)) = T) (hj : ¬ j < (l.getD i []).length) (hi : i < l.length) (hx : l.getD i [] ≠ []) : ov ++ txB (prv l (i + 1)) (l.drop (i + 1)) = T := by
  rw [List.drop_eq_nil_of_le (by omega)] at hq
  have h1 : 0 < (l.getD i []).length := List.length_pos_iff.2 hx
  rw [prv_s hi, decide_eq_true h1, ← hq]
  simp [wdB]
theorem tx_end (hs : out ++ txB (prv l i) (l.drop i) = T) (hi : ¬ i < l.length) : out = T := by
  rw [List.drop_eq_nil_of_le (by omega), txB, List.append_nil] at hs
  exact hs
theorem sg_ext {b : Int} (h : 0 ≤ b ∧ b < 12) : SIGNS.extract b.toNat (b + 1).toNat = bsL [SIGNS.get! b.toNat] := by
  obtain ⟨k, rfl⟩ : ∃ k : Nat, b = k := ⟨b.toNat, by omega⟩
  have hk : k < 12 := by omega
  rw [show ((k : Int)).toNat = k by omega, show ((k : Int) + 1).toNat = k + 1 by omega]
  have : ∀ k, k < 12 → SIGNS.extract k (k + 1) = bsL [SIGNS.get! k] := by decide
  exact this k hk
theorem sg_in {p : Int} (h : 0 ≤ p ∧ p < 12) : ∀ i, i < [p].length → 0 ≤ [p].getD i 0 ∧ [p].getD i 0 < 12 := by
  intro i hi
  have : i = 0 := by simpa using hi
  subst this
  exact h
theorem sg_size {p : Int} : (bsL (signsB [p])).size = 1 := by rw [bsL_size]; rfl
theorem sg_one {p : Int} : (bsL (signsB [p])).data.toList = [SIGNS.get! p.toNat] := by simp [bsL, signsB]
theorem pl_pre {n : Int} (h : plwE n l = 0) : l.length ≤ 200 ∧ ∀ x ∈ l, x.length ≤ 12 ∧ ∀ p ∈ x, 1 ≤ p ∧ p ≤ 12 := by
  obtain ⟨_, h2, h3⟩ := plwE_ok h
  refine ⟨h2, fun x hx => ?_⟩
  have hn := chgMay_n (h3 x hx)
  have ho := okL_of_chgMay (h3 x hx)
  have h1 := okL_len ho
  exact ⟨by omega, fun p hp => by have h_ := okL_lt ho p hp; omega⟩
theorem tx_len (h : ∀ x ∈ l, x.length ≤ 12) : ∀ b, (txB b l).length ≤ 13 * l.length := by
  induction l with
  | nil => intro b; simp [txB]
  | cons x r ih =>
    intro b
    have h1 := h x (by simp)
    have h3 : (wdB x).length = x.length := by simp [wdB]
    have h4 : (if b = true then [(46 : UInt8)] else []).length ≤ 1 := by split <;> simp
    have i1 := ih (fun y hy => h y (by simp [hy])) false
    have i2 := ih (fun y hy => h y (by simp [hy])) true
    rw [txB]
    split
    · simp only [List.length_cons]; omega
    · simp only [List.length_append, List.length_cons]; omega
/-! ### Which may be -/
variable {n w : Int}
end Go.KL

/- Plain maths: lists in order, false heads. -/
namespace Go.KL
/-! ### The order of lists -/
/-! ### Lists in order, merged -/
/-! The steps of merging -/
/-! ### Each once -/
/-! ### False heads -/
section
variable {rows : List (List Int)} {m i k : Nat}
end
/-! ### Counted by rank -/
end Go.KL

/- Both proofs agree: a touch is true row by row just when it is by the heads of its leads. -/
namespace Go.KL
/-! ### Rows as a group -/
structure RowN (n : Nat) (r : List Int) : Prop where
  row : IsRow r
  len : r.length = n
theorem RowN.bd {n : Nat} {r : List Int} (h : RowN n r) : In n r := by have := h.row.bds; rwa [h.len] at this
theorem RowN.by {n : Nat} {a b : List Int} (h : RowN n a) (k : RowN n b) : RowN n (byL a b) := ⟨byL_row h.row k.row (by rw [h.len, k.len]), by rw [byL_len, k.len]⟩
theorem by_as {n : Nat} (a : List Int) {b c : List Int} (hb : RowN n b) (hc : RowN n c) : byL a (byL b c) = byL (byL a b) c := byL_assoc a b c (by rw [hb.len]; exact hc.bd)
/-! ### A lead from its head -/
theorem curL_by {n : Nat} {l : List (List Int)} {r : List Int} (h1 : 1 ≤ n) (h2 : n ≤ 12) (hr : RowN n r) (h : ∀ k, k < l.length → okL 0 (l.getD k []) n) : ∀ k, k ≤ l.length → curL r l k = byL r (curL (roundsL n) l k)
  | 0, _ => by
    show r = byL r (roundsL n)
    rw [byL_rounds_right hr.len]
  | k + 1, hk => by
    have hc := curL_row h1 h2 h k (by omega)
    have hg : RowN n (chgRow n (l.getD k [])) := ⟨(ord_inv (h k (by omega)) h1 h2).1, chgRow_len (h k (by omega))⟩
    have hh : (curL r l k).length = n := by rw [curL_by h1 h2 hr h k (by omega), byL_len, hc.2]
    rw [curL_succ r l k (by omega), curL_succ (roundsL n) l k (by omega), hh, hc.2, curL_by h1 h2 hr h k (by omega), by_as r ⟨hc.1, hc.2⟩ hg]
section
variable {nm : ByteArray} {n : Nat} {l : List (List Int)} {cs : List BCall} {p : List Int}
end
end Go.KL

/- A method, as a line and back; its hunts, its lines, its course. -/
namespace Go.KL
open Go.Lib
/-! ### A name holds no bar -/
theorem inner_hi {s : ByteArray} {p j : Nat} (h1 : p < j) (h2 : j < p + wid s p) : 128 ≤ (s.get! j).toNat := by
  unfold wid at h2
  rw [Lib.decode_at] at h2
  have e1 : j = p + 1 ∨ j = p + 2 ∨ j = p + 3 ∨ p + 4 ≤ j := by omega
  revert h2
  unfold Lib.decodeN
  repeat' split
  all_goals (intro h2; simp only at h2; rcases e1 with rfl | rfl | rfl | e1 <;> omega)
theorem rune_at {s : ByteArray} {j : Nat} (hj : j < s.size) (hb : (s.get! j).toNat < 128) : ∀ (f p : Nat), s.size ≤ f + p → p ≤ j → (s.get! j).toNat ∈ runesF s f p
  | 0, p, h1, h2 => by omega
  | f + 1, p, h1, h2 => by
    rw [runesF, if_pos (by omega)]
    by_cases e : j = p
    · subst e
      rw [(run1_lo hb).1]; exact List.mem_cons_self ..
    · by_cases e2 : j < p + wid s p
      · have := inner_hi (by omega) e2
        omega
      · have hw := wid_pos s p
        exact List.mem_cons_of_mem _ (rune_at hj hb f (p + wid s p) (by omega) (by omega))
theorem name_bar {s : ByteArray} (h : nameL s = true) : ∀ b ∈ s.data.toList, b ≠ 124 := by
  intro b hb e
  subst e
  obtain ⟨j, hj, e⟩ := List.getElem_of_mem hb
  have hj2 : j < s.size := by simpa using hj
  have hg : s.get! j = 124 := by rw [get_list hj2]; exact e
  have hr := rune_at hj2 (by rw [hg]; decide) s.size 0 (by omega) (by omega)
  rw [hg] at hr
  unfold nameL at h
  rw [Bool.and_eq_true] at h
  have h2 := List.all_eq_true.1 h.1 _ hr
  revert h2; decide
/-! ### The line, cut again -/
theorem cut_app {c : UInt8} {r : List UInt8} : ∀ {a : List UInt8}, (∀ b ∈ a, b ≠ c) → cutL c (a ++ c :: r) = a :: cutL c r
  | [], _ => by rw [List.nil_append, cutL, if_pos rfl]
  | b :: a, h => by
    rw [List.cons_append, cutL, if_neg (h b (by simp)), cut_app (a := a) (fun x hx => h x (by simp [hx]))]
theorem cut_no {c : UInt8} : ∀ {a : List UInt8}, (∀ b ∈ a, b ≠ c) → cutL c a = [a]
  | [], _ => rfl
  | b :: a, h => by
    rw [cutL, if_neg (h b (by simp)), cut_no (a := a) (fun x hx => h x (by simp [hx]))]
def mlB (nm : ByteArray) (n : Nat) (l : List (List Int)) : ByteArray := ((((nm ++ (ByteArray.mk #[124])) ++ decB n) ++ (ByteArray.mk #[124])) ++ bsL (txB false l))
theorem ml_list {nm : ByteArray} {n : Nat} {l : List (List Int)} : (mlB nm n l).data.toList = nm.data.toList ++ 124 :: (decL n ++ 124 :: txB false l) := by
  unfold mlB decB
  simp [bsL]
theorem signs_bar (k : Nat) : SIGNS.get! k ≠ 124 := by
  by_cases h : k < 12
  · exact (by decide +kernel : ∀ m : Fin 12, SIGNS.get! m.val ≠ 124) ⟨k, h⟩
  · show SIGNS.data[k]! ≠ 124
    rw [getElem!_neg SIGNS.data k (by show ¬ k < SIGNS.size; have := signs_size; omega)]
    decide
theorem tx_bar {l : List (List Int)} : ∀ b, ∀ x ∈ txB b l, x ≠ 124 := by
  induction l with
  | nil => intro b x hx; simp [txB] at hx
  | cons y r ih =>
    intro b x hx
    unfold txB at hx
    split at hx
    · rcases List.mem_cons.1 hx with rfl | hx
      · decide
      · exact ih _ x hx
    · rw [List.mem_append, List.mem_append] at hx
      rcases hx with (hx | hx) | hx
      · split at hx
        · rw [List.mem_singleton.1 hx]; decide
        · cases hx
      · unfold wdB at hx
        obtain ⟨p, _, rfl⟩ := List.mem_map.1 hx
        exact signs_bar _
      · exact ih _ x hx
theorem dec_bar {n : Nat} (h : n ≤ 12) : ∀ x ∈ decL n, x ≠ 124 :=
  (by decide +kernel : ∀ m : Fin 13, ∀ x ∈ decL m.val, x ≠ 124) ⟨n, by omega⟩
theorem dec_dig {n : Nat} (h1 : 2 ≤ n) (h : n ≤ 12) : digE (decB n) = (n : Int) := by
  have key : ∀ m : Fin 13, m.val < 2 ∨ digE (decB m.val) = (m.val : Int) := by decide +kernel
  exact (key ⟨n, by omega⟩).resolve_left (by simp only; omega)
theorem ml_cut {nm : ByteArray} {n : Nat} {l : List (List Int)} (h : nameL nm = true) (hn : n ≤ 12) : cutT 124 (mlB nm n l) = [nm, decB n, bsL (txB false l)] := by
  unfold cutT
  rw [ml_list, cut_app (name_bar h), cut_app (dec_bar hn), cut_no (tx_bar false)]
  simp only [List.map_cons, List.map_nil, bsL_data]
  rfl
theorem plw_of {nm : ByteArray} {n : Int} {l : List (List Int)} (h : methMay nm n l = 0) : plwE n l = 0 := by
  unfold methMay at h
  split at h
  · cases h
  · split at h
    · cases h
    · rename_i h1
      unfold plwE
      rw [if_neg (by omega)]
      exact firstE_ok.2 (allMay_zero.1 h)
theorem ml_back {nm : ByteArray} {n : Int} {l : List (List Int)} (h : methMay nm n l = 0) (hs : ¬ 4000 < (mlB nm n.toNat l).size) :
    rdE (mlB nm n.toNat l) = 0 ∧ pcs (mlB nm n.toNat l) 0 = nm ∧ digE (pcs (mlB nm n.toNat l) 1) = n ∧ (plM (digE (pcs (mlB nm n.toNat l) 1)) (pcs (mlB nm n.toNat l) 2)).2 = l := by
  obtain ⟨ho, hn⟩ := methMay_ok' h
  have hc := ml_cut (l := l) ho.name ho.n2
  have h0 : pcs (mlB nm n.toNat l) 0 = nm := by unfold pcs; rw [hc]; rfl
  have h1 : pcs (mlB nm n.toNat l) 1 = decB n.toNat := by unfold pcs; rw [hc]; rfl
  have h2 : pcs (mlB nm n.toNat l) 2 = bsL (txB false l) := by unfold pcs; rw [hc]; rfl
  have hd : digE (pcs (mlB nm n.toNat l) 1) = n := by rw [h1, dec_dig ho.n1 ho.n2]; exact hn
  have hb := places_back (plw_of h)
  have n1 := ho.n1
  have n2 := ho.n2
  have hlen : (cutT 124 (mlB nm n.toNat l)).length = 3 := by rw [hc]; rfl
  refine ⟨?_, h0, hd, by rw [hd, h2, hb]⟩
  rw [rd_p hs (by omega) (by omega) (by rw [h0]; exact ho.name) (by rw [hd]; omega) (by rw [hd]; omega), hd, h2, hb]
/-! ### Hunts and lines -/
def huntTo (h : List Int) (k : Nat) : List Int := ((List.range k).filter fun (i : Nat) => decide (h.getD i 0 = (i : Int))).map fun (i : Nat) => (i : Int)
theorem hunt_yes {h : List Int} {k : Nat} (e : h.getD k 0 = (k : Int)) : huntTo h (k + 1) = huntTo h k ++ [(k : Int)] := by
  unfold huntTo
  rw [List.range_succ, List.filter_append, List.filter_cons, if_pos (decide_eq_true e), List.filter_nil, List.map_append, List.map_cons, List.map_nil]
theorem hunt_no {h : List Int} {k : Nat} (e : h.getD k 0 ≠ (k : Int)) : huntTo h (k + 1) = huntTo h k := by
  unfold huntTo
  rw [List.range_succ, List.filter_append, List.filter_cons, if_neg (by simpa using e), List.filter_nil, List.append_nil]
theorem hunt_len (h : List Int) (k : Nat) : (huntTo h k).length ≤ k := by
  unfold huntTo
  rw [List.length_map]
  exact Nat.le_trans (List.length_filter_le _ _) (Nat.le_of_eq List.length_range)
def lnTo (F : List (List Int)) (b : Int) (k : Nat) : List Int := (List.range k).map fun i => indexL (F.getD i []) b + 1
theorem ln_succ (F : List (List Int)) (b : Int) (k : Nat) : lnTo F b (k + 1) = lnTo F b k ++ [indexL (F.getD k []) b + 1] := by simp [lnTo, List.range_succ]
theorem ln_len (F : List (List Int)) (b : Int) (k : Nat) : (lnTo F b k).length = k := by simp [lnTo]
theorem undo_index {r : List Int} (hr : IsRow r) {b : Int} (h0 : 0 ≤ b) (h1 : b < (r.length : Int)) : (undoL r).getD b.toNat 0 = indexL r b := by
  obtain ⟨m, rfl⟩ : ∃ m : Nat, b = m := ⟨b.toNat, by omega⟩
  rw [Int.toNat_natCast, undoL_get (by omega)]
  unfold indexL
  rw [if_pos (hr.mem (by omega))]
/-! ### The course, lead by lead -/
theorem crs_add (n : Nat) (l : List (List Int)) (k : Nat) : ∀ j, j ≤ l.length → crs n l (k * l.length + j) = crs n l (k * l.length) ++ (List.range j).map fun i => byL (powL n (headL n l) k) (curL (roundsL n) l i)
  | 0, _ => by simp
  | j + 1, h => by
    rw [← Nat.add_assoc, crs_succ n l k j (by omega), crs_add n l k j (by omega), List.range_succ, List.map_append, List.append_assoc]; rfl
theorem from_take {r : List Int} {l : List (List Int)} {m : Nat} (hm : m = l.length) : (fromL r l).take m = (List.range l.length).map (curL r l) := by
  subst hm
  unfold fromL fromTo
  rw [List.range_succ, List.map_append, List.take_left' (by simp)]
section
variable {nm : ByteArray} {n : Nat} {l : List (List Int)}
theorem pow_rowN (h : MethOk nm n l) (k : Nat) : RowN n (powL n (headL n l) k) := ⟨powL_row h.head.1 h.head.2 k, powL_len h.head.2 k⟩
theorem crs_lead (h : MethOk nm n l) (k : Nat) {m : Nat} (hm : m = l.length) : crs n l ((k + 1) * l.length) = crs n l (k * l.length) ++ (fromL (powL n (headL n l) k) l).take m := by
  rw [Nat.succ_mul, crs_add n l k l.length (Nat.le_refl _), from_take hm]
  congr 1
  refine List.map_congr_left fun i hi => ?_
  have hi := List.mem_range.1 hi
  exact (curL_by (by have := h.n1; omega) h.n2 (pow_rowN h k) h.ok i (by omega)).symm
theorem lead_last (h : MethOk nm n l) (k : Nat) {m : Nat} (hm : m = l.length) : (fromL (powL n (headL n l) k) l).getD m [] = powL n (headL n l) (k + 1) := by
  subst hm
  rw [fromL_getj (Nat.le_refl _), curL_by (by have := h.n1; omega) h.n2 (pow_rowN h k) h.ok _ (Nat.le_refl _)]; rfl
theorem lead_rows (h : MethOk nm n l) {k : Nat} (hk : k < l.length + 1) : IsRow ((fromL (roundsL n) l).getD k []) ∧ ((fromL (roundsL n) l).getD k []).length = n := by
  rw [fromL_getj (by omega)]
  exact curL_row (by have := h.n1; omega) h.n2 h.ok k (by omega)
end
theorem tx_size {n : Int} {l : List (List Int)} (h : plwE n l = 0) : (bsL (txB false l)).size ≤ 2600 := by
  have hp := pl_pre h
  rw [bsL_size]
  have h_ := tx_len (fun x hx => (hp.2 x hx).1) false
  omega
theorem indexL_bd (xs : List Int) (b : Int) : -1 ≤ indexL xs b ∧ indexL xs b ≤ ((xs.length : Nat) : Int) := by
  unfold indexL
  split
  · have := List.idxOf_le_length (a := b) (l := xs)
    omega
  · omega
theorem back_true {tx nm : ByteArray} {n : Int} {l : List (List Int)} (ht : tx = mlB nm n.toNat l) (h0 : methMay nm n l = 0) :
    ((decide ((4000 : Int) < (((ByteArray.size tx) : Nat) : Int))) || ((decide ((rdE tx) = (0 : Int))) && (((decide ((if rdE tx = 0 then pcs tx 0 else ByteArray.empty) = nm)) && (decide ((if rdE tx = 0 then digE (pcs tx 1) else 0) = n))) && (decide ((if rdE tx = 0 then (plM (digE (pcs tx 1)) (pcs tx 2)).2 else []) = l))))) = true := by
  subst ht
  by_cases hs : 4000 < (mlB nm n.toNat l).size
  · rw [decide_eq_true (show (4000 : Int) < (((mlB nm n.toNat l).size : Nat) : Int) by omega), Bool.true_or]
  · obtain ⟨h1, h2, h3, h4⟩ := ml_back h0 hs
    rw [if_pos h1, if_pos h1, if_pos h1, h4, h3, h2, h1]
    simp
end Go.KL

/- From a row's reading of its arguments to semantic types, and from a law's contract back to the row. -/
namespace Go.KL
open Go.ChangeShapes Go.WideShapes Go.ChangeAt Go.RowKit Go.Deep
variable {P : Program}

def GW.all (W : World) : GW := ⟨W, fun b => if b < W.heap.size then 1 else 0, fun b h => by
  by_cases hb : b < W.heap.size
  · exact hb
  · simp [hb] at h⟩

structure Bulk {H : Type} (B : DataW H → Nat) (BA : List (DataW H) → Nat) : Prop where
  one : ∀ d, 1 ≤ B d
  str : ∀ l, B (.lit (.string l)) = l.length + 1
  slice : ∀ es sp, B (.slice es sp) = BA es + BA sp + 1
  agg : ∀ ps, B (.agg ps) = BA ps + 1
  nil : BA [] = 0
  cons : ∀ d r, BA (d :: r) = B d + BA r

def Rd (P : Program) (t : TypeId) {α : Type} (cells : α → List Ty) (wf : α → Prop) (sz : α → Nat) (rc : α → Prop) : Prop :=
  ∀ (H : Type) (enc : TypeId × Value → H) (B : DataW H → Nat) (BA : List (DataW H) → Nat), Bulk B BA → ∀ (W : World) (fuel : Nat) (cs : List Value) (d : DataW H) (ps : List MemPlace),
    DataW.trod enc P W 0 (fun _ => true) true fuel t cs = some (d, ps) → ∃ x : α, wf x ∧ sz x ≤ B d ∧ ((d.weights P t).all (· ≤ reachBytes) = true → rc x) ∧ cs.length = (cells x).length ∧
      ∀ (j : Nat) (T : Ty) (u : Value), (cells x)[j]? = some T → cs[j]? = some u → T.has (GW.all W) u

theorem one_cell {T : Ty} {v : Value} {σ : GW} (h : T.has σ v) : ∀ (j : Nat) (U : Ty) (u : Value), [T][j]? = some U → [v][j]? = some u → U.has σ u := by
  intro j U u h1 h2
  match j with
  | 0 => simp at h1 h2; subst h1; subst h2; exact h
  | j + 1 => simp at h1

theorem rd_int {t : TypeId} {k : IntKind} (ht : P.underlying t = some (.int k)) : Rd P t (fun n : Int => [Ty.val (.int k n)]) (fun n => (Lit.int k n).wf = true) (fun _ => 1) (fun _ => True) := by
  intro H enc B BA hB W fuel cs d ps h
  obtain ⟨n, rfl, e, hw⟩ := DataW.trod_int ht h
  obtain ⟨rfl, rfl⟩ := Prod.mk.inj e
  exact ⟨n, hw, hB.one _, fun _ => trivial, rfl, one_cell rfl⟩
theorem rd_str {t : TypeId} (ht : P.underlying t = some .string) : Rd P t (fun s : ByteArray => [Ty.val (.string s)]) (fun s => s.size ≤ maxLen) (fun s => s.size + 1) (fun s => s.size ≤ reachBytes) := by
  intro H enc B BA hB W fuel cs d ps h
  obtain ⟨s, rfl, e, hw⟩ := DataW.trod_string ht h
  obtain ⟨rfl, rfl⟩ := Prod.mk.inj e
  refine ⟨s, hw, by rw [hB.str]; simp, fun h => ?_, rfl, one_cell rfl⟩
  simpa [DataW.weights] using h

theorem BA_map {H : Type} {B : DataW H → Nat} {BA : List (DataW H) → Nat} (hB : Bulk B BA) {α : Type} (sz : α → Nat) : ∀ (xs : List α) (D : List (DataW H)), xs.length = D.length → (∀ (i : Nat) x d, xs[i]? = some x → D[i]? = some d → sz x ≤ B d) → (xs.map sz).sum ≤ BA D
  | [], [], _, _ => by simp
  | x :: xs, d :: D, hl, h => by
    rw [hB.cons, List.map_cons, List.sum_cons]
    have h0 := h 0 x d rfl rfl
    have := BA_map hB sz xs D (by simpa using hl) (fun i y e hy he => h (i + 1) y e (by simpa using hy) (by simpa using he))
    omega

theorem weightsAll_mem {H : Type} {e : TypeId} : ∀ {D : List (DataW H)} {d : DataW H}, d ∈ D → ∀ n, n ∈ d.weights P e → n ∈ DataW.weightsAll P e D
  | x :: D, d, h, n, hn => by
    simp only [DataW.weightsAll, List.mem_append]
    rcases List.mem_cons.1 h with rfl | h
    · exact .inl hn
    · exact .inr (weightsAll_mem h n hn)

theorem spot_none {w : World} {a : Addr} {v : Value} (h : w.cell? a = some v) : a.spot = none := by
  unfold World.cell? at h
  split at h
  · split at h
    · cases h
    · rename_i hs; simpa using hs
  · cases h

theorem rd_slice {t e c : TypeId} {α : Type} {cells : α → List Ty} {wf : α → Prop} {sz : α → Nat} {rc : α → Prop} (ht : P.underlying t = some (.slice e)) (hc : P.cellsOf e = c) (hc0 : 0 < c) (he : Rd P e cells wf sz rc) (hcl : ∀ x, wf x → (cells x).length = c) :
    Rd P t (fun xs : List α => [Ty.sl c xs.length (xs.flatMap cells)]) (fun xs => xs.length ≤ maxLen ∧ ∀ x ∈ xs, wf x) (fun xs => (xs.map sz).sum + 1) (fun xs => xs.length * P.bytesOf e ≤ reachBytes ∧ ∀ x ∈ xs, rc x) := by
  intro H enc B BA hB W fuel cs d ps h
  rcases open_slice ht h with ⟨rfl, e1⟩ | ⟨a, len, cap, m, n, D, Pl, rfl, _, hlen, hcap, hm, e1, hel⟩
  · obtain ⟨rfl, rfl⟩ := Prod.mk.inj e1
    exact ⟨[], ⟨Nat.zero_le _, fun x h => by cases h⟩, by simpa using hB.one _, fun _ => ⟨by simp, fun x h => by cases h⟩, rfl, one_cell ⟨none, 0, 0, 0, rfl, ⟨Nat.le_refl _, by decide⟩, by simp, .inl rfl, fun j T hj => by simp at hj⟩⟩
  · obtain ⟨rfl, rfl⟩ := Prod.mk.inj e1
    subst hc
    simp only [if_true] at hm
    subst hm
    have hx : ∀ i : Fin len, ∃ x : α, ∃ cs' : List Value, W.cells? 0 (a.add (i * P.cellsOf e)) (P.cellsOf e) = some cs' ∧ wf x ∧ sz x ≤ B (D i) ∧ (((D i).weights P e).all (· ≤ reachBytes) = true → rc x) ∧ cs'.length = (cells x).length ∧
        ∀ (j : Nat) (T : Ty) (u : Value), (cells x)[j]? = some T → cs'[j]? = some u → T.has (GW.all W) u := by
      intro i
      obtain ⟨cs', h1, h2⟩ := hel i (by omega)
      obtain ⟨x, hx⟩ := he H enc B BA hB W n cs' _ _ h2
      exact ⟨x, cs', h1, hx⟩
    let f : Fin len → α := fun i => Classical.choose (hx i)
    have hf : ∀ i : Fin len, ∃ cs' : List Value, W.cells? 0 (a.add (i * P.cellsOf e)) (P.cellsOf e) = some cs' ∧ wf (f i) ∧ sz (f i) ≤ B (D i) ∧ (((D i).weights P e).all (· ≤ reachBytes) = true → rc (f i)) ∧ cs'.length = (cells (f i)).length ∧
        ∀ (j : Nat) (T : Ty) (u : Value), (cells (f i))[j]? = some T → cs'[j]? = some u → T.has (GW.all W) u := fun i => Classical.choose_spec (hx i)
    have hlf : (List.ofFn f).length = len := by simp
    have hget : ∀ (i : Nat) (x : α), (List.ofFn f)[i]? = some x → ∃ hi : i < len, x = f ⟨i, hi⟩ := fun i x h => by
      have hi : i < len := by have := (List.getElem?_eq_some_iff.1 h).1; simpa using this
      refine ⟨hi, ?_⟩
      rw [List.getElem?_ofFn] at h
      simp [hi] at h
      exact h.symm
    have hmem : ∀ x ∈ List.ofFn f, ∃ i : Fin len, x = f i := fun x h => by
      obtain ⟨i, hi⟩ := List.mem_iff_getElem?.1 h
      obtain ⟨hi', rfl⟩ := hget i x hi
      exact ⟨⟨i, hi'⟩, rfl⟩
    have hwf : ∀ x ∈ List.ofFn f, wf x := fun x h => by
      obtain ⟨i, rfl⟩ := hmem x h
      obtain ⟨_, _, h1, _⟩ := hf i
      exact h1
    have hflat : ∀ (xs : List α), (∀ x ∈ xs, wf x) → (xs.flatMap cells).length = xs.length * P.cellsOf e := fun xs h => by
      induction xs with
      | nil => simp
      | cons x xs ih =>
        rw [List.flatMap_cons, List.length_append, hcl x (h x (by simp)), ih (fun y hy => h y (by simp [hy])), List.length_cons, Nat.succ_mul]; omega
    refine ⟨List.ofFn f, ⟨by rw [hlf]; omega, hwf⟩, ?_, fun hr => ⟨?_, fun x h => ?_⟩, rfl, one_cell ?_⟩
    · rw [hB.slice]
      have := BA_map hB sz (List.ofFn f) ((List.range len).map D) (by simp) (fun i x d hx hd => by
        obtain ⟨hi, rfl⟩ := hget i x hx
        obtain ⟨_, _, _, h2, _⟩ := hf ⟨i, hi⟩
        rw [List.getElem?_map, List.getElem?_range hi] at hd
        simp at hd; subst hd; exact h2)
      show (List.map sz (List.ofFn f)).sum + 1 ≤ _
      omega
    · rw [hlf]
      have : (((List.range len).map D).length + ((List.range (m - len)).map fun j => D (len + j)).length) * P.bytesOf e ≤ reachBytes := by
        have := List.all_eq_true.1 hr _ (by simp only [DataW.weights, ht]; exact List.mem_cons_self)
        simpa using this
      refine Nat.le_trans (Nat.mul_le_mul_right _ ?_) this
      simp
    · obtain ⟨i, rfl⟩ := hmem x h
      obtain ⟨_, _, _, _, h3, _⟩ := hf i
      refine h3 (List.all_eq_true.2 fun k hk => ?_)
      refine List.all_eq_true.1 hr k ?_
      simp only [DataW.weights, ht]
      refine List.mem_cons_of_mem _ (List.mem_append.2 (.inl (weightsAll_mem (D := List.map D (List.range len)) (d := D i.val) (List.mem_map.2 ⟨i.val, List.mem_range.2 i.2, rfl⟩) k hk)))
    · -- the cells
      by_cases h0 : len = 0
      · have e0 : List.ofFn f = [] := List.eq_nil_of_length_eq_zero (by rw [hlf, h0])
        rw [e0, h0]
        exact ⟨some a, m, 0, 0, rfl, ⟨Nat.zero_le _, hcap⟩, by simp, .inl rfl, fun j T hj => by simp at hj⟩
      · have hcell : ∀ (i : Fin len) (k : Nat) (T : Ty), (cells (f i))[k]? = some T → ∃ u, W.cell? ((a.add (i * P.cellsOf e)).add k) = some u ∧ T.has (GW.all W) u := fun i k T hT => by
          obtain ⟨cs', h1, h2, _, _, h5, h6⟩ := hf i
          have hk : k < cs'.length := by rw [h5]; exact (List.getElem?_eq_some_iff.1 hT).1
          refine ⟨cs'[k], ?_, h6 k T _ hT (by simp [hk])⟩
          have hkc : k < P.cellsOf e := by rw [← hcl _ h2, ← h5]; exact hk
          unfold World.cells? at h1
          rw [if_pos (Nat.zero_le _)] at h1
          have := mapM_some_get h1 k k (by rw [List.getElem?_range hkc])
          rw [this]; simp [hk]
        have hspot : a.spot = none := by
          obtain ⟨cs', h1, h2, _, _, h5, h6⟩ := hf ⟨0, by omega⟩
          have h7 : 0 < (cells (f ⟨0, by omega⟩)).length := by rw [hcl _ h2]; exact hc0
          obtain ⟨u, hu, _⟩ := hcell ⟨0, by omega⟩ 0 _ (List.getElem?_eq_getElem h7)
          simp [Addr.add] at hu
          exact spot_none hu
        obtain ⟨ab, ao, asp⟩ := a
        simp only at hspot
        subst hspot
        have hlt : ab < W.heap.size := by
          obtain ⟨cs', h1, h2, _, _, h5, h6⟩ := hf ⟨0, by omega⟩
          have h7 : 0 < (cells (f ⟨0, by omega⟩)).length := by rw [hcl _ h2]; exact hc0
          obtain ⟨u, hu, _⟩ := hcell ⟨0, by omega⟩ 0 _ (List.getElem?_eq_getElem h7)
          simp [Addr.add] at hu
          exact World.block_lt_of_cell? _ _ hu
        refine ⟨some ⟨ab, ao, none⟩, m, ab, ao, by rw [hlf], ⟨by omega, hcap⟩, hflat _ hwf, .inr ⟨rfl, by simp [GW.all, hlt]⟩, fun j T hj => ?_⟩
        -- cell j is cell j % c of element j / c
        have key : ∀ (xs : List α) (o : Nat), (∀ x ∈ xs, wf x) → (∀ (i : Nat) x, xs[i]? = some x → ∀ (k : Nat) (T : Ty), (cells x)[k]? = some T → ∃ u, W.cell? ⟨ab, o + i * P.cellsOf e + k, none⟩ = some u ∧ T.has (GW.all W) u) →
            ∀ (j : Nat) (T : Ty), (xs.flatMap cells)[j]? = some T → ∃ u, W.cell? ⟨ab, o + j, none⟩ = some u ∧ T.has (GW.all W) u := by
          intro xs
          induction xs with
          | nil => intro o _ _ j T hj; simp at hj
          | cons x xs ih =>
            intro o hw hc j T hj
            rw [List.flatMap_cons] at hj
            have hlx := hcl x (hw x (by simp))
            by_cases hjl : j < (cells x).length
            · rw [List.getElem?_append_left hjl] at hj
              have := hc 0 x rfl j T hj
              simpa using this
            · rw [List.getElem?_append_right (by omega)] at hj
              have := ih (o + P.cellsOf e) (fun y hy => hw y (by simp [hy])) (fun i y hy k T hT => by
                have := hc (i + 1) y (by simpa using hy) k T hT
                rw [Nat.succ_mul] at this
                rw [show o + P.cellsOf e + i * P.cellsOf e + k = o + (i * P.cellsOf e + P.cellsOf e) + k by omega]
                exact this) _ T hj
              rw [hlx] at this hjl
              rwa [show o + P.cellsOf e + (j - P.cellsOf e) = o + j by omega] at this
        refine key (List.ofFn f) ao hwf (fun i x hx k T hT => ?_) j T hj
        obtain ⟨hi, rfl⟩ := hget i x hx
        have := hcell ⟨i, hi⟩ k T hT
        simp only [Addr.add_lit] at this
        exact this

theorem Rd.conv {t : TypeId} {α β : Type} {cells : α → List Ty} {wf : α → Prop} {sz : α → Nat} {rc : α → Prop} {cells' : β → List Ty} {wf' : β → Prop} {sz' : β → Nat} {rc' : β → Prop} (h : Rd P t cells wf sz rc) (g : α → β)
    (hg : ∀ x, wf x → wf' (g x) ∧ sz' (g x) ≤ sz x ∧ (rc x → rc' (g x)) ∧ cells' (g x) = cells x) : Rd P t cells' wf' sz' rc' := by
  intro H enc B BA hB W fuel cs d ps ht
  obtain ⟨x, h1, h2, h3, h4, h5⟩ := h H enc B BA hB W fuel cs d ps ht
  obtain ⟨g1, g2, g3, g4⟩ := hg x h1
  exact ⟨g x, g1, Nat.le_trans g2 h2, fun h => g3 (h3 h), by rw [g4]; exact h4, by rw [g4]; exact h5⟩

theorem flatMap_one {α : Type} (f : α → Ty) (xs : List α) : xs.flatMap (fun x => [f x]) = xs.map f := by
  induction xs with
  | nil => rfl
  | cons x xs ih => simp [ih]

theorem rd_lst {t e : TypeId} {α : Type} {f : α → Ty} {wf : α → Prop} {sz : α → Nat} {rc : α → Prop} (ht : P.underlying t = some (.slice e)) (hc : P.cellsOf e = 1) (he : Rd P e (fun x => [f x]) wf sz rc) :
    Rd P t (fun xs : List α => [Ty.lst f xs]) (fun xs => xs.length ≤ maxLen ∧ ∀ x ∈ xs, wf x) (fun xs => (xs.map sz).sum + 1) (fun xs => xs.length * P.bytesOf e ≤ reachBytes ∧ ∀ x ∈ xs, rc x) :=
  (rd_slice ht hc (by decide) he (fun _ _ => rfl)).conv id fun x h => ⟨h, Nat.le_refl _, id, by simp [flatMap_one, Ty.lst]⟩

/-! ### Back to the row -/
theorem trodAll_stays {H : Type} {enc : TypeId × Value → H} (hl : laidOutB P = true) {W W' : World} (hb : Below W.heap.size W W') : ∀ {ts : List TypeId} {vs : List Value} {ds : List (DataW H)} {ps : List MemPlace},
    DataW.TrodAll enc P W 0 (fun _ => true) true ts vs ds ps → (ts.all fun t => P.readableRec t && decide (t < P.types.size)) = true → (∀ x ∈ ps, x.block < W.heap.size) → DataW.TrodAll enc P W' 0 (fun b => decide (b < W.heap.size)) true ts vs ds ps
  | [], [], [], ps, h, _, _ => h
  | t :: ts, v :: vs, d :: ds, ps, h, ha, hp => by
    obtain ⟨p, q, h1, h2, rfl⟩ := h
    simp only [List.all_cons, Bool.and_eq_true, decide_eq_true_eq] at ha
    exact ⟨p, q, Below.trod hl ha.1.1 ha.1.2 h1 hb (fun x hx => hp x (List.mem_append.2 (.inl hx))), trodAll_stays hl hb h2 ha.2 (fun x hx => hp x (List.mem_append.2 (.inr hx))), rfl⟩
  | [], [], _ :: _, _, h, _, _ => h.elim
  | [], _ :: _, _, _, h, _, _ => h.elim
  | _ :: _, [], _, _, h, _, _ => h.elim
  | _ :: _, _ :: _, [], _, h, _, _ => h.elim

theorem law_post {H : Type} {enc : TypeId × Value → H} {fn : Func} {f : FuncId} {s : ChangeSpec} {W : World} {args : Array Value} {ds gs : List (DataW H)} {before : List MemPlace} {tb : TypeId}
    (hres : fn.resultTypes = #[tb]) (hb : P.underlying tb = some .bool) (hl : laidOutB P = true) (hr : (fn.params.toList.all fun t => P.readableRec t && decide (t < P.types.size)) = true)
    (hW : DataW.Whole enc P fn.params.toList s.vars false W args.toList ds gs before) (hv : s.vars = []) (hs : s.fn H (ds ++ gs) = { results := [.lit (.bool true)], args := ds })
    (hc : FnC P f args (GW.all W) (Ty.bool true)) : Calls P f args W fun e W' => ∃ v, e = .returned v ∧ s.post enc P fn false true false false W args v W' := by
  refine Calls.mono hc ?_
  rintro e W' ⟨v, τ, rfl, hstp, rfl, hvv⟩
  have hbel : Below W.heap.size W τ.w := ⟨hstp.os, hstp.tape, hstp.output, hstp.size, fun k hk => hstp.blk k hk (.inl rfl)⟩
  have hW' := hW
  obtain ⟨p, q, hA, hV, rfl, _, _⟩ := hW
  have hq : q = [] := by
    rw [hv] at hV
    cases gs with
    | nil => exact hV
    | cons _ _ => exact hV.elim
  subst hq
  have hgs : gs = [] := by
    rw [hv] at hV
    cases gs with
    | nil => rfl
    | cons _ _ => exact hV.elim
  subst hgs
  have hvv' : v = .bool true := hvv
  subst hvv'
  refine ⟨_, rfl, ds, [], _, [], p, [], hW', ?_, ?_, ?_, hbel.frame _, fun h => by cases h⟩
  · rw [hs, hres]
    exact trodAll_mk1 (shut_bool hb true)
  · rw [hs]
    exact trodAll_stays hl hbel hA hr (fun x hx => hW'.lt x (List.mem_append.2 (.inl hx)))
  · rw [hs, hv]; rfl

theorem arg_one {H : Type} {enc : TypeId × Value → H} {B : DataW H → Nat} {BA : List (DataW H) → Nat} (hB : Bulk B BA) {W : World} {t : TypeId} {v : Value} {d : DataW H} {ps : List MemPlace} {α : Type} {T : α → Ty} {wf : α → Prop} {sz : α → Nat} {rc : α → Prop}
    (h : Rd P t (fun x => [T x]) wf sz rc) (hone : v.cells = #[v]) (ht : DataW.Trod enc P W 0 (fun _ => true) true t v d ps) : ∃ x : α, wf x ∧ sz x ≤ B d ∧ ((d.weights P t).all (· ≤ reachBytes) = true → rc x) ∧ (T x).has (GW.all W) v := by
  obtain ⟨fuel, hf⟩ := ht
  rw [hone] at hf
  obtain ⟨x, h1, h2, h3, _, h5⟩ := h H enc B BA hB W fuel _ d ps hf
  exact ⟨x, h1, h2, h3, h5 0 _ _ rfl rfl⟩
theorem one_string {w : World} {r : Reach} {base : Nat} {t : TypeId} {v : Value} (ht : P.underlying t = some .string) (h : Value.okWide P w r base t v) : v.cells = #[v] := by
  obtain ⟨s, rfl⟩ := okWide_string ht h; rfl
theorem one_int {k : IntKind} {w : World} {r : Reach} {base : Nat} {t : TypeId} {v : Value} (ht : P.underlying t = some (.int k)) (h : Value.okWide P w r base t v) : v.cells = #[v] := by
  obtain ⟨s, rfl⟩ := okWide_int ht h; rfl
theorem weightsEach_cons {H : Type} {t : TypeId} {ts : List TypeId} {d : DataW H} {ds : List (DataW H)} (h : (DataW.weightsEach P (t :: ts) (d :: ds)).all (· ≤ reachBytes) = true) : (d.weights P t).all (· ≤ reachBytes) = true ∧ (DataW.weightsEach P ts ds).all (· ≤ reachBytes) = true := by
  simpa [DataW.weightsEach, List.all_append] using h
theorem i64_bd {n : Int} (h : (Lit.int .i64 n).wf = true) : -9223372036854775808 ≤ n ∧ n ≤ 9223372036854775807 := by
  simp [Lit.wf, IntKind.min, IntKind.max, IntKind.signed, IntKind.bits] at h
  omega
end Go.KL

/- A listed global, as a row's cell says: it is there. -/
namespace Go.KL
open Go.RowKit
variable {P : Program}
theorem glb_laid {laid : List (String × DataW Unit)} {n nm : String} {text : List UInt8} {W : World} {g : Nat} {ti tp te ts : TypeId} {ms : Array (String × TypeId)} {f : Field}
    (h : laidMetH P laid W) (hl : (laid.filter fun x => x.2.handleName?.isNone).filter (fun x => x.1 == n) = [(n, .iface nm (.ptr (.agg [.lit (.string text)])))])
    (hg : P.globalNamed n = some g) (ht : (P.globals[g]?).map (·.type) = some ti) (hi : P.underlying ti = some (.interface ms)) (hrow : ∀ u, P.typeName? 3 u = some nm → u = tp)
    (hp : P.underlying tp = some (.pointer te)) (he : P.underlying te = some (.struct #[f])) (hft : f.type = ts) (hfo : f.offset = 0) (hs : P.underlying ts = some .string) (hc : P.cellsOf te = 1) (hcs : P.cellsOf ts = 1) :
    Glb g (GW.all W) := by
  have h1 := (laidMetH_iff.1 h).1.filter (fun x => x.1 == n)
  rw [hl] at h1
  obtain ⟨a, s, hv, _⟩ := laid_sentinel h1 hg ht hi hrow hp he hft hfo hs hc hcs
  have hcell : W.cell? ⟨g, 0, none⟩ = some (.iface tp (.pointer (some a))) := by simpa using World.var?_cell hg hv 0
  have hlt : g < W.heap.size := by
    unfold World.cell? at hcell
    by_cases hx : g < W.heap.size
    · exact hx
    · rw [Array.getElem?_eq_none (show W.heap.size ≤ g by omega)] at hcell
      cases hcell
  exact ⟨by simp [GW.all, hlt], _, hcell, .inr ⟨_, _, rfl⟩⟩
theorem laidH_all {os : Os} {laid : List (String × DataW Unit)} (args : Array Value) (hn : (laid.all fun x => x.2.handleName?.isNone) = true)
    (hf : (World.holding P os ⟨#[], #[], []⟩).layFits P laid [] = true) (hi : (World.holding P os ⟨#[], #[], []⟩).layIfaces P laid (World.laidAll P os laid) = true) :
    laidMetH P laid ((World.laidAll P os laid).forCall (fun _ _ => 0) ⟨#[], args, []⟩).memory := by
  rw [MakeChecks.laidMetH_plain _ _ _ hn]; exact laidMet_laidAll _ hf hi
theorem witness_row_sh {H : Type} {enc : TypeId × Value → H} {C : Checked} {os : Os} {f : FuncId} {fn : Func} {s : OpenSpec} {conds : List PathCond} {apart : Bool} {laid : List (String × DataW Unit)} (w0 : World) (args : Array Value) (hos : w0.os = os)
    (hsh : (w0.forCall (fun _ _ => 0) ⟨#[], args, []⟩).Shaped C.prog)
    (hok : Input.okWideB C.prog (w0.forCall (fun _ _ => 0) ⟨#[], args, []⟩) f ⟨#[], args, []⟩ = true)
    (hrow : s.preRow enc C.prog fn conds apart laid (w0.forCall (fun _ _ => 0) ⟨#[], args, []⟩).memory args) :
    ∃ (w : World) (tape : Tape) (i : Input), w.os = os ∧ (w.forCall tape i).Shaped C.prog ∧ i.vars = [] ∧ Input.okWide C.prog (w.forCall tape i) .any w.heap.size f i ∧
      s.preRow enc C.prog fn conds apart laid (w.forCall tape i).memory i.args ∧ ({} : Assume).holds C.prog (lone (Frame.enter C.prog f i.args .normal) [] (w.forCall tape i)) :=
  ⟨w0, fun _ _ => 0, ⟨#[], args, []⟩, hos, hsh, (Input.okWide_of_okWideB (base := 0) hok).1, (Input.okWide_of_okWideB hok).2, hrow, by
    simp only [Assume.holds]
    exact ⟨by simp, by simp, fun _ => Modest.zero, by simp, by simp⟩⟩
end Go.KL

/- Rows that share an array: 'append' leaves alone what is ahead. -/
namespace Go.KL
open Go.RowKit
variable {P : Program}

variable {d : Option Tmp} {ty : TypeId} {pos : String} {af : Array Edge} {g : Option (Nat × Bool)} {a : Act} {σ : GW}

end Go.KL

/- 'append' to a fresh empty row, in any order with what stands beside it. -/
namespace Go.KL
open Go.RowKit
variable {P : Program}

variable {d : Option Tmp} {ty : TypeId} {pos : String} {af : Array Edge} {g : Option (Nat × Bool)} {a : Act} {σ : GW}
end Go.KL

/- Functions that defer one call of a closure over two variables. -/
namespace Go.KL
open Go.RowKit
variable {P : Program}
def dfr (f : FuncId) (p q : Value) : Deferred := { target := .fn (.func f) #[p, q], args := #[] }
theorem fn_introD {f : FuncId} {fn : Func} {c : Code} {N : Nat} {args : Array Value} {σ : GW} {R : Ty} (hf : P.funcs[f]? = some fn) (hb : fn.body = some c) (hn : fn.ntmps = N) (ha : args.size ≤ N)
    (h : ∀ σ0 a, σ.Le σ0 → FromL [] σ0 σ0 → Ok N [] a → (∀ i v, args.toList[i]? = some v → a.eval (.tmp i) = v) → c.wp P (bodyPostD P fn (RetL σ0 [] (fun v τ => R.has τ v))) a σ0.w) : FnC P f args σ R := by
  refine FnL.toC (Calls.mono (calls_of_wp_defers hf hb (h σ.hush _ σ.le_hush ⟨StpL.refl _ _, Low.hush σ⟩ ⟨by simp; omega, rfl⟩ fun i v hi => ?_)) ?_)
  · have hi' : args[i]? = some v := by simpa using hi
    have hlt : i < args.size := (Array.getElem?_eq_some_iff.1 hi').1
    simp [Act.eval, Array.getD_eq_getD_getElem?, Array.getElem?_append, hlt]
    simpa [hlt] using hi'
  · rintro e w' ⟨v, τ, rfl, hF, rfl, hv⟩
    exact ⟨v, τ, rfl, hF.stp, rfl, hv⟩
theorem run_cell1 {σ : GW} {a : Act} {t k : Nat} {T : TypeId} {dd : TypeDesc} {U : Ty} {v : Value} (hT : P.underlying T = some dd) (hd : dd.isRow = false) (e : a.eval (.tmp t) = v) (h : OwnP σ k v [U]) :
    ∃ ad u, a.tmps.getD t undef = .pointer (some ad) ∧ (loadVar T ad).run P σ.w = .ok u σ.w ∧ U.has σ u := by
  obtain ⟨gg, e', cur, e1, h2, h3, h4, h5⟩ := h
  have hlt : 0 < cur.size := by rw [h4]; exact Nat.one_pos
  refine ⟨⟨gg, 0, none⟩, cur[0], by rw [← e1, ← e]; rfl, ?_, h5 0 U _ rfl (by simp [hlt])⟩
  have hagg : (isAgg T).run P σ.w = .ok false σ.w := by
    unfold isAgg
    rw [Sem.run_bind, run_underlying hT σ.w]
    cases dd <;> simp_all
  have hc : σ.w.cell? ⟨gg, 0, none⟩ = some cur[0] := by simp [World.cell?, h3, hlt]
  simp [loadVar, Sem.run_bind, hagg, load, Sem.run, hc]
section
variable {fn : Func} {σ0 σ : GW} {a : Act} {N t u k l : Nat} {f : FuncId} {L : List Nat} {R : Value → GW → Prop} {T1 T2 : TypeId} {d1 d2 : TypeDesc} {U1 U2 : Ty} {p q : Value}
structure Res2 (P : Program) (fn : Func) (t u : Nat) (T1 T2 : TypeId) : Prop where
  res : fn.results = #[.cell t T1, .cell u T2]
  u1 : ∃ d, P.underlying T1 = some d ∧ d.isRow = false
  u2 : ∃ d, P.underlying T2 = some d ∧ d.isRow = false
theorem res2_run (hr : Res2 P fn t u T1 T2) (h1 : OwnP σ k p [U1]) (h2 : OwnP σ l q [U2]) (e1 : a.eval (.tmp t) = p) (e2 : a.eval (.tmp u) = q) :
    ∃ x y, (results fn a.tmps).run P σ.w = .ok (.tuple #[x, y]) σ.w ∧ U1.has σ x ∧ U2.has σ y := by
  obtain ⟨d1, hd1, hd1'⟩ := hr.u1
  obtain ⟨d2, hd2, hd2'⟩ := hr.u2
  obtain ⟨ad1, x, e3, l1, x1⟩ := run_cell1 hd1 hd1' e1 h1
  obtain ⟨ad2, y, e4, l2, x2⟩ := run_cell1 hd2 hd2' e2 h2
  refine ⟨x, y, ?_, x1, x2⟩
  have e5 : a.tmps[t]?.getD undef = .pointer (some ad1) := by rw [← e3, Array.getD_eq_getD_getElem?]
  have e6 : a.tmps[u]?.getD undef = .pointer (some ad2) := by rw [← e4, Array.getD_eq_getD_getElem?]
  simp [results, hr.res, e5, e6, asAddr, l1, l2]
theorem retD0 (hr : Res2 P fn t u T1 T2) (ok : Ok N [] a) (hF : FromL L σ0 σ) (h1 : OwnP σ k p [U1]) (h2 : OwnP σ l q [U2]) (e1 : a.eval (.tmp t) = p) (e2 : a.eval (.tmp u) = q)
    (hR : ∀ x y, U1.has σ x → U2.has σ y → R (.tuple #[x, y]) σ) : bodyPostD P fn (RetL σ0 L R) .ret a σ.w := by
  obtain ⟨x, y, h3, x1, x2⟩ := res2_run hr h1 h2 e1 e2
  show Leaves P fn a.tmps _ a.defers .returning σ.w
  rw [ok.defers]
  exact ⟨_, h3, _, σ, rfl, hF, rfl, hR _ _ x1 x2⟩
structure Catch (P : Program) (f : FuncId) (T : TypeId) : Prop where
  run : ∀ (p q : Value) (w : World), (invoke (.fn (.func f) #[p, q]) #[]).run P w = .ok (.enter f #[p, q]) w
  idle : ∀ (p q : Addr) (w : World), CallsD P f #[.pointer (some p), .pointer (some q)] .returning w fun e u' w' => e = .returned (.tuple #[]) ∧ u' = .returning ∧ w' = w
  hit : ∀ (p q : Value) (k l : Nat) (U1 U2 : Ty) (e : Int) (σ : GW), 2 ≤ k → 2 ≤ l → k ≠ l → OwnP σ k p [U1] → OwnP σ l q [U2] →
    CallsD P f #[p, q] (.panicking (fltC T e)) σ.w fun x u' w' => x = .returned (.tuple #[]) ∧ u' = .panicking [{ v := .iface T (.int .i64 e), recovered := true }] ∧ ∃ τ : GW, τ.w = w' ∧ StpL [k, l] σ τ ∧ OwnP τ k p [Ty.val (.slice none 0 0)] ∧ OwnP τ l q [Ty.int e]
theorem retD (hr : Res2 P fn t u T1 T2) {T : TypeId} (hI : Catch P f T) (ok : Ok N [dfr f p q] a) (hF : FromL L σ0 σ) (h1 : OwnP σ k p [U1]) (h2 : OwnP σ l q [U2]) (e1 : a.eval (.tmp t) = p) (e2 : a.eval (.tmp u) = q)
    (hR : ∀ x y, U1.has σ x → U2.has σ y → R (.tuple #[x, y]) σ) : bodyPostD P fn (RetL σ0 L R) .ret a σ.w := by
  obtain ⟨x, y, h3, x1, x2⟩ := res2_run hr h1 h2 e1 e2
  obtain ⟨g1, _, _, rfl, _⟩ := h1
  obtain ⟨g2, _, _, rfl, _⟩ := h2
  show Leaves P fn a.tmps _ a.defers .returning σ.w
  rw [ok.defers]
  refine leaves_cons (f := f) (by simp) (hI.run _ _ _) ?_
  refine (hI.idle ⟨g1, 0, none⟩ ⟨g2, 0, none⟩ _).mono ?_
  rintro e u' w'' ⟨rfl, rfl, rfl⟩
  exact ⟨_, h3, _, σ, rfl, hF, rfl, hR _ _ x1 x2⟩
theorem panD {T : TypeId} {e : Int} {c : List PanicEntry} (hr : Res2 P fn t u T1 T2) (hH : Catch P f T) (hk : 2 ≤ k) (hl : 2 ≤ l) (hkl : k ≠ l) (ok : Ok N [dfr f p q] a) (hF : FromL L σ0 σ) (h1 : OwnP σ k p [U1]) (h2 : OwnP σ l q [U2]) (e1 : a.eval (.tmp t) = p) (e2 : a.eval (.tmp u) = q)
    (he : c = fltC T e ∧ e ≠ 0) (hR : e ≠ 0 → ∀ τ, R (.tuple #[.slice none 0 0, .int .i64 e]) τ) : bodyPostD P fn (RetL σ0 L R) (.panic c) a σ.w := by
  show Leaves P fn a.tmps _ a.defers (.panicking c) σ.w
  rw [ok.defers, he.1]
  refine leaves_cons (f := f) (by simp) (hH.run _ _ _) ?_
  refine (hH.hit p q k l U1 U2 e σ hk hl hkl h1 h2).mono ?_
  rintro x u' w'' ⟨rfl, rfl, τ, rfl, hs, g1, g2⟩
  obtain ⟨x, y, h3, rfl, rfl⟩ := res2_run hr g1 g2 e1 e2
  exact ⟨_, h3, _, τ, rfl, hF.stepL hs (by rintro m hm; simp only [List.mem_cons, List.not_mem_nil, or_false] at hm; omega), rfl, hR he.2 _⟩
end
theorem wpS_op {ops : Array Oper} {Q : Exit → Act → List Frame → World → Prop} {o : Oper} {i : Nat} {rest : List Nat} {a : Act} {cs : List Frame} {w : World} (ho : ops[i]? = some o) (hg : o.guard = none)
    (h : o.wp P a w (fun a' w' => wpOpsS P ops Q rest a' cs w') (fun e a' w' => Q e a' cs w')) : wpOpsS P ops Q (i :: rest) a cs w := by
  simp only [wpOpsS, ho]
  rw [if_pos (by simp [Region.wanted, hg])]
  unfold Oper.wp at h
  split
  · rename_i hr
    rw [hr] at h
    exact h.elim
  · exact h
section
variable {d : Option Tmp} {ty : TypeId} {pos : String} {af : Array Edge} {g : Option (Nat × Bool)} {a : Act} {σ : GW}
theorem y_clo2 {f : FuncId} {x y : Operand} {p q : Value} (hx : a.eval x = p) (hy : a.eval y = q) : Yld P ⟨d, .makeFunc (.func f) #[] #[x, y], ty, pos, af, g⟩ a σ (Ty.val (.func (.func f) #[] #[p, q])).pr := by
  refine Yld.of_run (v := .func (.func f) #[] #[p, q]) ?_ rfl
  simp only [execOp]
  simp [Instr.makeFunc, Sem.run, hx, hy]
theorem tailDefer {N : Nat} {D : List Deferred} {ops : Array Oper} {Q : Exit → Act → World → Prop} {rest : List Oper} {x : Operand} {f : FuncId} {p q : Value} {tys : Array TypeId} (ok : Ok N D a) (hx : a.eval x = .func (.func f) #[] #[p, q])
    (k : ∀ a', Ok N (dfr f p q :: D) a' → (∀ t, a'.eval (.tmp t) = a.eval (.tmp t)) → wpList P ops Q rest a' σ.w) : wpList P ops Q (⟨none, .defer ⟨.value x, #[], tys⟩, ty, pos, af, none⟩ :: rest) a σ.w := by
  refine wpList_plain rfl fun K hK => ?_
  have hr : (execOp a.eval ⟨none, .defer ⟨.value x, #[], tys⟩, ty, pos, af, none⟩).run P σ.w = .ok (.defer (dfr f p q)) σ.w := by
    simp only [execOp, resolve]
    simp [hx, Deferred.ofValue, dfr, Sem.run, Sem.run_bind]
  unfold Oper.wp
  rw [hr]
  exact hK _ _ (k { a with defers := dfr f p q :: a.defers } ⟨ok.size, by show _ :: a.defers = _; rw [ok.defers]⟩ fun t => rfl)
end
end Go.KL

/- Arguments that are structs, and slices of these: how a row reads them. -/
namespace Go.KL
open Go.ChangeShapes Go.WideShapes Go.ChangeAt Go.RowKit Go.Deep
variable {P : Program}
theorem take_one {α : Type} {cs : List α} {o : Nat} (h : o < cs.length) : (cs.drop o).take 1 = [cs[o]] := by
  rw [List.drop_eq_getElem_cons h, List.take_succ_cons, List.take_zero]
theorem rd_s3 {t : TypeId} {f0 f1 f2 : Field} {α β γ : Type} {T : α → Ty} {U : β → Ty} {V : γ → Ty} {wf0 : α → Prop} {wf1 : β → Prop} {wf2 : γ → Prop} {sz0 : α → Nat} {sz1 : β → Nat} {sz2 : γ → Nat} {rc0 : α → Prop} {rc1 : β → Prop} {rc2 : γ → Prop}
    (ht : P.underlying t = some (.struct #[f0, f1, f2])) (hc : P.cellsOf t = 3)
    (e0 : f0.offset = 0) (e1 : f1.offset = 1) (e2 : f2.offset = 2) (k0 : P.cellsOf f0.type = 1) (k1 : P.cellsOf f1.type = 1) (k2 : P.cellsOf f2.type = 1) (h0 : Rd P f0.type (fun x => [T x]) wf0 sz0 rc0) (h1 : Rd P f1.type (fun x => [U x]) wf1 sz1 rc1) (h2 : Rd P f2.type (fun x => [V x]) wf2 sz2 rc2) :
    Rd P t (fun x : α × β × γ => [T x.1, U x.2.1, V x.2.2]) (fun x => wf0 x.1 ∧ wf1 x.2.1 ∧ wf2 x.2.2) (fun x => sz0 x.1 + sz1 x.2.1 + sz2 x.2.2 + 1) (fun x => rc0 x.1 ∧ rc1 x.2.1 ∧ rc2 x.2.2) := by
  intro H enc B BA hB W fuel cs d ps h
  obtain ⟨y0, y1, y2, n, e, hl, g0, g1, g2⟩ := trod_struct3 ht h
  obtain ⟨rfl, rfl⟩ := Prod.mk.inj e
  rw [hc] at hl
  rw [e0, k0, take_one (by omega)] at g0
  rw [e1, k1, take_one (by omega)] at g1
  rw [e2, k2, take_one (by omega)] at g2
  obtain ⟨x, a1, a2, a3, a4, a5⟩ := h0 H enc B BA hB W n _ _ _ g0
  obtain ⟨y, b1, b2, b3, b4, b5⟩ := h1 H enc B BA hB W n _ _ _ g1
  obtain ⟨z, c1, c2, c3, c4, c5⟩ := h2 H enc B BA hB W n _ _ _ g2
  refine ⟨(x, y, z), ⟨a1, b1, c1⟩, ?_, fun hw => ?_, by rw [hl]; rfl, fun j S u hj hu => ?_⟩
  · rw [hB.agg, hB.cons, hB.cons, hB.cons, hB.nil]; show sz0 x + sz1 y + sz2 z + 1 ≤ _; omega
  · simp only [DataW.weights, ht, List.map_cons, List.map_nil, DataW.weightsEach, List.append_nil, List.all_append, Bool.and_eq_true] at hw
    exact ⟨a3 hw.1, b3 hw.2.1, c3 hw.2.2⟩
  · match j with
    | 0 => simp at hj; subst hj; exact a5 0 _ u rfl (by rw [List.getElem?_eq_getElem (by omega)] at hu; exact hu)
    | 1 => simp at hj; subst hj; exact b5 0 _ u rfl (by rw [List.getElem?_eq_getElem (by omega)] at hu; exact hu)
    | 2 => simp at hj; subst hj; exact c5 0 _ u rfl (by rw [List.getElem?_eq_getElem (by omega)] at hu; exact hu)
    | j + 3 => simp at hj
theorem arg_agg {H : Type} {enc : TypeId × Value → H} {B : DataW H → Nat} {BA : List (DataW H) → Nat} (hB : Bulk B BA) {W : World} {t : TypeId} {v : Value} {d : DataW H} {ps : List MemPlace} {α : Type} {cells : α → List Ty} {wf : α → Prop} {sz : α → Nat} {rc : α → Prop}
    (h : Rd P t cells wf sz rc) {fs : Array Field} {w : World} {r : Reach} {base : Nat} (hu : P.underlying t = some (.struct fs)) (hok : Value.okWide P w r base t v) (ht : DataW.Trod enc P W 0 (fun _ => true) true t v d ps) :
    ∃ x : α, wf x ∧ sz x ≤ B d ∧ ((d.weights P t).all (· ≤ reachBytes) = true → rc x) ∧ (Ty.agg (cells x)).has (GW.all W) v := by
  unfold Value.okWide at hok
  rw [hu] at hok
  obtain ⟨cs, rfl, _, _⟩ := hok
  obtain ⟨fuel, hf⟩ := ht
  obtain ⟨x, h1, h2, h3, h4, h5⟩ := h H enc B BA hB W fuel _ d ps hf
  refine ⟨x, h1, h2, h3, cs, rfl, by have h6 : cs.toList.length = (cells x).length := h4; simpa using h6, fun j T u hj hu2 => h5 j T u hj (by show cs.toList[j]? = some u; simpa using hu2)⟩
end Go.KL

