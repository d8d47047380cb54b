/- Colourings counted by kinds. -/
import Derived.Test.YtkjifbgofckfeaaGreatColourMadeK3
import Derived.Test.YtkjifbgofckfeaaGreatColourMadeK2
import Derived.Test.YtkjifbgofckfeaaGreatColourMadeK1
namespace Go.KL
open Go.RowKit
def vsum (v : List Int) : Nat → Nat
  | 0 => 0
  | k + 1 => vsum v k + (v.getD k 0).toNat
section
variable {n i j k C q len c : Nat} {E R G : List (List Int)} {K : List Knd} {v r m : List Int}
theorem parts_len : ∀ k, (partsL v k).length = vsum v k
  | 0 => rfl
  | k + 1 => by rw [partsL, vsum, List.length_append, List.length_replicate, parts_len k]; omega
theorem vsum_lens (hr : IsRow r) : vsum (lensL r) r.length = (cyclesL r).length := by
  rw [← parts_len, (parts_perm hr).length_eq, List.length_map]
theorem cyc_few : (cyclesL r).length ≤ r.length := cyclesTo_len r r.length
theorem vsum_mono : ∀ {a b : Nat}, a ≤ b → vsum v a ≤ vsum v b
  | a, 0, h => by rw [show a = 0 by omega]; exact Nat.le_refl _
  | a, b + 1, h => by
    by_cases e : a = b + 1
    · rw [e]; exact Nat.le_refl _
    · exact Nat.le_trans (vsum_mono (show a ≤ b by omega)) (by rw [vsum]; omega)
/-! ### What is known of kinds -/
structure KndB (n : Nat) (K : List Knd) : Prop where
  many : ∀ p ∈ K, 0 ≤ p.2 ∧ p.2 ≤ 5040
  len : ∀ p ∈ K, p.1.length = n
  v : ∀ p ∈ K, ∀ j, 0 ≤ p.1.getD j 0 ∧ p.1.getD j 0 ≤ 12
  sum : ∀ p ∈ K, vsum p.1 n ≤ 12
  all : (K.map fun p => p.2.toNat).sum ≤ 5040
theorem KindP.total (h : KindP (E.map lensL) K) : (K.map fun p => p.2.toNat).sum = E.length := by
  have := h.sum fun _ => 1
  simp only [Nat.mul_one] at this
  rw [this, sum_cst, List.length_map, Nat.mul_one]
theorem KindP.bds (h : KindP (E.map lensL) K) (hn : 1 ≤ n ∧ n ≤ 12) (hE : ∀ r ∈ E, RowN n r) (hl : E.length ≤ 5040) : KndB n K := by
  have key : ∀ p ∈ K, ∃ r, RowN n r ∧ p.1 = lensL r := fun p hp => by
    obtain ⟨r, hr, e⟩ := List.mem_map.1 ((h.all _).2 ⟨p, hp, rfl⟩)
    exact ⟨r, hE r hr, e.symm⟩
  refine ⟨fun p hp => ?_, fun p hp => ?_, fun p hp j => ?_, fun p hp => ?_, by rw [h.total]; exact hl⟩
  · have := h.bd p hp
    rw [List.length_map] at this
    omega
  · obtain ⟨r, hr, e⟩ := key p hp
    rw [e, lensL_len, hr.len]
  · obtain ⟨r, hr, e⟩ := key p hp
    have h1 := lensT_bd (r := r) (k := (cyclesL r).length) (j := j)
    have h2 := cyc_few (r := r)
    have h3 := hr.len
    rw [e]
    unfold lensL
    omega
  · obtain ⟨r, hr, e⟩ := key p hp
    have h1 := vsum_lens hr.row
    rw [hr.len] at h1
    have h2 := cyc_few (r := r)
    have h3 := hr.len
    rw [e, h1]; omega
/-! ### Counted -/
def pwK (C n : Nat) (p : Knd) : Nat := p.2.toNat * C ^ vsum p.1 n
def kSz (K : List Knd) (j : Nat) : Nat := ((K.take j).map fun p => p.2.toNat).sum
def kQuo (C n s : Nat) (K : List Knd) (j : Nat) : Nat := ((K.take j).map fun p => pwK C n p / s).sum
def kRem (C n s : Nat) (K : List Knd) (j : Nat) : Nat := ((K.take j).map fun p => pwK C n p % s).sum
theorem take_sum {f : Knd → Nat} (hj : j < K.length) : ((K.take (j + 1)).map f).sum = ((K.take j).map f).sum + f (K.getD j ([], 0)) := by
  rw [take_snoc K ([], 0) j hj, List.map_append, List.sum_append]; simp
theorem take_sum_le {f : Knd → Nat} : ((K.take j).map f).sum ≤ (K.map f).sum := by
  conv => rhs; rw [← List.take_append_drop j K]
  rw [List.map_append, List.sum_append]; omega
theorem kSz_succ (hj : j < K.length) : kSz K (j + 1) = kSz K j + (K.getD j ([], 0)).2.toNat := take_sum hj
theorem kQuo_succ {s : Nat} (hj : j < K.length) : kQuo C n s K (j + 1) = kQuo C n s K j + pwK C n (K.getD j ([], 0)) / s := take_sum hj
theorem kRem_succ {s : Nat} (hj : j < K.length) : kRem C n s K (j + 1) = kRem C n s K j + pwK C n (K.getD j ([], 0)) % s := take_sum hj
theorem pow_bd {e : Nat} (hC : C ≤ 8) (he : e ≤ 12) : C ^ e ≤ 68719476736 := by
  have h1 : C ^ e ≤ 8 ^ e := Nat.pow_le_pow_left hC e
  have h2 : 8 ^ e ≤ 8 ^ 12 := Nat.pow_le_pow_right (by omega) he
  have h3 : (8 : Nat) ^ 12 = 68719476736 := by decide
  omega
theorem mul_bd {a b A B : Nat} (h1 : a ≤ A) (h2 : b ≤ B) : a * b ≤ A * B := Nat.mul_le_mul h1 h2
theorem sum_mono {α : Type} {f g : α → Nat} : ∀ {l : List α}, (∀ x ∈ l, f x ≤ g x) → (l.map f).sum ≤ (l.map g).sum
  | [], _ => Nat.le_refl _
  | a :: l, h => by
    rw [List.map_cons, List.map_cons, List.sum_cons, List.sum_cons]
    exact Nat.add_le_add (h a (by simp)) (sum_mono fun x hx => h x (by simp [hx]))
theorem sum_mulr {α : Type} (f : α → Nat) (c : Nat) : ∀ l : List α, (l.map fun x => f x * c).sum = (l.map f).sum * c
  | [] => by simp
  | a :: l => by rw [List.map_cons, List.map_cons, List.sum_cons, List.sum_cons, sum_mulr f c l, Nat.add_mul]
theorem KndB.pw (h : KndB n K) (hC : C ≤ 8) : (K.map fun p => pwK C n p).sum ≤ 346346162749440 := by
  have h1 : (K.map fun p => pwK C n p).sum ≤ (K.map fun p => p.2.toNat * 68719476736).sum := sum_mono fun p hp => Nat.mul_le_mul_left _ (pow_bd hC (h.sum p hp))
  rw [sum_mulr] at h1
  have := h.all
  omega
theorem kQuo_bd {s : Nat} (h : KndB n K) (hC : C ≤ 8) : kQuo C n s K j ≤ 346346162749440 := by
  have h1 : kQuo C n s K j ≤ (K.map fun p => pwK C n p / s).sum := take_sum_le
  have h2 : (K.map fun p => pwK C n p / s).sum ≤ (K.map fun p => pwK C n p).sum := sum_mono fun p _ => Nat.div_le_self _ _
  have := h.pw hC
  omega
theorem kRem_bd {s : Nat} (h : KndB n K) (hC : C ≤ 8) : kRem C n s K j ≤ 346346162749440 := by
  have h1 : kRem C n s K j ≤ (K.map fun p => pwK C n p % s).sum := take_sum_le
  have h2 : (K.map fun p => pwK C n p % s).sum ≤ (K.map fun p => pwK C n p).sum := sum_mono fun p _ => Nat.mod_le _ _
  have := h.pw hC
  omega
theorem kSz_bd (h : KndB n K) : kSz K j ≤ 5040 := Nat.le_trans take_sum_le h.all
theorem sum_div_mod {α : Type} (f : α → Nat) {s : Nat} (hs : 0 < s) (l : List α) : (l.map fun x => f x / s).sum + (l.map fun x => f x % s).sum / s = (l.map f).sum / s := by
  have key : ∀ l : List α, (l.map f).sum = s * (l.map fun x => f x / s).sum + (l.map fun x => f x % s).sum := by
    intro l
    induction l with
    | nil => rfl
    | cons a l ih =>
      simp only [List.map_cons, List.sum_cons]
      have := Nat.div_add_mod (f a) s
      rw [ih, Nat.mul_add]
      omega
  rw [key l, Nat.mul_add_div hs]
def cntE (E : List (List Int)) (C : Nat) : Nat := (E.map fun r => C ^ (cyclesL r).length).sum / E.length
theorem cnt_kinds (h : KindP (E.map lensL) K) (hE : ∀ r ∈ E, RowN n r) (hne : 0 < E.length) : kQuo C n E.length K K.length + kRem C n E.length K K.length / E.length = cntE E C := by
  unfold kQuo kRem cntE
  rw [List.take_length, sum_div_mod (pwK C n) hne]
  have h1 := h.sum fun v => C ^ vsum v n
  have h2 : (K.map (pwK C n)).sum = (K.map fun p => p.2.toNat * C ^ vsum p.1 n).sum := rfl
  rw [h2, h1, List.map_map]
  congr 1
  refine sum_cong fun r hr => ?_
  show C ^ vsum (lensL r) n = _
  rw [← (hE r hr).len, vsum_lens (hE r hr).row]
theorem cntE_perm (hp : E.Perm R) : cntE E C = cntE R C := by
  unfold cntE
  rw [hp.length_eq, (hp.map _).sum_nat]
def cntT (R : List (List Int)) (C : Nat) (i : Nat) : Nat := ((R.take i).map fun r => C ^ (cyclesL r).length).sum
theorem cntT_succ (hi : i < R.length) : cntT R C (i + 1) = cntT R C i + C ^ (cyclesL (R.getD i [])).length := by
  unfold cntT
  rw [take_snoc R [] i hi, List.map_append, List.sum_append]; simp
theorem cntT_bd (hR : ∀ r ∈ R, RowN n r) (hn : n ≤ 12) (hC : C ≤ 8) (hl : R.length ≤ 5040) : cntT R C i ≤ 346346162749440 := by
  have h1 : cntT R C i ≤ ((R.take i).map fun _ => 68719476736).sum := sum_mono fun r hr => pow_bd hC (by
    have h2 := hR r (List.mem_of_mem_take hr)
    have h3 := h2.len
    have h4 := cyc_few (r := r)
    omega)
  rw [sum_cst] at h1
  have h2 : (R.take i).length ≤ 5040 := by rw [List.length_take]; omega
  have := Nat.mul_le_mul_right 68719476736 h2
  omega
theorem cntT_all : cntT R C R.length / R.length = cntE R C := by unfold cntT cntE; rw [List.take_length]
theorem elts_perm (h1 : E.Nodup) (h2 : R.Nodup) (h : ∀ x, x ∈ E ↔ x ∈ R) : E.Perm R := (List.perm_ext_iff_of_nodup h1 h2).2 h
/-! ### The longest first -/
structure FilP (v m : List Int) (len : Nat) : Prop where
  le : len ≤ v.length
  vl : v.length ≤ 12
  vb : ∀ j, 0 ≤ v.getD j 0 ∧ v.getD j 0 ≤ 12
  mb : ∀ c, 0 ≤ m.getD c 0 ∧ m.getD c 0 ≤ 12
  ml : m.length ≤ 8
  pl : (partsL v len).length ≤ 12
  sum : m.sum = ((partsL v len).sum : Int)
theorem FilP.skip (h : FilP v m (q + 1)) (h0 : v.getD q 0 = 0) : FilP v m q ∧ partsL v (q + 1) = partsL v q := by
  have e := parts_skip h0
  refine ⟨⟨by have := h.le; omega, h.vl, h.vb, h.mb, h.ml, by rw [← e]; exact h.pl, by rw [← e]; exact h.sum⟩, e⟩
theorem sum_zero_all : ∀ {m : List Int}, (∀ c, 0 ≤ m.getD c 0) → 0 ≤ m.sum ∧ (m.sum = 0 → ∀ x ∈ m, x = 0)
  | [], _ => ⟨by simp, fun _ x hx => by cases hx⟩
  | a :: m, h => by
    have ih := sum_zero_all (m := m) fun c => h (c + 1)
    have ha : 0 ≤ a := h 0
    rw [List.sum_cons]
    refine ⟨by omega, fun e x hx => ?_⟩
    rcases List.mem_cons.1 hx with rfl | hx
    · omega
    · exact ih.2 (by omega) x hx
theorem FilP.none (h : FilP v m 0) : wayN (partsL v 0) m = 1 := by
  have hs := h.sum
  have := (sum_zero_all fun c => (h.mb c).1).2 (by rw [hs]; rfl)
  show wayN [] m = 1
  rw [wayN, if_pos (List.all_eq_true.2 fun x hx => decide_eq_true (this x hx))]
theorem sum_set : ∀ {m : List Int} {c : Nat} {z : Int}, c < m.length → (m.set c z).sum = m.sum - m.getD c 0 + z
  | a :: m, 0, z, _ => by show (z :: m).sum = _; rw [List.sum_cons, List.sum_cons]; show _ = _ - a + z; omega
  | a :: m, c + 1, z, h => by
    show (a :: m.set c z).sum = _
    rw [List.sum_cons, List.sum_cons, sum_set (by simpa using h)]
    show _ = _ - m.getD c 0 + z
    omega
theorem FilP.sub (h : FilP v m (q + 1)) (h0 : v.getD q 0 ≠ 0) (hc : c < m.length) (hm : ((q + 1 : Nat) : Int) ≤ m.getD c 0) : FilP (v.set q (v.getD q 0 - 1)) (m.set c (m.getD c 0 - ((q + 1 : Nat) : Int))) (q + 1) ∧ (partsL (v.set q (v.getD q 0 - 1)) (q + 1)).length + 1 = (partsL v (q + 1)).length := by
  have hv := h.vb q
  have hle := h.le
  have e := parts_less (v := v) (k := q) (by omega) (by omega)
  have hpl := h.pl
  have hs := h.sum
  rw [e, List.length_cons] at hpl
  rw [e, List.sum_cons] at hs
  refine ⟨⟨by rw [List.length_set]; exact hle, by rw [List.length_set]; exact h.vl, fun j => ?_, fun d => ?_, by rw [List.length_set]; exact h.ml, by omega, ?_⟩, by rw [e, List.length_cons]⟩
  · by_cases ej : q = j
    · subst ej; rw [getD_seta (by omega)]; omega
    · rw [getD_setn ej]; exact h.vb j
  · have := h.mb c
    by_cases ej : c = d
    · subst ej; rw [getD_seta hc]; omega
    · rw [getD_setn ej]; exact h.mb d
  · rw [sum_set hc, hs, Int.natCast_add]; omega
theorem FilP.step (h : FilP v m (q + 1)) (h0 : v.getD q 0 ≠ 0) : wayN (partsL v (q + 1)) m = wayT (q + 1) (partsL (v.set q (v.getD q 0 - 1)) (q + 1)) m m.length := by
  have hv := h.vb q
  rw [parts_less (v := v) (k := q) (by have := h.le; omega) (by omega)]; rfl
theorem FilP.bd (h : FilP v m (q + 1)) (h0 : v.getD q 0 ≠ 0) (hc : c ≤ m.length) : wayT (q + 1) (partsL (v.set q (v.getD q 0 - 1)) (q + 1)) m c ≤ 68719476736 := by
  have hv := h.vb q
  have e := parts_less (v := v) (k := q) (by have := h.le; omega) (by omega)
  have hpl := h.pl
  rw [e, List.length_cons] at hpl
  exact Nat.le_trans (wayT_bd hc) (pow_bd h.ml hpl)
theorem FilP.wbd (h : FilP v m len) : wayN (partsL v len) m ≤ 68719476736 := Nat.le_trans (wayN_le _ _) (pow_bd h.ml h.pl)
theorem set_back {z : Int} (hc : c < m.length) : (m.set c z).set c (m.getD c 0) = m := by
  rw [List.set_set]
  refine List.ext_getElem (by simp) fun i h1 h2 => ?_
  rw [List.getElem_set]
  by_cases e : c = i
  · subst e; rw [if_pos rfl]; simp [hc]
  · rw [if_neg e]
theorem psum_lens (hr : IsRow r) : (partsL (lensL r) r.length).sum = r.length := by
  have h1 := (parts_perm hr).sum_nat
  rw [h1]
  have h2 := (cycles_perm hr).length_eq
  rw [List.length_flatten, roundsL_len] at h2
  exact h2
theorem fil_of (hr : RowN n r) (hm : ∀ c, 0 ≤ m.getD c 0 ∧ m.getD c 0 ≤ 12) (hml : m.length ≤ 8) (hs : m.sum = (n : Int)) : FilP (lensL r) m n where
  le := by rw [lensL_len, hr.len]; exact Nat.le_refl _
  vl := by rw [lensL_len]; exact hr.row.le
  vb j := by
    have h1 := lensT_bd (r := r) (k := (cyclesL r).length) (j := j)
    have h2 := cyc_few (r := r)
    have h3 := hr.row.le
    unfold lensL
    omega
  mb := hm
  ml := hml
  pl := by
    have h1 := vsum_lens hr.row
    rw [hr.len] at h1
    rw [parts_len, h1]
    have h2 := cyc_few (r := r)
    have h3 := hr.row.le
    omega
  sum := by
    have := psum_lens hr.row
    rw [hr.len] at this
    rw [hs, this]
/-! ### Of a distribution: by kinds -/
def kWay (n : Nat) (m : List Int) (K : List Knd) (j : Nat) : Nat := ((K.take j).map fun p => p.2.toNat * wayN (partsL p.1 n) m).sum
theorem kWay_succ (hj : j < K.length) : kWay n m K (j + 1) = kWay n m K j + (K.getD j ([], 0)).2.toNat * wayN (partsL (K.getD j ([], 0)).1 n) m := take_sum hj
theorem KindP.fil (h : KindP (E.map lensL) K) (hE : ∀ r ∈ E, RowN n r) (hm : ∀ c, 0 ≤ m.getD c 0 ∧ m.getD c 0 ≤ 12) (hml : m.length ≤ 8) (hs : m.sum = (n : Int)) : ∀ p ∈ K, FilP p.1 m n := fun p hp => by
  obtain ⟨r, hr, e⟩ := List.mem_map.1 ((h.all _).2 ⟨p, hp, rfl⟩)
  rw [← e]; exact fil_of (hE r hr) hm hml hs
theorem kWay_bd (h : KndB n K) (hf : ∀ p ∈ K, FilP p.1 m n) : kWay n m K j ≤ 346346162749440 := by
  have h1 : kWay n m K j ≤ (K.map fun p => p.2.toNat * wayN (partsL p.1 n) m).sum := take_sum_le
  have h2 : (K.map fun p => p.2.toNat * wayN (partsL p.1 n) m).sum ≤ (K.map fun p => p.2.toNat * 68719476736).sum := sum_mono fun p hp => Nat.mul_le_mul_left _ (hf p hp).wbd
  rw [sum_mulr] at h2
  have := h.all
  omega
theorem way_kinds (hn : 1 ≤ n ∧ n ≤ 12) (hG : ∀ x ∈ G, RowN n x) (hE : EltsOk n G E) (h : KindP (E.map lensL) K) : kWay n m K K.length / E.length = (((colsL n m.length).filter (dist m)).filter (fstP E)).length := by
  have hEr : ∀ r ∈ E, RowN n r := fun r hr => ((hE.mem r).1 hr).row hn hG
  have h1 : kWay n m K K.length = (E.map fun r => ((colsL n m.length).filter (dist m)).countP fun x => decide (byL x r = x)).sum := by
    unfold kWay
    rw [List.take_length, h.sum fun v => wayN (partsL v n) m, List.map_map]
    refine sum_cong fun r hr => ?_
    have hrr := hEr r hr
    show wayN (partsL (lensL r) n) m = _
    have h2 := fix_ways (m := m) hrr.row
    rw [hrr.len] at h2
    rw [h2]
    have h3 := parts_perm hrr.row
    rw [hrr.len] at h3
    exact wayN_perm h3 m
  have hpos : 0 < E.length := List.length_pos_of_mem ((hE.mem _).2 .one)
  rw [h1, burn hn hG hE (act_dist hn hG), Nat.mul_div_cancel _ hpos]
end
end Go.KL
namespace Go.KL
theorem fst_no {E : List (List Int)} {c : List Int} {i : Nat} (hi : i < E.length) (h : belowL (byL c (E.getD i [])) c = true) : fstP E c = false := by
  cases e : fstP E c with
  | false => rfl
  | true =>
    have := List.all_eq_true.1 e _ (mem_atD [] hi)
    rw [h] at this; cases this
theorem fst_all {E : List (List Int)} {c : List Int} (h : ∀ k, k < E.length → belowL (byL c (E.getD k [])) c = false) : fstP E c = true := List.all_eq_true.2 fun g hg => by
  obtain ⟨k, hk, rfl⟩ := List.getElem_of_mem hg
  have := h k hk
  rw [show E.getD k [] = E[k] by simp [hk]] at this
  rw [this]; rfl
theorem fst_put {E : List (List Int)} {c : List Int} {i : Nat} (h : ∀ k, k < i → belowL (byL c (E.getD k [])) c = false) (h2 : belowL (byL c (E.getD i [])) c = false) : ∀ k, k < i + 1 → belowL (byL c (E.getD k [])) c = false := fun k hk => by
  by_cases e : k = i
  · rw [e]; exact h2
  · exact h k (by omega)
end Go.KL
namespace Go.KL
section
variable {q c : Nat} {v m : List Int}
theorem FilP.skip2 (h : FilP v m q) (hq : 0 < q) (h0 : v.getD (q - 1) 0 = 0) : FilP v m (q - 1) ∧ partsL v q = partsL v (q - 1) := by
  obtain ⟨p, rfl⟩ : ∃ p, q = p + 1 := ⟨q - 1, by omega⟩
  exact FilP.skip h h0
theorem FilP.sub2 (h : FilP v m q) (hq : 0 < q) (h0 : v.getD (q - 1) 0 ≠ 0) (hc : c < m.length) (hm : (q : Int) ≤ m.getD c 0) : FilP (v.set (q - 1) (v.getD (q - 1) 0 - 1)) (m.set c (m.getD c 0 - (q : Int))) q ∧ (partsL (v.set (q - 1) (v.getD (q - 1) 0 - 1)) q).length + 1 = (partsL v q).length := by
  obtain ⟨p, rfl⟩ : ∃ p, q = p + 1 := ⟨q - 1, by omega⟩
  exact FilP.sub h h0 hc hm
theorem FilP.step2 (h : FilP v m q) (hq : 0 < q) (h0 : v.getD (q - 1) 0 ≠ 0) : wayN (partsL v q) m = wayT q (partsL (v.set (q - 1) (v.getD (q - 1) 0 - 1)) q) m m.length := by
  obtain ⟨p, rfl⟩ : ∃ p, q = p + 1 := ⟨q - 1, by omega⟩
  exact FilP.step h h0
theorem FilP.bd2 (h : FilP v m q) (hq : 0 < q) (h0 : v.getD (q - 1) 0 ≠ 0) (hc : c ≤ m.length) : wayT q (partsL (v.set (q - 1) (v.getD (q - 1) 0 - 1)) q) m c ≤ 68719476736 := by
  obtain ⟨p, rfl⟩ : ∃ p, q = p + 1 := ⟨q - 1, by omega⟩
  exact FilP.bd h h0 hc
theorem set_back2 {z : Int} (hc : c < m.length) : (m.set c (m.getD c 0 - z)).set c ((m.set c (m.getD c 0 - z)).getD c 0 + z) = m := by
  rw [getD_seta hc, Int.sub_add_cancel]; exact set_back hc
end
end Go.KL
namespace Go.KL
section
variable {n i : Nat} {m : List Int}
def alT (m : List Int) : Nat → Int
  | 0 => 0
  | i + 1 => wr64 (alT m i + m.getD i 0)
theorem wr64_id {z : Int} (h1 : -9223372036854775808 ≤ z) (h2 : z ≤ 9223372036854775807) : wr64 z = z := w64 h1 h2
theorem alT_sum (h : ∀ c, c < m.length → 0 ≤ m.getD c 0 ∧ m.getD c 0 ≤ 12) (hl : m.length ≤ 8) : ∀ i, i ≤ m.length → alT m i = (m.take i).sum ∧ 0 ≤ (m.take i).sum ∧ (m.take i).sum ≤ 12 * (i : Int)
  | 0, _ => by simp [alT]
  | i + 1, hi => by
    obtain ⟨h1, h2, h3⟩ := alT_sum h hl i (by omega)
    have hb := h i (by omega)
    rw [alT, h1, take_snoc m 0 i (by omega), List.sum_append, List.sum_cons, List.sum_nil, wr64_id (by omega) (by omega)]
    refine ⟨by omega, by omega, ?_⟩
    rw [Int.natCast_add]; omega
def manyOk (n : Int) (m : List Int) : Prop := m.length ≤ 8 ∧ ∀ c, c < m.length → 0 ≤ m.getD c 0 ∧ m.getD c 0 ≤ n
theorem manyOk.all (h : manyOk (n : Int) m) (hn : n ≤ 12) (hs : alT m m.length = (n : Int)) : (∀ c, 0 ≤ m.getD c 0 ∧ m.getD c 0 ≤ 12) ∧ m.length ≤ 8 ∧ m.sum = (n : Int) := by
  have hb : ∀ c, c < m.length → 0 ≤ m.getD c 0 ∧ m.getD c 0 ≤ 12 := fun c hc => by have := h.2 c hc; omega
  refine ⟨fun c => ?_, h.1, ?_⟩
  · by_cases hc : c < m.length
    · exact hb c hc
    · rw [List.getD_eq_getElem?_getD, List.getElem?_eq_none (by omega)]
      exact ⟨Int.le_refl _, by decide⟩
  · have := (alT_sum hb h.1 m.length (Nat.le_refl _)).1
    rw [hs, List.take_length] at this
    exact this.symm
theorem many_pos (hn : 1 ≤ n) (hs : m.sum = (n : Int)) : 1 ≤ m.length := by
  rcases Nat.eq_zero_or_pos m.length with h | h
  · rw [List.length_eq_zero_iff.1 h] at hs
    simp at hs; omega
  · exact h
end
end Go.KL
namespace Go.KL
section
variable {n C i k : Nat} {E : List (List Int)}
def pattT (n C : Nat) (E : List (List Int)) (k : Nat) : List (List Int) := ((List.range k).map (colAt n C)).filter (fstP E)
theorem pattT_len : (pattT n C E k).length ≤ k := by
  unfold pattT
  exact Nat.le_trans (List.length_filter_le _ _) (by simp)
theorem pattT_yes (h : fstP E (colAt n C k) = true) : pattT n C E (k + 1) = pattT n C E k ++ [colAt n C k] := by
  unfold pattT; rw [List.range_succ, List.map_append, List.filter_append]; simp [h]
theorem pattT_no (h : fstP E (colAt n C k) = false) : pattT n C E (k + 1) = pattT n C E k := by
  unfold pattT; rw [List.range_succ, List.map_append, List.filter_append]; simp [h]
theorem pow_pos_c (hn : 1 ≤ n) (h : 0 < C ^ n) : 0 < C := by
  rcases Nat.eq_zero_or_pos C with h0 | h0
  · subst h0
    rw [show n = n - 1 + 1 by omega, Nat.pow_succ, Nat.mul_zero] at h; omega
  · exact h0
theorem pow_le_c {N : Nat} (h : C ^ n ≤ N) (hi : i ≤ n) (hN : 1 ≤ N := by omega) : C ^ i ≤ N := by
  rcases Nat.eq_zero_or_pos C with h0 | h0
  · subst h0
    rcases Nat.eq_zero_or_pos i with h1 | h1
    · subst h1; rw [Nat.pow_zero]; exact hN
    · rw [show i = i - 1 + 1 by omega, Nat.pow_succ, Nat.mul_zero]; omega
  · exact Nat.le_trans (Nat.pow_le_pow_right h0 hi) h
end
end Go.KL
namespace Go.KL
section
variable {n C k i j c : Nat} {E R G gens : List (List Int)} {m x : List Int} {z z' : Nat} {e e' : Int}
theorem pattT_full : pattT n C E (C ^ n) = (colsL n C).filter (fstP E) := rfl
theorem filter_fst (h : ∀ x, x ∈ E ↔ x ∈ R) (L : List (List Int)) : L.filter (fstP E) = L.filter (fstP R) := List.filter_congr fun c _ => fstP_congr h c
/-! ### Of a distribution, one by one -/
def wntT (n : Nat) (m : List Int) (R : List (List Int)) (k : Nat) : Nat := (((List.range k).map (colAt n m.length)).filter (dist m)).countP (fstP R)
theorem wntT_le : wntT n m R k ≤ k := by
  unfold wntT
  refine Nat.le_trans List.countP_le_length (Nat.le_trans (List.length_filter_le _ _) (by simp))
theorem wntT_no (h : dist m (colAt n m.length k) = false) : wntT n m R (k + 1) = wntT n m R k := by
  unfold wntT; rw [List.range_succ, List.map_append, List.filter_append]; simp [h]
theorem wntT_out (h : dist m (colAt n m.length k) = true) (h2 : fstP R (colAt n m.length k) = false) : wntT n m R (k + 1) = wntT n m R k := by
  unfold wntT; rw [List.range_succ, List.map_append, List.filter_append, List.countP_append]; simp [h, h2]
theorem wntT_in (h : dist m (colAt n m.length k) = true) (h2 : fstP R (colAt n m.length k) = true) : wntT n m R (k + 1) = wntT n m R k + 1 := by
  unfold wntT; rw [List.range_succ, List.map_append, List.filter_append, List.countP_append]; simp [h, h2]
theorem wntT_full (h : ∀ x, x ∈ E ↔ x ∈ R) : wntT n m R (m.length ^ n) = (((colsL n m.length).filter (dist m)).filter (fstP E)).length := by
  rw [filter_fst h, ← List.countP_eq_length_filter]; rfl
def distT (m x : List Int) (i : Nat) : Bool := (List.range i).all fun c => decide (((x.count (c : Int) : Nat) : Int) = m.getD c 0)
theorem distT_succ : distT m x (i + 1) = (distT m x i && decide (((x.count (i : Int) : Nat) : Int) = m.getD i 0)) := by
  unfold distT; rw [List.range_succ, List.all_append]; simp
theorem distT_all : distT m x m.length = dist m x := rfl
theorem cnt_take_y (hj : j < x.length) (h : x.getD j 0 = c) : (x.take (j + 1)).count (c : Int) = (x.take j).count (c : Int) + 1 := by
  rw [take_snoc x 0 j hj, List.count_append, h]; simp
theorem cnt_take_n (hj : j < x.length) (h : x.getD j 0 ≠ c) : (x.take (j + 1)).count (c : Int) = (x.take j).count (c : Int) := by
  rw [take_snoc x 0 j hj, List.count_append, List.count_singleton, if_neg (by simpa using h)]; rfl
theorem cnt_take_le : (x.take j).count (c : Int) ≤ j := Nat.le_trans List.count_le_length (List.length_take_le _ _)
/-! ### What both count -/
open Classical in
def CntP (n : Int) (gens : List (List Int)) (colours : Int) (z : Nat) (e : Int) : Prop :=
  if colours < 0 ∨ 8 < colours then z = 0 ∧ e = 12 else if gensMay n gens ≠ 0 then z = 0 ∧ e = gensMay n gens else if 5040 < szTo n.toNat (fun y => y ∈ gens) n.toNat then z = 0 ∧ e = 3 else e = 0 ∧ ∃ E, EltsOk n.toNat gens E ∧ z = cntE E colours.toNat
theorem CntP.ok (hC : C ≤ 8) (h : gensMay (n : Int) gens = 0) (h2 : szTo n (fun y => y ∈ gens) n ≤ 5040) (hE : EltsOk n gens E) : CntP (n : Int) gens (C : Int) (cntE E C) 0 := by
  unfold CntP; rw [if_neg (by omega), if_neg (by omega), Int.toNat_natCast, Int.toNat_natCast, if_neg (by omega)]; exact ⟨rfl, E, hE, rfl⟩
theorem CntP.one {n colours : Int} (h : CntP n gens colours z e) (h' : CntP n gens colours z' e') : z = z' ∧ e = e' := by
  unfold CntP at h h'
  split at h
  · rename_i hc; rw [if_pos hc] at h'; omega
  · rename_i hc; rw [if_neg hc] at h'
    split at h
    · rename_i hg; rw [if_pos hg] at h'; omega
    · rename_i hg; rw [if_neg hg] at h'
      split at h
      · rename_i hs; rw [if_pos hs] at h'; omega
      · rename_i hs; rw [if_neg hs] at h'
        obtain ⟨h1, E, hE, rfl⟩ := h
        obtain ⟨h2, E', hE', rfl⟩ := h'
        refine ⟨cntE_perm (elts_perm hE.nd hE'.nd fun x => (hE.mem x).trans (hE'.mem x).symm), by omega⟩
end
end Go.KL
namespace Go.KL
section
variable {n : Nat} {G : List (List Int)}
open Classical in
theorem elts_ex (hn : 1 ≤ n ∧ n ≤ 12) (hG : ∀ x ∈ G, RowN n x) : ∃ E, EltsOk n G E := by
  have hnd : (((List.range (fct n)).map (atL n)).filter fun x => decide (Cl n (fun y => y ∈ G) x)).Nodup := by
    refine List.Pairwise.filter _ (List.pairwise_map.2 (List.nodup_range.imp_of_mem fun {a b} ha hb hne e => hne ?_))
    have := congrArg rankL e
    rwa [at_rank (List.mem_range.1 ha), at_rank (List.mem_range.1 hb)] at this
  have hm : ∀ x, x ∈ ((List.range (fct n)).map (atL n)).filter (fun x => decide (Cl n (fun y => y ∈ G) x)) ↔ Cl n (fun y => y ∈ G) x := fun x => by
    rw [List.mem_filter, decide_eq_true_eq]
    refine ⟨fun h => h.2, fun h => ⟨?_, h⟩⟩
    have hr := h.row hn hG
    refine List.mem_map.2 ⟨rankL x, List.mem_range.2 ?_, ?_⟩
    · have := rankL_lt x
      rwa [hr.len] at this
    · have := rank_at hr.row
      rwa [hr.len] at this
  refine ⟨ordS (((List.range (fct n)).map (atL n)).filter fun x => decide (Cl n (fun y => y ∈ G) x)), (ordS_perm _).nodup_iff.2 hnd, ordS_sort _, fun x => (ordS_perm _).mem_iff.trans (hm x), ?_⟩
  rw [ordS_len]
  exact sz_count hn hG hnd hm
end
end Go.KL

/- Numbers of each colour, made of raw ones: not negative, and together all the bells. -/
namespace Go.KL
section
variable {ps : List Int} {n i : Nat}
def lefT (ps : List Int) (n : Nat) : Nat → Nat
  | 0 => n
  | i + 1 => lefT ps n i - pick (ps.getD i 0) (lefT ps n i + 1)
def plT (ps : List Int) (n : Nat) : Nat → List Int
  | 0 => []
  | i + 1 => plT ps n i ++ [((pick (ps.getD i 0) (lefT ps n i + 1) : Nat) : Int)]
theorem lefT_zero : lefT ps n 0 = n := by simp only [lefT]
theorem plT_zero : plT ps n 0 = [] := by simp only [plT]
theorem lefT_succ : lefT ps n (i + 1) = lefT ps n i - pick (ps.getD i 0) (lefT ps n i + 1) := by simp only [lefT]
theorem plT_succ : plT ps n (i + 1) = plT ps n i ++ [((pick (ps.getD i 0) (lefT ps n i + 1) : Nat) : Int)] := by simp only [plT]
theorem lefT_le : ∀ i, lefT ps n i ≤ n
  | 0 => by rw [lefT_zero]; exact Nat.le_refl _
  | i + 1 => by have h : lefT ps n i ≤ n := lefT_le i; rw [lefT_succ]; omega
theorem plT_len : ∀ i, (plT ps n i).length = i
  | 0 => by rw [plT_zero]; rfl
  | i + 1 => by rw [plT_succ, List.length_append, plT_len i]; rfl
theorem plT_in : ∀ i, ∀ x ∈ plT ps n i, 0 ≤ x ∧ x ≤ (n : Int)
  | 0, x, h => by rw [plT_zero] at h; cases h
  | i + 1, x, h => by
    rw [plT_succ, List.mem_append, List.mem_singleton] at h
    rcases h with h | h
    · exact plT_in i x h
    · have h1 := pick_lt (ps.getD i 0) (n := lefT ps n i + 1) (by omega)
      have h2 := lefT_le (ps := ps) (n := n) i
      rw [h]; omega
theorem plT_sum : ∀ i, (plT ps n i).sum + (lefT ps n i : Int) = (n : Int)
  | 0 => by rw [plT_zero, lefT_zero]; simp
  | i + 1 => by
    have h0 : (plT ps n i).sum + (lefT ps n i : Int) = (n : Int) := plT_sum i
    have h1 := pick_lt (ps.getD i 0) (n := lefT ps n i + 1) (by omega)
    rw [plT_succ, lefT_succ, List.sum_append, List.sum_cons, List.sum_nil]
    omega
theorem mnT_len : (plT ps n i ++ [((lefT ps n i : Nat) : Int)]).length = i + 1 := by rw [List.length_append, plT_len]; rfl
theorem mnT_ok (hi : i ≤ 7) : manyOk (n : Int) (plT ps n i ++ [((lefT ps n i : Nat) : Int)]) := by
  refine ⟨by rw [mnT_len]; omega, fun c hc => ?_⟩
  have h := mem_atD 0 hc
  rw [List.mem_append, List.mem_singleton] at h
  rcases h with h | h
  · exact plT_in i _ h
  · have h2 := lefT_le (ps := ps) (n := n) i
    rw [h]; omega
theorem mnT_alt (hn : n ≤ 12) (hi : i ≤ 7) : alT (plT ps n i ++ [((lefT ps n i : Nat) : Int)]) (plT ps n i ++ [((lefT ps n i : Nat) : Int)]).length = (n : Int) := by
  have h := mnT_ok (ps := ps) (n := n) hi
  rw [(alT_sum (fun c hc => by have := h.2 c hc; omega) h.1 _ (Nat.le_refl _)).1, List.take_length, List.sum_append, List.sum_cons, List.sum_nil]
  have := plT_sum (ps := ps) (n := n) i
  omega
theorem pow_46 {c : Nat} (hc : c ≤ 4) (hn : n ≤ 6) : c ^ n ≤ 4096 :=
  Nat.le_trans (Nat.pow_le_pow_left hc n) (Nat.pow_le_pow_right (n := 4) (by omega) hn)
end
end Go.KL

