/- Plain maths: the sign of a row. -/
import Derived.Test.YtlhnpkaohfoicaaKlCourse
namespace Go.KL

/-- Is the number of inversions odd? -/
def invB : List Int → Bool
  | [] => false
  | x :: l => (decide (l.countP (fun y => decide (y < x)) % 2 = 1)) != invB l
theorem par_add (a b : Nat) : decide ((a + b) % 2 = 1) = (decide (a % 2 = 1) != decide (b % 2 = 1)) := by
  rcases Nat.mod_two_eq_zero_or_one a with h | h <;> rcases Nat.mod_two_eq_zero_or_one b with k | k <;> rw [Nat.add_mod, h, k] <;> decide
theorem inv_perm {g : Int → Int} {l1 l2 : List Int} (h : l1.Perm l2) : l1.Nodup → (∀ x ∈ l1, ∀ y ∈ l1, g x = g y → x = y) → ((invB (l1.map g) != invB (l2.map g)) = (invB l1 != invB l2)) := by
  induction h with
  | nil => intro _ _; rfl
  | @cons x l1 l2 hp ih =>
    intro hn hg
    have hn' := (List.nodup_cons.1 hn).2
    have ih := ih hn' (fun a ha b hb => hg a (List.mem_cons_of_mem _ ha) b (List.mem_cons_of_mem _ hb))
    have e1 : (l1.map g).countP (fun y => decide (y < g x)) = (l2.map g).countP (fun y => decide (y < g x)) := (hp.map g).countP_eq _
    have e2 : l1.countP (fun y => decide (y < x)) = l2.countP (fun y => decide (y < x)) := hp.countP_eq _
    simp only [List.map_cons, invB, e1, e2]
    revert ih
    generalize invB (l1.map g) = a
    generalize invB (l2.map g) = b
    generalize invB l1 = c
    generalize invB l2 = d
    generalize decide (List.countP (fun y => decide (y < g x)) (l2.map g) % 2 = 1) = e
    generalize decide (List.countP (fun y => decide (y < x)) l2 % 2 = 1) = f
    revert a b c d e f; decide
  | swap x y l =>
    intro hn hg
    have hxy : y ≠ x := fun e => by subst e; simp at hn
    have hg2 : g y ≠ g x := fun e => hxy (hg y (by simp) x (by simp) e)
    simp only [List.map_cons, invB, List.countP_cons]
    rw [par_add, par_add, par_add, par_add]
    have e1 : (decide ((if decide (x < y) = true then 1 else 0) % 2 = 1) != decide ((if decide (y < x) = true then 1 else 0) % 2 = 1)) = true := by
      by_cases h1 : x < y
      · have h2 : ¬ y < x := by omega
        simp [h1, h2]
      · have h2 : y < x := by omega
        simp [h1, h2]
    have e2 : (decide ((if decide (g x < g y) = true then 1 else 0) % 2 = 1) != decide ((if decide (g y < g x) = true then 1 else 0) % 2 = 1)) = true := by
      by_cases h1 : g x < g y
      · have h2 : ¬ g y < g x := by omega
        simp [h1, h2]
      · have h2 : g y < g x := by omega
        simp [h1, h2]
    revert e1 e2
    generalize decide ((if decide (x < y) = true then 1 else 0) % 2 = 1) = p1
    generalize decide ((if decide (y < x) = true then 1 else 0) % 2 = 1) = p2
    generalize decide ((if decide (g x < g y) = true then 1 else 0) % 2 = 1) = p3
    generalize decide ((if decide (g y < g x) = true then 1 else 0) % 2 = 1) = p4
    generalize invB (l.map g) = a
    generalize invB l = b
    generalize decide (List.countP (fun z => decide (z < g x)) (l.map g) % 2 = 1) = c
    generalize decide (List.countP (fun z => decide (z < g y)) (l.map g) % 2 = 1) = d
    generalize decide (List.countP (fun z => decide (z < x)) l % 2 = 1) = e
    generalize decide (List.countP (fun z => decide (z < y)) l % 2 = 1) = f
    revert p1 p2 p3 p4 a b c d e f; decide
  | @trans l1 l2 l3 h1 h2 ih1 ih2 =>
    intro hn hg
    have i1 := ih1 hn hg
    have i2 := ih2 (h1.nodup_iff.1 hn) (fun a ha b hb => hg a (h1.mem_iff.2 ha) b (h1.mem_iff.2 hb))
    revert i1 i2
    generalize invB (l1.map g) = a
    generalize invB (l2.map g) = b
    generalize invB (l3.map g) = c
    generalize invB l1 = d
    generalize invB l2 = e
    generalize invB l3 = f
    revert a b c d e f; decide
theorem row_perm {r : List Int} (h : IsRow r) : r.Perm (roundsL r.length) := by
  rw [List.perm_ext_iff_of_nodup h.nodup (roundsL_row h.pos h.le).nodup]
  intro x
  constructor
  · intro hx
    have := h.bound x hx
    exact List.mem_map.2 ⟨x.toNat, List.mem_range.2 (by omega), by omega⟩
  · intro hx
    obtain ⟨k, hk, rfl⟩ := List.mem_map.1 hx
    exact h.mem (List.mem_range.1 hk)
theorem invB_sorted : ∀ (n b : Nat), invB ((List.range' b n).map fun (i : Nat) => (i : Int)) = false
  | 0, _ => rfl
  | n + 1, b => by
    rw [List.range'_succ, List.map_cons, invB, invB_sorted n (b + 1)]
    have : ((List.range' (b + 1) n).map fun (i : Nat) => (i : Int)).countP (fun y => decide (y < (b : Int))) = 0 := by
      rw [List.countP_eq_zero]
      intro y hy
      obtain ⟨k, hk, rfl⟩ := List.mem_map.1 hy
      have := (List.mem_range'_1.1 hk).1
      simp; omega
    rw [this]; rfl
theorem invB_rounds (n : Nat) : invB (roundsL n) = false := by
  unfold roundsL; rw [List.range_eq_range']; exact invB_sorted n 0
/-- THE SIGN OF A PRODUCT. -/
theorem invB_by {a b : List Int} (ha : IsRow a) (hb : IsRow b) (hl : a.length = b.length) : invB (byL a b) = (invB a != invB b) := by
  have h := inv_perm (g := fun k => a.getD k.toNat 0) (row_perm hb) hb.nodup (fun x hx y hy e => by
    have bx := hb.bound x hx
    have by' := hb.bound y hy
    have h1 := idxOf_at ha.nodup (k := x.toNat) (by omega)
    have h2 := idxOf_at ha.nodup (k := y.toNat) (by omega)
    have e : a.getD x.toNat 0 = a.getD y.toNat 0 := e
    rw [e, h2] at h1; omega)
  have e1 : b.map (fun k => a.getD k.toNat 0) = byL a b := rfl
  have e2 : (roundsL b.length).map (fun k => a.getD k.toNat 0) = a := byL_rounds_right hl
  rw [e1, e2, invB_rounds] at h
  revert h
  generalize invB (byL a b) = p
  generalize invB a = q
  generalize invB b = s
  revert p q s; decide
end Go.KL
