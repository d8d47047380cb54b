/- Cutting one out of a row that is owned: its two ends, joined in place, and the rest made zero. -/
import Derived.Test.YtlhnpkaohfoicaaKlBld
import Derived.Lib.SliceRun
namespace Go.KL
open Go.RowKit
variable {P : Program} {d : Option Tmp} {ty : TypeId} {pos : String} {af : Array Edge} {g : Option (Nat × Bool)} {a : Act} {σ : GW}
def preOf (v : Value) (i : Nat) : Value := match v with | .slice ad _ cap => .slice ad i cap | u => u
def sufOf (v : Value) (j : Nat) : Value := match v with | .slice ad n cap => sliced ad j n cap 1 | u => u
def tailOf (v : Value) (m h : Nat) : Value := match v with | .slice ad _ cap => sliced ad m h cap 1 | u => u
def capGe (v : Value) (n : Nat) : Prop := match v with | .slice _ _ cap => n ≤ cap | _ => False

theorem Own.form {k : Nat} {e : TypeId} {n : Nat} {v : Value} {ts : List Ty} (h : Own σ k e 1 v n ts) : ∃ ad cap, v = .slice ad n cap ∧ n ≤ cap ∧ cap ≤ 9223372036854775807 := by
  obtain ⟨us, r1, _⟩ := h
  rcases r1.2 with ⟨rfl, rfl⟩ | ⟨gg, cap, cur, rfl, _, _, hn, hm, _⟩
  · exact ⟨none, 0, rfl, Nat.le_refl _, by decide⟩
  · exact ⟨_, cap, rfl, hn, hm⟩
theorem Own.cap {k : Nat} {e : TypeId} {n : Nat} {v : Value} {ts : List Ty} (h : Own σ k e 1 v n ts) : capGe v n := by
  obtain ⟨ad, cap, rfl, hn, _⟩ := h.form; exact hn
section
variable {k : Nat} {x y y' y'' : Operand} {n : Nat} {ts : List Ty} {t e e' : TypeId} {z v : Value} {b : Nat} {ki kj kk : IntKind} (ht : P.underlying t = some (.slice e')) (he : Info P e' z 1 b) (ho : Own σ k e 1 v n ts) (hx : a.eval x = v)
include ht he ho hx
theorem y_pre {i : Nat} (hy : a.eval y = .int ki i) (hi : i ≤ n) : Yld P ⟨d, .slice t x none (some y) none, ty, pos, af, g⟩ a σ (Ty.val (preOf v i)).pr := by
  obtain ⟨ad, cap, rfl, hn, hm⟩ := ho.form
  refine Yld.of_run (v := sliced ad 0 i cap 1) ?_ ?_
  · have h1 := run_slice_h (P := P) σ.w t ad n cap (elem_of ht) ki (i : Int) (by omega) (by omega)
    rw [elem_eq ht, he.size] at h1
    simp only [execOp, hx, hy, Option.map_some, Option.map_none, Sem.run_bind, run_sliceAt_slice σ.w t _ _ _ _ (elem_of ht), h1, Result.andThen_ok, Sem.run_pure, Int.toNat_natCast]
  · show sliced ad 0 i cap 1 = preOf _ i
    unfold sliced preOf
    cases ad <;> simp [Addr.add_zero']
theorem y_suf {j : Nat} (hy : a.eval y = .int ki j) (hj : j ≤ n) : Yld P ⟨d, .slice t x (some y) none none, ty, pos, af, g⟩ a σ (Ty.val (sufOf v j)).pr := by
  obtain ⟨ad, cap, rfl, hn, hm⟩ := ho.form
  refine Yld.of_run (v := sliced ad j n cap 1) ?_ rfl
  have h1 := run_slice_l (P := P) σ.w t ad n cap (elem_of ht) ki (j : Int) (by omega) (by omega)
  rw [elem_eq ht, he.size] at h1
  simp only [execOp, hx, hy, Option.map_some, Option.map_none, Sem.run_bind, run_sliceAt_slice σ.w t _ _ _ _ (elem_of ht), h1, Result.andThen_ok, Sem.run_pure, Int.toNat_natCast]
theorem y_tail {m h : Nat} (hy : a.eval y = .int ki m) (hy' : a.eval y' = .int kj h) (hm : m ≤ h) (hh : capGe v h) : Yld P ⟨d, .slice t x (some y) (some y') none, ty, pos, af, g⟩ a σ (Ty.val (tailOf v m h)).pr := by
  obtain ⟨ad, cap, rfl, hn, hc⟩ := ho.form
  have hh' : h ≤ cap := hh
  refine Yld.of_run (v := sliced ad m h cap 1) ?_ rfl
  have h1 := run_slice_lh (P := P) σ.w t ad n cap (elem_of ht) ki kj (m : Int) (h : Int) (by omega) (by omega) (by omega)
  rw [elem_eq ht, he.size] at h1
  simp only [execOp, hx, hy, hy', Option.map_some, Option.map_none, Sem.run_bind, run_sliceAt_slice σ.w t _ _ _ _ (elem_of ht), h1, Result.andThen_ok, Sem.run_pure, Int.toNat_natCast]
theorem y_three {i j m : Nat} (hy : a.eval y = .int ki i) (hy' : a.eval y' = .int kj j) (hy'' : a.eval y'' = .int kk m) (h1 : i ≤ j) (h2 : j ≤ m) (h3 : m ≤ n) : Yld P ⟨d, .slice t x (some y) (some y') (some y''), ty, pos, af, g⟩ a σ Pr.any := by
  obtain ⟨ad, cap, rfl, hn, hc⟩ := ho.form
  have h4 := run_slice_lhm (P := P) σ.w t ad n cap (elem_of ht) ki kj kk (i : Int) (j : Int) (m : Int) (by omega) (by omega) (by omega) (by omega)
  rw [elem_eq ht, he.size] at h4
  refine Yld.of_run (R := Pr.any) (v := sliced ad i j m 1) ?_ trivial
  · simp only [execOp, hx, hy, hy', hy'', Option.map_some, Sem.run_bind, run_sliceAt_slice σ.w t _ _ _ _ (elem_of ht), h4, Result.andThen_ok, Sem.run_pure, Int.toNat_natCast]
end
/-- 'append(s[:i], s[j:]...)', in place. -/
theorem m_delapp {k : Nat} {t e : TypeId} {z : Value} {by_ : Nat} {x y : Operand} {n i j : Nat} {v : Value} {ts : List Ty} (ht : P.underlying t = some (.slice e)) (he : Info P e z 1 by_) (hk : 2 ≤ k)
    (h : Own σ k e 1 v n ts) (hx : a.eval x = preOf v i) (hy : a.eval y = sufOf v j) (hij : i ≤ j) (hj : j ≤ n) (hn0 : 0 < n) (hone : ∀ U, U ∈ ts → One U) :
    YldM k P ⟨d, .call ⟨.builtin .append, #[x, y], #[t, t]⟩, ty, pos, af, g⟩ a σ (fun r τ => capGe r n ∧ Own τ k e 1 r (i + (n - j)) (ts.take i ++ ts.drop j)) := by
  obtain ⟨us, r1, r2, r3, r4⟩ := h
  rcases r1.2 with ⟨rfl, h0⟩ | ⟨gg, cap, cur, rfl, _, hg, hn, hm, hcs, htk⟩
  · omega
  · obtain ⟨inf, hi, _, hsz, _⟩ := he.get
    have hus : us.length = n := by rw [r1.1]; omega
    have hcl : ∀ q u, us[q]? = some u → σ.w.cell? ⟨gg, q, none⟩ = some u := fun q u hq => by
      have := r1.cells (g := gg) rfl q u hq
      rwa [Addr.add_lit, Nat.zero_add] at this
    obtain ⟨o', hy', ho'⟩ : ∃ o', a.eval y = .slice (some ⟨gg, o', none⟩) (n - j) (cap - j) ∧ (j < n → o' = j) := by
      rw [hy]
      show ∃ o', sliced (some ⟨gg, 0, none⟩) j n cap 1 = _ ∧ _
      unfold sliced
      by_cases hcj : cap = j
      · rw [if_pos hcj]; exact ⟨0, rfl, fun h => by omega⟩
      · rw [if_neg hcj]; exact ⟨j, by simp [Addr.add_lit], fun _ => rfl⟩
    have hx' : a.eval x = .slice (some ⟨gg, 0, none⟩) i cap := hx
    have hnews : (us.drop j).length = (n - j) * inf.size := by rw [List.length_drop, hus, hsz]; omega
    have hr := run_append_room (P := P) σ.w t ty e inf ht hi gg i cap cur hg ⟨gg, o', none⟩ (n - j) (cap - j) (us.drop j) hnews (fun q u hq => by
      rw [List.getElem?_drop] at hq
      have hlt := (List.getElem?_eq_some_iff.1 hq).1
      rw [Addr.add_lit, ho' (by omega)]; exact hcl _ u hq) (fun u hu => by
      obtain ⟨q, hq, rfl⟩ := List.getElem_of_mem (List.mem_of_mem_drop hu)
      have hT : ts[q]? = some (ts[q]'(by omega)) := by simp [show q < ts.length by omega]
      exact hone _ (List.getElem_mem _) σ _ (r3 q _ us[q] hT (by simp [hq]))) (by omega) (by rw [hsz, List.length_drop, hus, hcs]; omega)
    have hstp : Stp k σ (σ.setRow gg (cur.toList.take (i * inf.size) ++ us.drop j ++ cur.toList.drop (i * inf.size + (us.drop j).length)).toArray) := Stp.setRow (r4 gg rfl) (by omega)
    intro K Q hK
    have hr' : (execOp a.eval ⟨d, .call ⟨.builtin .append, #[x, y], #[t, t]⟩, ty, pos, af, g⟩).run P σ.w = .ok (.value (.slice (some ⟨gg, 0, none⟩) (i + (n - j)) cap)) (σ.setRow gg (cur.toList.take (i * inf.size) ++ us.drop j ++ cur.toList.drop (i * inf.size + (us.drop j).length)).toArray).w := by
      simp only [execOp, resolve, Sem.run_bind, Sem.run_pure, Result.andThen_ok, invoke, List.map_toArray, List.map_cons, List.map_nil, builtin, hx', hy', hr]
      rfl
    unfold Oper.wp
    rw [hr']
    refine hK _ _ hstp ⟨hn, Own.intro (us := us.take i ++ us.drop j) (setRow_heap σ.w gg cur _ e (0, 0) hg) (r4 gg rfl) (by omega) hm ?_ ?_ (by simp [r2]) ?_⟩
    · simp only [List.size_toArray, List.length_append, List.length_take, List.length_drop, Array.length_toList, hsz, hus, hcs]; omega
    · have e1 : cur.toList.take (i * inf.size) = us.take i := by
        rw [← htk, List.take_take, hsz, Nat.mul_one, Nat.mul_one, Nat.min_eq_left (by omega)]
      rw [e1]
      simp only [Nat.mul_one]
      rw [show i + (n - j) = (us.take i ++ us.drop j).length by simp [hus]; omega]
      exact List.take_left
    · intro q U u hU hu
      have hT : ∀ (q : Nat) (T : Ty) (u : Value), ts[q]? = some T → us[q]? = some u → T.has _ u := fun q T u h1 h2 => T.up (hstp.le (by omega)) (r3 q T u h1 h2)
      by_cases hq : q < i
      · rw [List.getElem?_append_left (by simp; omega), List.getElem?_take, if_pos hq] at hU hu
        exact hT q U u hU hu
      · rw [List.getElem?_append_right (by simp; omega), List.getElem?_drop] at hU hu
        simp only [List.length_take] at hU hu
        rw [show min i ts.length = i by omega] at hU
        rw [show min i us.length = i by omega] at hu
        exact hT _ U u hU hu
/-- 'clear(s[m:h])' behind what is owned. -/
theorem m_clr {k : Nat} {t e : TypeId} {z : Value} {by_ : Nat} {x : Operand} {m h : Nat} {v : Value} {ts : List Ty} (ht : P.underlying t = some (.slice e)) (he : Info P e z 1 by_) (hz : z.cells = #[z]) (hz1 : z.oneCell' = true) (hk : 2 ≤ k)
    (ho : Own σ k e 1 v m ts) (hx : a.eval x = tailOf v m h) (hm : m < h) (hh : capGe v h) :
    YldM k P ⟨d, .call ⟨.builtin .clear, #[x], #[t]⟩, ty, pos, af, g⟩ a σ (fun _ τ => Own τ k e 1 v m ts) := by
  obtain ⟨us, r1, r2, r3, r4⟩ := ho
  rcases r1.2 with ⟨rfl, h0⟩ | ⟨gg, cap, cur, rfl, _, hg, hn, hmm, hcs, htk⟩
  · have : h ≤ 0 := hh
    omega
  · have hh' : h ≤ cap := hh
    have hx' : a.eval x = .slice (some ⟨gg, m, none⟩) (h - m) (cap - m) := by
      rw [hx]
      show sliced (some ⟨gg, 0, none⟩) m h cap 1 = _
      unfold sliced
      rw [if_neg (by omega)]
      simp [Addr.add_lit]
    have hr := Lib.run_clear_slice (P := P) σ.w t e ty z ht he.zero hz hz1 gg m (h - m) (cap - m) (by omega) (fun q hq => by simp [World.cell?, hg, show m + q < cur.size by omega]) (fun q hq => by simp [World.frozen?, hg])
    intro K Q hK
    have hr' : (execOp a.eval ⟨d, .call ⟨.builtin .clear, #[x], #[t]⟩, ty, pos, af, g⟩).run P σ.w = .ok (.value (.tuple #[])) (σ.w.setCells gg m (List.replicate (h - m) z)) := by
      refine run_builtin1 hx' (fun cs => ?_)
      show (do pure (.value (← Builtin.clear_ #[t] ty #[.slice (some ⟨gg, m, none⟩) (h - m) (cap - m)])) : Sem Next).run P σ.w = _
      rw [Sem.run_bind, hr]; rfl
    unfold Oper.wp
    rw [hr']
    obtain ⟨cur', c1, c2, c3, c4, c5, c6⟩ := heap_setCells (b := gg) (e := e) (List.replicate (h - m) z) m σ.w cur hg (by simp; omega)
    have hstp : Stp k σ ⟨σ.w.setCells gg m (List.replicate (h - m) z), σ.st, fun b hb => by rw [c5]; exact σ.lt b hb⟩ :=
      ⟨World.os_setCells _ _ _ _, c6, World.output_setCells _ _ _ _, by rw [c5]; exact Nat.le_refl _, fun b hb hmk => World.heap_setCells_other _ _ _ _ hb (fun e0 => by
        have h4 := r4 gg rfl
        rw [← e0] at h4
        rcases hmk with h5 | h5
        · omega
        · exact h5 h4), fun _ _ _ => rfl⟩
    refine hK _ _ hstp (Own.intro (us := us) c1 (r4 gg rfl) hn hmm (by rw [c2, hcs]) ?_ r2 (fun q U u hU hu => U.up (hstp.le (by omega)) (r3 q U u hU hu)))
    rw [← htk]
    apply List.ext_getElem?
    intro q
    rw [List.getElem?_take, List.getElem?_take]
    by_cases hq : q < m * 1
    · rw [if_pos hq, if_pos hq]
      have := c4 q (by omega)
      simpa using this
    · rw [if_neg hq, if_neg hq]
theorem one_map {α : Type} {f : α → Ty} {xs : List α} (h : ∀ x, One (f x)) : ∀ U, U ∈ xs.map f → One U := fun U hU => by
  obtain ⟨x, _, rfl⟩ := List.mem_map.1 hU; exact h x
theorem del_list {α : Type} (f : α → Ty) (xs : List α) (i : Nat) : (xs.map f).take i ++ (xs.map f).drop (i + 1) = (xs.eraseIdx i).map f := by
  rw [List.eraseIdx_eq_take_drop_succ, List.map_append, List.map_take, List.map_drop]
end Go.KL
