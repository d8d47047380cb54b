/- 'append' to a fresh empty row, in any order with what stands beside it. -/
import Derived.Test.YtkjifbgofckfeaaCosetMadeK1
import Derived.Test.YtkjifbgofckfeaaCosetMadeK2
import Derived.Lib.AppendStr
import Derived.Laws.BitsLemmas
import Derived.Lib.IndexLaws
import Derived.Below
import Derived.Shelf.GgSortFunc.Insertion
import Derived.Shelf.SlSortCmp.Whole1
import Derived.Maps.RangeRun
import Derived.ProofKit
import Derived.JoinedCond
import Derived.SizedLaws
import Derived.Deep.Slices
import Derived.Deep.CondSized
import Derived.ScopeJumps
namespace Go.KL
open Go.RowKit
variable {P : Program}

theorem own_append0 {σ : GW} {k : Nat} {t ty e : TypeId} {z : Value} {c by_ : Nat} {v src : Value} {n m : Nat} {ts us : List Ty} (hk : 2 ≤ k) (ht : P.underlying t = some (.slice e)) (he : Info P e z c by_) (hz : z.cells.size = c) (hc : 0 < c)
    (h : Own σ k e c v n ts) (hx : (Ty.sl c m us).has σ src) (h1 : ∀ U, U ∈ us → One U) (hlen : n + m ≤ 9223372036854775807) (hbytes : (n + m) * by_ ≤ 140737488355328) (hv0 : ∃ ad, v = .slice ad n 0) :
    ∃ v' τ, (Builtin.append_ #[t, t] ty #[v, src]).run P σ.w = .ok v' τ.w ∧ Stp 0 σ τ ∧ Own τ k e c v' (n + m) (ts ++ us) := by
  have h0 := h
  obtain ⟨vs, r1, r2, r3, r4⟩ := h
  obtain ⟨ad, cap0, b, o, rfl, hcap0, hl, hs, hcl⟩ := hx
  obtain ⟨i, hi, hi1, rfl, rfl⟩ := he.get
  obtain ⟨ws, w1, w2, w3⟩ := sl_news hcl
  have hone : ∀ u ∈ ws, u.oneCell' = true := fun u hu => by
    obtain ⟨j, hj⟩ := List.mem_iff_getElem?.1 hu
    obtain ⟨T, hT⟩ : ∃ T, us[j]? = some T := ⟨us[j]'(by rw [← w1]; exact (List.getElem?_eq_some_iff.1 hj).1), by simp⟩
    exact h1 T (List.mem_of_getElem? hT) σ u (w3 j T u hT hj)
  have hlw : ws.length = m * i.size := by rw [w1]; exact hl
  have hl' : (vs ++ ws).length = (ts ++ us).length := by simp [r2, w1]
  -- a new array
  have new : ∀ (old : Nat) (τw : World), old < n + m → τw = σ.w.drew.alloc (.cells (vs.toArray ++ ws.toArray ++ Builtin.zeroCells z.cells (grownCap σ.w (n + m) old e - (n + m))) e) →
      ∃ τ : GW, τ.w = τw ∧ Stp 0 σ τ ∧ Own τ k e i.size (.slice (some ⟨σ.w.heap.size, 0, none⟩) (n + m) (grownCap σ.w (n + m) old e)) (n + m) (ts ++ us) := by
    intro old τw _ hτ
    subst hτ
    have hge := grownCap_ge σ.w (n + m) old e
    have hcm : grownCap σ.w (n + m) old e ≤ maxLen := grownCap_le_maxLen σ.w (n + m) old e hlen
    have hstp : Stp 0 σ (σ.drew.mk' k (.cells (vs.toArray ++ ws.toArray ++ Builtin.zeroCells z.cells (grownCap σ.w (n + m) old e - (n + m))) e)) := (Stp.drew σ).trans (Stp.mk' σ.drew k _)
    refine ⟨_, rfl, hstp, Own.intro (us := vs ++ ws) (heap_alloc_new σ.w.drew _) (by show (if _ = _ then k else _) = k; rw [if_pos]; rfl) hge hcm ?_ ?_ hl' ?_⟩
    · simp only [Array.size_append, List.size_toArray, size_zeroCells, hz, r1.1, hlw, ← Nat.add_mul]
      congr 1; omega
    · simp only [Array.toList_append, List.append_assoc]
      rw [← List.append_assoc, show (n + m) * i.size = (vs ++ ws).length by rw [List.length_append, r1.1, hlw, Nat.add_mul]]
      exact List.take_left
    · exact typed_append r2 (fun j T u hT hu => T.up hstp.le0 (r3 j T u hT hu)) (fun j T u hT hu => T.up hstp.le0 (w3 j T u hT hu))
  rcases r1.2 with ⟨rfl, rfl⟩ | ⟨g, cap, cur, rfl, _, hg, hn, hm, hcs, htk⟩
  · have hvs : vs = [] := List.eq_nil_of_length_eq_zero (by rw [r1.1]; simp)
    by_cases hm0 : m = 0
    · subst hm0
      have hus : us = [] := List.eq_nil_of_length_eq_zero (by rw [hl]; simp)
      subst hus
      refine ⟨.slice none 0 0, σ, ?_, Stp.refl _ _, by simpa using h0⟩
      cases ad <;> simp [Builtin.append_, run_underlying ht, sizeOf, typeInfo, hi, Builtin.lenOf, Builtin.firstCells, loadCells, loadCellsFrom]
    · have hus : us ≠ [] := by
        intro e; subst e
        have : 0 < m * i.size := Nat.mul_pos (by omega) hc
        simp only [List.length_nil] at hl
        omega
      obtain ⟨rfl, hst⟩ := hs.resolve_left hus
      have hr := run_append_nil (P := P) σ.w t ty e i z ht hi hi1 ⟨b, o, none⟩ m cap0 ws hlw (fun j u hj => by rw [Addr.add_lit]; exact w2 j u hj) (by omega) (by omega) (by simp only [Nat.zero_add] at hbytes; omega)
      obtain ⟨τ, e1, e2, e3⟩ := new 0 _ (by omega) rfl
      simp only [Nat.zero_add] at e1 e3 ⊢
      exact ⟨_, τ, by rw [hr, e1, hvs]; simp, e2, e3⟩
  · have hlt : g < σ.w.heap.size := (Array.getElem?_eq_some_iff.1 hg).1
    have hgk := r4 g rfl
    by_cases hnone : ad = none
    · subst hnone
      have hus : us = [] := hs.resolve_right (fun h => by cases h.1)
      have hm0 : m = 0 := by
        subst hus
        rcases Nat.eq_zero_or_pos m with h | h
        · exact h
        · have : 0 < m * i.size := Nat.mul_pos h hc
          simp only [List.length_nil] at hl
          omega
      subst hm0; subst hus
      refine ⟨_, σ, ?_, Stp.refl _ _, by simpa using h0⟩
      simp [Builtin.append_, run_underlying ht, sizeOf, typeInfo, hi, Builtin.lenOf, Builtin.firstCells, hn, storeCells, loadCells]
    · obtain ⟨ad', rfl⟩ := Option.ne_none_iff_exists'.1 hnone
      have hnews : ∀ (j : Nat) (u : Value), ws[j]? = some u → σ.w.cell? (ad'.add j) = some u := fun j u hj => by
        rcases hs with rfl | ⟨he', _⟩
        · have : ws = [] := List.eq_nil_of_length_eq_zero w1
          subst this; simp at hj
        · cases he'; rw [Addr.add_lit]; exact w2 j u hj
      have hcap : cap = 0 := by
        obtain ⟨ad0, e0⟩ := hv0
        cases e0; rfl
      by_cases hroom : n + m ≤ cap
      · have hm0 : m = 0 := by omega
        have hn0 : n = 0 := by omega
        have hfit : n * i.size + ws.length ≤ cur.size := by rw [hlw, hcs, ← Nat.add_mul]; exact Nat.mul_le_mul_right _ hroom
        have hr := run_append_room (P := P) σ.w t ty e i ht hi g n cap cur hg ad' m cap0 ws hlw hnews hone hroom hfit
        have hc0 : cur.size = 0 := by rw [hcs, hcap, Nat.zero_mul]
        have hw0 : ws = [] := List.eq_nil_of_length_eq_zero (by rw [hlw, hm0, Nat.zero_mul])
        have hcur : (cur.toList.take (n * i.size) ++ ws ++ cur.toList.drop (n * i.size + ws.length)).toArray = cur := by
          have : cur = #[] := Array.eq_empty_of_size_eq_zero hc0
          subst this; subst hw0; simp
        rw [hcur] at hr
        have hstp : Stp 0 σ (σ.setRow g cur) := ⟨rfl, rfl, rfl, Dr.refl _, by simp [GW.setRow, World.setRow], fun b hb _ => by
          by_cases e : b = g
          · subst e; rw [hg]; exact setRow_heap σ.w b cur cur _ (0, 0) hg
          · exact setRow_other σ.w g b cur e, fun _ _ _ => rfl⟩
        refine ⟨_, _, hr, hstp, Own.intro (us := vs ++ ws) (setRow_heap σ.w g cur _ e (0, 0) hg) hgk hroom hm hcs ?_ hl' ?_⟩
        · rw [hw0, List.append_nil, hm0, Nat.add_zero]; exact htk
        · exact typed_append r2 (fun j T u hT hu => T.up hstp.le0 (r3 j T u hT hu)) (fun j T u hT hu => T.up hstp.le0 (w3 j T u hT hu))
      · have holds : ∀ (j : Nat) (u : Value), vs[j]? = some u → σ.w.cell? ((⟨g, 0, none⟩ : Addr).add j) = some u := r1.cells (g := g) rfl
        have hr := run_append_grow (P := P) σ.w t ty e i z ht hi hi1 ⟨g, 0, none⟩ n cap vs r1.1 holds ad' m cap0 ws hlw hnews (by omega) (by omega) (growslice_fits (by omega) hbytes)
        obtain ⟨τ, e1, e2, e3⟩ := new cap _ (by omega) rfl
        exact ⟨_, τ, by rw [hr, e1], e2, e3⟩


variable {d : Option Tmp} {ty : TypeId} {pos : String} {af : Array Edge} {g : Option (Nat × Bool)} {a : Act} {σ : GW}
def Pr.own0 (k : Nat) (e : TypeId) : Pr := ⟨fun σ v => Own σ k e 1 v 0 [] ∧ ∃ ad, v = .slice ad 0 0, fun hs h => ⟨h.1.keep hs (by decide) (.inl rfl), h.2⟩⟩
theorem y_lit00 {k : Nat} {t e : TypeId} {z : Value} {b : Nat} (ht : P.underlying t = some (.slice e)) (he : Info P e z 1 b) :
    Yld P ⟨d, .buildSlice t 0 #[], ty, pos, af, g⟩ a σ (Pr.own0 k e) := by
  intro K Q hk
  have hr : (execOp a.eval ⟨d, .buildSlice t 0 #[], ty, pos, af, g⟩).run P σ.w = .ok (.value (.slice (some ⟨σ.w.heap.size, 0, none⟩) 0 0)) (σ.w.alloc (.cells #[] e)) := by
    simp only [execOp, List.map_toArray, List.map_nil]
    simp [Instr.buildSlice, run_underlying ht, he.size, Instr.fill, newRow, newObj, Sem.run, Sem.run_bind, Array.range_zero']
  unfold Oper.wp
  rw [hr]
  exact hk _ (σ.mk' k (.cells #[] e)) (Stp.mk' σ k _) ⟨Own.intro (us := []) (heap_alloc_new σ.w _) (by show (if _ = _ then k else _) = k; rw [if_pos rfl]) (Nat.le_refl _) (Nat.zero_le _) rfl rfl rfl (fun j T u h => by simp at h), _, rfl⟩
theorem y_append0 {k : Nat} {t e : TypeId} {z : Value} {by_ : Nat} {x y : Operand} {m : Nat} {us : List Ty} (ht : P.underlying t = some (.slice e)) (he : Info P e z 1 by_) (hk : 2 ≤ k) (hz : z.cells.size = 1)
    (h : (Pr.own0 k e).has σ (a.eval x)) (hx : At (.sl 1 m us) σ a y) (h1 : ∀ U, U ∈ us → One U) (hlen : m ≤ 9223372036854775807) (hbytes : m * by_ ≤ 140737488355328) :
    Yld P ⟨d, .call ⟨.builtin .append, #[x, y], #[t, t]⟩, ty, pos, af, g⟩ a σ (Pr.own k e 1 m us) := by
  intro K Q hk'
  obtain ⟨v', τ, hr, hs, ho⟩ := own_append0 (ty := ty) hk ht he hz (by decide) h.1 hx h1 (by omega) (by rw [Nat.zero_add]; exact hbytes) h.2
  have hr' : (execOp a.eval ⟨d, .call ⟨.builtin .append, #[x, y], #[t, t]⟩, ty, pos, af, g⟩).run P σ.w = .ok (.value v') τ.w := by
    simp only [execOp, resolve, Sem.run_bind, Sem.run_pure, Result.andThen_ok, invoke, List.map_toArray, List.map_cons, List.map_nil, builtin, hr]
  unfold Oper.wp
  rw [hr']
  exact hk' v' τ hs (by rw [Nat.zero_add, List.nil_append] at ho; exact ho)
end Go.KL

/- A region in whatever order, one operation of which writes: the others neither read nor write what it writes. -/
namespace Go.KL
open Go.RowKit
variable {P : Program}

theorem half_any3 {m N : Nat} {ops : Array Oper} {Q : Exit → Act → World → Prop} (hF : Form N ops) (hm : m ≤ ops.size) (hB : forcedB m ops.toList = true) (M : (Nat → Bool) → Act → GW → Prop)
    (hstep : ∀ (i : Nat) o (L : Nat → Bool) a σ (K : Act → World → Prop), ops[i]? = some o → i < m → M L a σ → L i = false → (∀ e ∈ o.after, Region.binds .any e = true → L e.on = true) →
      (∀ (j : Nat) oj, ops[j]? = some oj → L j = true → ∀ e ∈ oj.after, Region.binds .any e = true → L e.on = true) → (∀ a' σ', M (fun j => L j || j == i) a' σ' → K a' σ'.w) → wpOp P ops Q i K a σ.w)
    (hQ : ∀ a σ, M (fun j => decide (j < m)) a σ → wpList P ops Q (ops.toList.drop m) a σ.w) : ∀ (f : Nat) (L : Array Bool) (a : Act) (σ : GW), L.size = ops.size → left ops.size L ≤ f → (∀ j, j < ops.size → m ≤ j → L.getD j true = false) →
    (∀ (j : Nat) oj, ops[j]? = some oj → L.getD j true = true → ∀ e ∈ oj.after, Region.binds .any e = true → L.getD e.on true = true) → M (fun j => decide (j < m) && L.getD j true) a σ → wpAny P .any ops Q f L a σ.w := by
  intro f
  induction f with
  | zero =>
    intro L a σ hs hf hLm hcl hmid
    have hnone : ∀ j, j < ops.size → L.getD j true = true := fun j hj => by
      cases h : L.getD j true with
      | true => rfl
      | false => have := left_set hs hj h; omega
    have hmm : m = ops.size := by
      rcases Nat.lt_or_ge m ops.size with h | h
      · have := hnone m h; rw [hLm m h (Nat.le_refl _)] at this; cases this
      · omega
    have e : (fun j => decide (j < m) && L.getD j true) = (fun j => decide (j < m)) := by
      funext j
      by_cases h : j < m
      · rw [hnone j (by omega)]; simp
      · simp [h]
    rw [e] at hmid
    exact tail_any hF hB 0 m 0 L a σ.w (by omega) (Nat.le_refl _) hs (Nat.le_refl _) (fun j hj => by rw [hnone j hj]; simp; omega) (hQ a σ hmid)
  | succ f ih =>
    intro L a σ hs hf hLm hcl hmid
    by_cases hdone : ∀ j, j < m → L.getD j true = true
    · have hL : ∀ j, j < ops.size → L.getD j true = decide (j < m) := fun j hj => by
        by_cases h : j < m
        · rw [hdone j h]; simp [h]
        · rw [hLm j hj (by omega)]; simp [h]
      have e : (fun j => decide (j < m) && L.getD j true) = (fun j => decide (j < m)) := by
        funext j
        by_cases h : j < m
        · rw [hdone j h]; simp
        · simp [h]
      rw [e] at hmid
      refine tail_any hF hB (ops.size - m) m (f + 1) L a σ.w (by omega) (Nat.le_refl _) hs ?_ hL (hQ a σ hmid)
      refine Nat.le_trans ?_ hf
      unfold left
      have : (List.range ops.size).countP (fun i => !L.getD i true) = (List.range ops.size).countP (fun i => decide (m ≤ i)) := List.countP_congr fun i hi => by rw [hL i (List.mem_range.1 hi)]; simp
      rw [this]
      have hcnt : ∀ n, (List.range n).countP (fun i => decide (m ≤ i)) = n - m := fun n => by
        induction n with
        | zero => simp
        | succ n ihn =>
          rw [List.range_succ, List.countP_append, ihn]
          by_cases h : m ≤ n <;> simp [h] <;> omega
      rw [hcnt]
      exact Nat.le_refl _
    · have hsome : ∃ j, j < m ∧ L.getD j true = false := by
        refine Classical.byContradiction fun hn => hdone fun j hj => ?_
        cases h : L.getD j true with
        | true => rfl
        | false => exact absurd ⟨j, hj, h⟩ hn
      have up : ∀ k, L.getD k false = true → L.getD k true = true := fun k h => by
        by_cases hk : k < L.size
        · simp [hk] at h ⊢; exact h
        · simp [hk] at h
      refine ⟨fun hr => ?_, fun i hi => ?_⟩
      · exfalso
        have key : ∀ j, j < m → L.getD j true = true := by
          intro j
          induction j using Nat.strongRecOn with
          | _ j ihj =>
          intro hj
          cases hL : L.getD j true with
          | true => rfl
          | false =>
            exfalso
            obtain ⟨o, ho⟩ : ∃ o, ops[j]? = some o := ⟨ops[j]'(by omega), by simp⟩
            have : j ∈ Region.ready .any ops L := mem_ready.2 ⟨hL, o, ho, fun e he hb => by
              have hlt := hF.back j o ho e he hb
              have := ihj e.on hlt (Nat.lt_trans hlt hj)
              have hsz : e.on < L.size := by rw [hs]; omega
              simp [hsz] at this ⊢; exact this⟩
            rw [hr] at this; cases this
        exact hdone key
      · obtain ⟨h0, o, ho, hall⟩ := mem_ready.1 hi
        have hi' : i < ops.size := (Array.getElem?_eq_some_iff.1 ho).1
        have him : i < m := by
          rcases Nat.lt_or_ge i m with h | h
          · exact h
          · exfalso
            obtain ⟨j, hj, hjL⟩ := hsome
            have := forced_spec (L := fun j => decide (j < ops.size) && L.getD j true) hB (fun j oj hj hLj e he hb => by
              simp only [Bool.and_eq_true, decide_eq_true_eq] at hLj ⊢
              exact ⟨by have := hF.back j oj hj e he hb; omega, hcl j oj hj hLj.2 e he hb⟩) ho h (fun e he hb => by
              simp only [Bool.and_eq_true, decide_eq_true_eq]
              exact ⟨by have := hF.back i o ho e he hb; omega, up _ (hall e he hb)⟩) j (by omega)
            simp only [Bool.and_eq_true] at this
            rw [hjL] at this; cases this.2
        refine hstep i o _ a σ _ ho him hmid (by simp [h0]) (fun e he hb => ?_) (fun j oj hj hLj e he hb => ?_) fun a' σ' hm' => ih _ a' σ' (by simpa using hs) (by have := left_set hs hi' h0; omega) (fun j hj hmj => ?_) ?_ ?_
        · have := hF.back i o ho e he hb
          simp only [up _ (hall e he hb), Bool.and_true, decide_eq_true_eq]; omega
        · simp only [Bool.and_eq_true, decide_eq_true_eq] at hLj ⊢
          exact ⟨by have := hF.back j oj hj e he hb; omega, hcl j oj hj hLj.2 e he hb⟩
        · rw [getD_set_ne true (by omega)]; exact hLm j hj hmj
        · intro j oj hj hLj e he hb
          by_cases hji : j = i
          · subst hji
            rw [ho] at hj; cases hj
            have hne := hF.back j o ho e he hb
            rw [getD_set_ne true (by omega)]
            exact up _ (hall e he hb)
          · rw [getD_set_ne true (Ne.symm hji)] at hLj
            have := hcl j oj hj hLj e he hb
            by_cases hei : e.on = i
            · rw [hei, h0] at this; cases this
            · rw [getD_set_ne true (Ne.symm hei)]; exact this
        · have : (fun j => (decide (j < m) && L.getD j true) || j == i) = (fun j => decide (j < m) && (L.setIfInBounds i true).getD j true) := by
            funext j
            by_cases hji : j = i
            · subst hji; simp [him, hs, hi']
            · rw [getD_set_ne true (Ne.symm hji)]; simp [hji]
          rwa [this] at hm'

theorem half_seq3 {m N : Nat} {ops : Array Oper} {Q : Exit → Act → World → Prop} (hF : Form N ops) (hm : m ≤ ops.size) (M : (Nat → Bool) → Act → GW → Prop)
    (hstep : ∀ (i : Nat) o (L : Nat → Bool) a σ (K : Act → World → Prop), ops[i]? = some o → i < m → M L a σ → L i = false → (∀ e ∈ o.after, Region.binds .any e = true → L e.on = true) →
      (∀ (j : Nat) oj, ops[j]? = some oj → L j = true → ∀ e ∈ oj.after, Region.binds .any e = true → L e.on = true) → (∀ a' σ', M (fun j => L j || j == i) a' σ' → K a' σ'.w) → wpOp P ops Q i K a σ.w)
    (hQ : ∀ a σ, M (fun j => decide (j < m)) a σ → wpOps P ops Q (List.range' m (ops.size - m)) a σ.w) : ∀ (n k : Nat) (a : Act) (σ : GW), k + n = m → M (fun j => decide (j < k)) a σ → wpOps P ops Q (List.range' k (n + (ops.size - m))) a σ.w
  | 0, k, a, σ, hk, hmid => by
    obtain rfl : k = m := by omega
    rw [Nat.zero_add]
    exact hQ a σ hmid
  | n + 1, k, a, σ, hk, hmid => by
    rw [show n + 1 + (ops.size - m) = (n + (ops.size - m)) + 1 by omega, List.range'_succ, wpOps_cons]
    obtain ⟨o, ho⟩ : ∃ o, ops[k]? = some o := ⟨ops[k]'(by omega), by simp⟩
    refine hstep k o _ a σ _ ho (by omega) hmid (by simp) (fun e he hbi => by simpa using hF.back k o ho e he hbi)
      (fun j oj hj hlt e he hbi => by have := hF.back j oj hj e he hbi; simp at hlt ⊢; omega) fun a' σ' hm' => half_seq3 hF hm M hstep hQ n (k + 1) a' σ' (by omega) ?_
    have : (fun j => decide (j < k) || j == k) = (fun j => decide (j < k + 1)) := by
      funext j; rw [Bool.eq_iff_iff]; simp; omega
    rwa [this] at hm'

def Ty.any : Ty := ⟨fun _ _ => True, fun _ h => h⟩

structure Mid3 (p d N : Nat) (D : List Deferred) (W : List Nat) (B : Pr) (ops : Array Oper) (Φ : Nat → Ty) (a0 : Act) (σ0 : GW) (L : Nat → Bool) (a : Act) (σ : GW) : Prop where
  stp : StpL W σ0 σ
  stp0 : L p = false → Stp 0 σ0 σ
  ok : Ok N D a
  done : ∀ j, L j = true → j ≠ p → rd ops (fun i => (Φ i).pr) j a σ
  donep : L p = true → B.has σ (a.eval (.tmp d))
  same : ∀ t, (∀ j, dstOf ops j = some t → L j = false) → a.eval (.tmp t) = a0.eval (.tmp t)

def Obl3 (P : Program) (N : Nat) (D : List Deferred) (W : List Nat) (ops : Array Oper) (Φ : Nat → Ty) (a0 : Act) (σ0 : GW) (i : Nat) (o : Oper) : Prop :=
  ∀ a σ, StpL W σ0 σ → Ok N D a → (∀ t, free ops i t = true → a.eval (.tmp t) = a0.eval (.tmp t)) → Deps ops (fun i => (Φ i).pr) a σ o.after.toList (Run P ops o a σ (Φ i).pr)
def OblW (P : Program) (N : Nat) (D : List Deferred) (W : List Nat) (B : Pr) (ops : Array Oper) (Φ : Nat → Ty) (a0 : Act) (σ0 : GW) (i : Nat) (o : Oper) : Prop :=
  ∀ a σ, Stp 0 σ0 σ → Ok N D a → (∀ t, free ops i t = true → a.eval (.tmp t) = a0.eval (.tmp t)) → Deps ops (fun i => (Φ i).pr) a σ o.after.toList (YldL W P o a σ (fun v τ => B.has τ v))
def Obls3 (P : Program) (p N : Nat) (D : List Deferred) (W : List Nat) (B : Pr) (ops : Array Oper) (Φ : Nat → Ty) (a0 : Act) (σ0 : GW) : Nat → List Oper → Prop
  | _, [] => True
  | i, o :: l => (if i = p then OblW P N D W B ops Φ a0 σ0 i o else Obl3 P N D W ops Φ a0 σ0 i o) ∧ Obls3 P p N D W B ops Φ a0 σ0 (i + 1) l
theorem Obls3.get {p N : Nat} {D : List Deferred} {W : List Nat} {B : Pr} {ops : Array Oper} {Φ : Nat → Ty} {a0 : Act} {σ0 : GW} : ∀ (l : List Oper) (k : Nat), Obls3 P p N D W B ops Φ a0 σ0 k l → ∀ j o, l[j]? = some o → (if k + j = p then OblW P N D W B ops Φ a0 σ0 (k + j) o else Obl3 P N D W ops Φ a0 σ0 (k + j) o)
  | [], _, _, j, o, h => by simp at h
  | x :: l, k, h, 0, o, hj => by simp at hj; subst hj; exact h.1
  | x :: l, k, h, j + 1, o, hj => by
    have := Obls3.get l (k + 1) h.2 j o (by simpa using hj)
    rwa [show k + 1 + j = k + (j + 1) by omega] at this
theorem Obls3.up {p N : Nat} {D : List Deferred} {W : List Nat} {B : Pr} {ops : Array Oper} {Φ : Nat → Ty} {a0 : Act} {σ0 σ1 : GW} (hs : Stp 0 σ0 σ1) : ∀ (l : List Oper) (k : Nat), Obls3 P p N D W B ops Φ a0 σ0 k l → Obls3 P p N D W B ops Φ a0 σ1 k l
  | [], _, _ => trivial
  | x :: l, k, h => by
    refine ⟨?_, Obls3.up hs l (k + 1) h.2⟩
    have h1 := h.1
    split at h1
    · rename_i e; rw [if_pos e]; exact fun a σ hs' => h1 a σ (hs.trans hs')
    · rename_i e; rw [if_neg e]; exact fun a σ hs' => h1 a σ (hs.toL0.trans hs')

theorem Mid3.op {p d N : Nat} {D : List Deferred} {W : List Nat} {B : Pr} {ops : Array Oper} {Φ : Nat → Ty} {a0 : Act} {σ0 : GW} {L : Nat → Bool} {a : Act} {σ : GW} {i : Nat} {o : Oper} {Q : Exit → Act → World → Prop} {K : Act → World → Prop}
    (hF : Form N ops) (h1 : 1 ∉ W) (hp : dstOf ops p = some d) (hΦ : ∀ e v, (Φ p).has e v) (hpg : ∀ o, ops[p]? = some o → o.guard = none) (hm : Mid3 p d N D W B ops Φ a0 σ0 L a σ) (ho : ops[i]? = some o) (hL : L i = false)
    (hob : if i = p then OblW P N D W B ops Φ a0 σ0 i o else Obl3 P N D W ops Φ a0 σ0 i o)
    (hall : ∀ e ∈ o.after, Region.binds .any e = true → L e.on = true) (hclosed : ∀ (j : Nat) oj, ops[j]? = some oj → L j = true → ∀ e ∈ oj.after, Region.binds .any e = true → L e.on = true)
    (hK : ∀ a' σ', Mid3 p d N D W B ops Φ a0 σ0 (fun j => L j || j == i) a' σ' → K a' σ'.w) : wpOp P ops Q i K a σ.w := by
  have hdi : dstOf ops i = o.dst := by simp [dstOf, ho]
  have hsame : ∀ t, free ops i t = true → a.eval (.tmp t) = a0.eval (.tmp t) := by
    intro t ht
    refine hm.same t fun j hj => ?_
    cases hLj : L j with
    | false => rfl
    | true =>
      exfalso
      unfold dstOf at hj
      obtain ⟨oj, hoj, hd⟩ := Option.bind_eq_some_iff.1 hj
      unfold free at ht
      have := (List.all_eq_true.1 ht) oj (List.mem_of_getElem? hoj)
      simp only [hd, bne_self_eq_false, Bool.false_or, List.any_eq_true, Bool.and_eq_true, beq_iff_eq] at this
      obtain ⟨e, he, hb, hon⟩ := this
      have := hclosed j oj (by simpa using hoj) hLj e (by simpa using he) hb
      rw [hon, hL] at this
      cases this
  have hdeps : ∀ e ∈ o.after.toList, Region.binds .any e = true → rd ops (fun i => (Φ i).pr) e.on a σ := fun e he hb => by
    by_cases hep : e.on = p
    · rw [hep]; unfold rd; rw [hp]; exact hΦ _ _
    · exact hm.done e.on (hall e (by simpa using he) hb) hep
  -- whatever step of whichever kind: what holds behind it
  have done' : ∀ v (τ : GW), σ.Le τ → (i ≠ p → (Φ i).has τ v) → ∀ j, (L j || j == i) = true → j ≠ p → rd ops (fun i => (Φ i).pr) j (a.put o.dst v) τ := by
    intro v τ hle hv j hLj hjp
    by_cases hji : j = i
    · subst hji
      unfold rd
      cases hd : dstOf ops j with
      | none => trivial
      | some d =>
        have : o.dst = some d := by rw [← hdi]; exact hd
        simp only [this]
        rw [eval_put_same hm.ok (hF.lt j d hd)]
        exact hv hjp
    · have hLj' : L j = true := by simpa [hji] using hLj
      have h0 := hm.done j hLj' hjp
      unfold rd at h0 ⊢
      cases hd : dstOf ops j with
      | none => trivial
      | some d =>
        rw [hd] at h0
        simp only at h0 ⊢
        rw [eval_put_ne (fun he => hji (hF.uniq j i d hd (by rw [hdi]; exact he)))]
        exact (Φ j).up hle h0
  have same' : ∀ v t, (∀ j, dstOf ops j = some t → (L j || j == i) = false) → (a.put o.dst v).eval (.tmp t) = a0.eval (.tmp t) := by
    intro v t ht
    have h1 : o.dst ≠ some t := fun he => by
      have := ht i (by rw [hdi]; exact he)
      simp at this
    rw [eval_put_ne h1]
    exact hm.same t fun j hj => by
      have := ht j hj
      simp at this
      exact this.1
  by_cases hip : i = p
  · subst hip
    rw [if_pos rfl] at hob
    have hy := Deps.elim o.after.toList hdeps (hob a σ (hm.stp0 hL) hm.ok hsame)
    unfold wpOp
    simp only [ho]
    have hw : Region.wanted o (yielded ops a.tmps) = true := by simp [Region.wanted, hpg o ho]
    rw [if_pos hw]
    refine .inl (hy K Q fun v τ hs hr => hK _ τ ⟨hm.stp.trans hs, fun h => (by simp at h), hm.ok.put _ _, done' v τ (hs.le h1) (fun h => absurd rfl h), fun _ => ?_, same' v⟩)
    have : o.dst = some d := by rw [← hdi]; exact hp
    rw [this, eval_put_same hm.ok (hF.lt i d hp)]
    exact hr
  · rw [if_neg hip] at hob
    have hrun := Deps.elim o.after.toList hdeps (hob a σ hm.stp hm.ok hsame)
    have next : ∀ v τ, Stp 0 σ τ → (Φ i).has τ v → K (a.put o.dst v) τ.w := by
      intro v τ hs hv
      refine hK _ τ ⟨hm.stp.trans hs.toL0, fun h => ?_, hm.ok.put _ _, done' v τ hs.le0 (fun _ => hv), fun h => ?_, same' v⟩
      · simp at h; exact (hm.stp0 h.1).trans hs
      · have hLp : L p = true := by simpa [Ne.symm hip] using h
        rw [eval_put_ne (fun he => hip (hF.uniq i p d (by rw [hdi]; exact he) hp))]
        exact B.up hs (hm.donep hLp)
    unfold wpOp
    simp only [ho]
    by_cases hw : Region.wanted o (yielded ops a.tmps) = true
    · rw [if_pos hw]
      exact .inl (hrun.1 hw K Q next)
    · rw [if_neg hw]
      exact next undef σ (Stp.refl _ _) (hrun.2 (by simpa using hw))

theorem obR3 {i p : Nat} {A B : Prop} (h : i ≠ p) (k : B) : if i = p then A else B := by rw [if_neg h]; exact k
theorem obR3w {i p : Nat} {A B : Prop} (h : i = p) (k : A) : if i = p then A else B := by rw [if_pos h]; exact k

structure Half3 (m d N : Nat) (D : List Deferred) (W : List Nat) (B : Pr) (ops : Array Oper) (Φ : Nat → Ty) (a0 : Act) (σ0 : GW) (a : Act) (σ : GW) : Prop where
  stp : StpL W σ0 σ
  ok : Ok N D a
  done : ∀ j, j < m → rd ops (fun i => (Φ i).pr) j a σ
  donep : B.has σ (a.eval (.tmp d))
  same : ∀ t, ((ops.toList.take m).all fun o => o.dst != some t) = true → a.eval (.tmp t) = a0.eval (.tmp t)

theorem Mid3.half {m p d N : Nat} {D : List Deferred} {W : List Nat} {B : Pr} {ops : Array Oper} {Φ : Nat → Ty} {a0 : Act} {σ0 : GW} {a : Act} {σ : GW} (h : Mid3 p d N D W B ops Φ a0 σ0 (fun j => decide (j < m)) a σ) (hpm : p < m) (hp : dstOf ops p = some d) (hΦ : ∀ e v, (Φ p).has e v) : Half3 m d N D W B ops Φ a0 σ0 a σ := by
  refine ⟨h.stp, h.ok, fun j hj => ?_, h.donep (by simpa using hpm), fun t ht => h.same t fun j hj => ?_⟩
  · by_cases hjp : j = p
    · rw [hjp]; unfold rd; rw [hp]; exact hΦ _ _
    · exact h.done j (by simpa using hj) hjp
  · by_cases hjm : j < m
    · obtain ⟨o, ho, hd⟩ := Option.bind_eq_some_iff.1 hj
      have := (List.all_eq_true.1 ht) o (List.mem_of_getElem? (i := j) (by rw [List.getElem?_take, if_pos hjm]; exact ho))
      simp [hd] at this
    · simpa using hjm

theorem reg3 {N : Nat} {D : List Deferred} {ops : Array Oper} {id : Nat} {draw : Bool} {Q : Exit → Act → World → Prop} {a : Act} {σ : GW} (hP : P.follows .mixedOrders = true) (m p d : Nat) (W : List Nat) (h1 : 1 ∉ W) (B : Pr) (Φ : Nat → Ty) (ok : Ok N D a) (hF : formB N ops = true) (hm : m ≤ ops.size) (hB : (!draw || forcedB m ops.toList) = true)
    (hpm : p < m) (hp : dstOf ops p = some d) (hΦ : ∀ e v, (Φ p).has e v) (hpg : (ops.toList[p]?).all (fun o => o.guard.isNone) = true) (hob : Obls3 P p N D W B ops Φ a σ 0 (ops.toList.take m))
    (hQ : ∀ a' σ', Half3 m d N D W B ops Φ a σ a' σ' → wpList P ops Q (ops.toList.drop m) a' σ'.w) : (Code.region id ops draw).wp P Q a σ.w := by
  have hF' := Form.of_B hF
  have hpg' : ∀ o, ops[p]? = some o → o.guard = none := fun o ho => by
    rw [show ops.toList[p]? = some o by simpa using ho] at hpg
    simpa using hpg
  have step : ∀ σ0, Stp 0 σ σ0 → ∀ (i : Nat) o (L : Nat → Bool) a' σ' (K : Act → World → Prop), ops[i]? = some o → i < m → Mid3 p d N D W B ops Φ a σ0 L a' σ' → L i = false → (∀ e ∈ o.after, Region.binds .any e = true → L e.on = true) →
      (∀ (j : Nat) oj, ops[j]? = some oj → L j = true → ∀ e ∈ oj.after, Region.binds .any e = true → L e.on = true) → (∀ a' σ', Mid3 p d N D W B ops Φ a σ0 (fun j => L j || j == i) a' σ' → K a' σ'.w) → wpOp P ops Q i K a' σ'.w :=
    fun σ0 hs i o L a' σ' K ho him hmid hL hall hcl hK => Mid3.op hF' h1 hp hΦ hpg' hmid ho hL
      (by simpa using Obls3.get (ops.toList.take m) 0 (Obls3.up hs _ _ hob) i o (by rw [List.getElem?_take, if_pos him]; simpa using ho)) hall hcl hK
  have start : ∀ σ0, Mid3 p d N D W B ops Φ a σ0 (fun _ => false) a σ0 := fun σ0 => ⟨StpL.refl _ _, fun _ => Stp.refl _ _, ok, fun _ h => (by cases h), fun h => (by cases h), fun _ _ => rfl⟩
  cases draw with
  | false =>
    refine wp_region ?_
    rw [List.range_eq_range']
    have := half_seq3 (Q := Q) hF' hm (Mid3 p d N D W B ops Φ a σ) (step σ (Stp.refl _ _)) (fun a' σ' h => ?_) m 0 a σ (by simp) (by have := start σ; simpa using this)
    · rwa [show m + (ops.size - m) = ops.size by omega] at this
    · have := wpOps_eq_wpList (P := P) (ops := ops) (Q := Q) (ops.toList.drop m) m (fun j => by rw [List.getElem?_drop]; simp)
      rw [show (ops.toList.drop m).length = ops.size - m by simp] at this
      rw [this]
      exact hQ a' σ' (h.half hpm hp hΦ)
  | true =>
    refine wp_region_any hP ?_
    have hd := Stp.drew σ
    refine half_any3 hF' hm (by simpa using hB) (Mid3 p d N D W B ops Φ a σ.drew) (step σ.drew hd) (fun a' σ' h => ?_) _ _ a σ.drew (by simp) (Nat.le_trans List.countP_le_length (by simp)) ?_ ?_ ?_
    · have h2 := h.half hpm hp hΦ
      exact hQ a' σ' ⟨hd.toL0.trans h2.stp, h2.ok, h2.done, h2.donep, h2.same⟩
    · intro j hj _; simp [hj]
    · intro j oj hj h
      have : j < ops.size := (Array.getElem?_eq_some_iff.1 hj).1
      simp [this] at h
    · have e : (fun j => decide (j < m) && (Array.replicate ops.size false).getD j true) = fun _ => false := by
        funext j; by_cases hj : j < ops.size
        · simp [hj]
        · simp; omega
      rw [e]; exact start σ.drew
theorem Half3.kt {m d N : Nat} {D : List Deferred} {W : List Nat} {B : Pr} {ops : Array Oper} {Φ : Nat → Ty} {a0 a : Act} {σ0 σ : GW} {T : Ty} {t : Nat} (h : Half3 m d N D W B ops Φ a0 σ0 a σ) (h1 : 1 ∉ W) (k : T.has σ0 (a0.eval (.tmp t))) (ht : ((ops.toList.take m).all fun o => o.dst != some t) = true) : T.has σ (a.eval (.tmp t)) := by
  rw [h.same t ht]; exact T.up (h.stp.le h1) k
end Go.KL

/- A region in whatever order, of which one operation stores into what another one has made. -/
namespace Go.KL
open Go.RowKit
variable {P : Program}

/-! ### The operation that writes is a store into what an operation of the region has made -/
structure Mid4 (p q d N : Nat) (D : List Deferred) (W : List Nat) (A B : Pr) (ops : Array Oper) (Φ : Nat → Ty) (a0 : Act) (σ0 : GW) (L : Nat → Bool) (a : Act) (σ : GW) : Prop where
  stp : StpL W σ0 σ
  stp0 : L p = false → Stp 0 σ0 σ
  ok : Ok N D a
  done : ∀ j, L j = true → rd ops (fun i => (Φ i).pr) j a σ
  doneq : L q = true → L p = false → A.has σ (a.eval (.tmp d))
  donep : L p = true → B.has σ (a.eval (.tmp d))
  same : ∀ t, (∀ j, dstOf ops j = some t → L j = false) → a.eval (.tmp t) = a0.eval (.tmp t)

def OblQ (P : Program) (N : Nat) (D : List Deferred) (A : Pr) (ops : Array Oper) (Φ : Nat → Ty) (a0 : Act) (σ0 : GW) (i : Nat) (o : Oper) : Prop :=
  ∀ a σ, Stp 0 σ0 σ → Ok N D a → (∀ t, free ops i t = true → a.eval (.tmp t) = a0.eval (.tmp t)) → Deps ops (fun i => (Φ i).pr) a σ o.after.toList (Run P ops o a σ A)
def OblS (P : Program) (N d : Nat) (D : List Deferred) (W : List Nat) (A B : Pr) (ops : Array Oper) (Φ : Nat → Ty) (a0 : Act) (σ0 : GW) (i : Nat) (o : Oper) : Prop :=
  ∀ a σ, Stp 0 σ0 σ → Ok N D a → (∀ t, free ops i t = true → a.eval (.tmp t) = a0.eval (.tmp t)) → A.has σ (a.eval (.tmp d)) → Deps ops (fun i => (Φ i).pr) a σ o.after.toList (YldL W P o a σ (fun _ τ => B.has τ (a.eval (.tmp d))))
def Obls4 (P : Program) (p q d N : Nat) (D : List Deferred) (W : List Nat) (A B : Pr) (ops : Array Oper) (Φ : Nat → Ty) (a0 : Act) (σ0 : GW) : Nat → List Oper → Prop
  | _, [] => True
  | i, o :: l => (if i = p then OblS P N d D W A B ops Φ a0 σ0 i o else if i = q then OblQ P N D A ops Φ a0 σ0 i o else Obl3 P N D W ops Φ a0 σ0 i o) ∧ Obls4 P p q d N D W A B ops Φ a0 σ0 (i + 1) l
theorem Obls4.get {p q d N : Nat} {D : List Deferred} {W : List Nat} {A B : Pr} {ops : Array Oper} {Φ : Nat → Ty} {a0 : Act} {σ0 : GW} : ∀ (l : List Oper) (k : Nat), Obls4 P p q d N D W A B ops Φ a0 σ0 k l → ∀ j o, l[j]? = some o →
    (if k + j = p then OblS P N d D W A B ops Φ a0 σ0 (k + j) o else if k + j = q then OblQ P N D A ops Φ a0 σ0 (k + j) o else Obl3 P N D W ops Φ a0 σ0 (k + j) o)
  | [], _, _, j, o, h => by simp at h
  | x :: l, k, h, 0, o, hj => by simp at hj; subst hj; exact h.1
  | x :: l, k, h, j + 1, o, hj => by
    have := Obls4.get l (k + 1) h.2 j o (by simpa using hj)
    rwa [show k + 1 + j = k + (j + 1) by omega] at this
theorem Obls4.up {p q d N : Nat} {D : List Deferred} {W : List Nat} {A B : Pr} {ops : Array Oper} {Φ : Nat → Ty} {a0 : Act} {σ0 σ1 : GW} (hs : Stp 0 σ0 σ1) : ∀ (l : List Oper) (k : Nat), Obls4 P p q d N D W A B ops Φ a0 σ0 k l → Obls4 P p q d N D W A B ops Φ a0 σ1 k l
  | [], _, _ => trivial
  | x :: l, k, h => by
    refine ⟨?_, Obls4.up hs l (k + 1) h.2⟩
    have h1 := h.1
    split at h1
    · rename_i e; rw [if_pos e]; exact fun a σ hs' => h1 a σ (hs.trans hs')
    · rename_i e
      rw [if_neg e]
      split at h1
      · rename_i e; rw [if_pos e]; exact fun a σ hs' => h1 a σ (hs.trans hs')
      · rename_i e; rw [if_neg e]; exact fun a σ hs' => h1 a σ (hs.toL0.trans hs')

theorem Mid4.op {p q d N : Nat} {D : List Deferred} {W : List Nat} {A B : Pr} {ops : Array Oper} {Φ : Nat → Ty} {a0 : Act} {σ0 : GW} {L : Nat → Bool} {a : Act} {σ : GW} {i : Nat} {o : Oper} {Q : Exit → Act → World → Prop} {K : Act → World → Prop}
    (hF : Form N ops) (h1 : 1 ∉ W) (hp : dstOf ops p = none) (hq : dstOf ops q = some d) (hpq : p ≠ q) (hΦ : ∀ e v, (Φ q).has e v) (hpg : ∀ o, ops[p]? = some o → o.guard = none ∧ ∃ e ∈ o.after, Region.binds .any e = true ∧ e.on = q) (hm : Mid4 p q d N D W A B ops Φ a0 σ0 L a σ) (ho : ops[i]? = some o) (hL : L i = false)
    (hpo : ∃ o, ops[p]? = some o)
    (hob : if i = p then OblS P N d D W A B ops Φ a0 σ0 i o else if i = q then OblQ P N D A ops Φ a0 σ0 i o else Obl3 P N D W ops Φ a0 σ0 i o)
    (hall : ∀ e ∈ o.after, Region.binds .any e = true → L e.on = true) (hclosed : ∀ (j : Nat) oj, ops[j]? = some oj → L j = true → ∀ e ∈ oj.after, Region.binds .any e = true → L e.on = true)
    (hK : ∀ a' σ', Mid4 p q d N D W A B ops Φ a0 σ0 (fun j => L j || j == i) a' σ' → K a' σ'.w) : wpOp P ops Q i K a σ.w := by
  have hdi : dstOf ops i = o.dst := by simp [dstOf, ho]
  have hsame : ∀ t, free ops i t = true → a.eval (.tmp t) = a0.eval (.tmp t) := by
    intro t ht
    refine hm.same t fun j hj => ?_
    cases hLj : L j with
    | false => rfl
    | true =>
      exfalso
      unfold dstOf at hj
      obtain ⟨oj, hoj, hd⟩ := Option.bind_eq_some_iff.1 hj
      unfold free at ht
      have := (List.all_eq_true.1 ht) oj (List.mem_of_getElem? hoj)
      simp only [hd, bne_self_eq_false, Bool.false_or, List.any_eq_true, Bool.and_eq_true, beq_iff_eq] at this
      obtain ⟨e, he, hb, hon⟩ := this
      have := hclosed j oj (by simpa using hoj) hLj e (by simpa using he) hb
      rw [hon, hL] at this
      cases this
  have hLpq : L p = true → L q = true := fun h => by
    obtain ⟨op, hop⟩ := hpo
    obtain ⟨_, e, he, hb, hon⟩ := hpg op hop
    rw [← hon]; exact hclosed p op hop h e he hb
  have hdeps : ∀ e ∈ o.after.toList, Region.binds .any e = true → rd ops (fun i => (Φ i).pr) e.on a σ := fun e he hb => hm.done e.on (hall e (by simpa using he) hb)
  have done' : ∀ v (τ : GW), σ.Le τ → ((Φ i).has τ v ∨ dstOf ops i = none) → ∀ j, (L j || j == i) = true → rd ops (fun i => (Φ i).pr) j (a.put o.dst v) τ := by
    intro v τ hle hv j hLj
    by_cases hji : j = i
    · subst hji
      unfold rd
      cases hd : dstOf ops j with
      | none => trivial
      | some d =>
        have : o.dst = some d := by rw [← hdi]; exact hd
        simp only [this]
        rw [eval_put_same hm.ok (hF.lt j d hd)]
        exact hv.resolve_right (by rw [hd]; simp)
    · have hLj' : L j = true := by simpa [hji] using hLj
      have h0 := hm.done j hLj'
      unfold rd at h0 ⊢
      cases hd : dstOf ops j with
      | none => trivial
      | some d =>
        rw [hd] at h0
        simp only at h0 ⊢
        rw [eval_put_ne (fun he => hji (hF.uniq j i d hd (by rw [hdi]; exact he)))]
        exact (Φ j).up hle h0
  have same' : ∀ v t, (∀ j, dstOf ops j = some t → (L j || j == i) = false) → (a.put o.dst v).eval (.tmp t) = a0.eval (.tmp t) := by
    intro v t ht
    have h1 : o.dst ≠ some t := fun he => by
      have := ht i (by rw [hdi]; exact he)
      simp at this
    rw [eval_put_ne h1]
    exact hm.same t fun j hj => by
      have := ht j hj
      simp at this
      exact this.1
  by_cases hip : i = p
  · subst hip
    rw [if_pos rfl] at hob
    obtain ⟨hg, e, he, hb, hon⟩ := hpg o ho
    have hLq : L q = true := by rw [← hon]; exact hall e he hb
    have hy := Deps.elim o.after.toList hdeps (hob a σ (hm.stp0 hL) hm.ok hsame (hm.doneq hLq hL))
    have hdn : o.dst = none := by rw [← hdi]; exact hp
    unfold wpOp
    simp only [ho]
    have hw : Region.wanted o (yielded ops a.tmps) = true := by simp [Region.wanted, hg]
    rw [if_pos hw]
    refine .inl (hy K Q fun v τ hs hr => hK _ τ ⟨hm.stp.trans hs, fun h => (by simp at h), hm.ok.put _ _, done' v τ (hs.le h1) (.inr hp), fun _ h => (by simp at h), fun _ => ?_, same' v⟩)
    rw [hdn]
    exact hr
  · rw [if_neg hip] at hob
    by_cases hiq : i = q
    · subst hiq
      rw [if_pos rfl] at hob
      have hLp : L p = false := by
        cases h : L p with
        | false => rfl
        | true => rw [hLpq h] at hL; cases hL
      have hrun := Deps.elim o.after.toList hdeps (hob a σ (hm.stp0 hLp) hm.ok hsame)
      have next : ∀ v τ, Stp 0 σ τ → A.has τ v → K (a.put o.dst v) τ.w := by
        intro v τ hs hv
        refine hK _ τ ⟨hm.stp.trans hs.toL0, fun _ => (hm.stp0 hLp).trans hs, hm.ok.put _ _, done' v τ hs.le0 (.inl (hΦ _ _)), fun _ _ => ?_, fun h => ?_, same' v⟩
        · have : o.dst = some d := by rw [← hdi]; exact hq
          rw [this, eval_put_same hm.ok (hF.lt i d hq)]
          exact hv
        · rw [hLp] at h
          simp at h; exact absurd h hpq
      unfold wpOp
      simp only [ho]
      by_cases hw : Region.wanted o (yielded ops a.tmps) = true
      · rw [if_pos hw]
        exact .inl (hrun.1 hw K Q next)
      · rw [if_neg hw]
        exact next undef σ (Stp.refl _ _) (hrun.2 (by simpa using hw))
    · rw [if_neg hiq] at hob
      have hrun := Deps.elim o.after.toList hdeps (hob a σ hm.stp hm.ok hsame)
      have hne : o.dst ≠ some d := fun he => hiq (hF.uniq i q d (by rw [hdi]; exact he) hq)
      have next : ∀ v τ, Stp 0 σ τ → (Φ i).has τ v → K (a.put o.dst v) τ.w := by
        intro v τ hs hv
        refine hK _ τ ⟨hm.stp.trans hs.toL0, fun h => ?_, hm.ok.put _ _, done' v τ hs.le0 (.inl hv), fun h h2 => ?_, fun h => ?_, same' v⟩
        · simp at h; exact (hm.stp0 h.1).trans hs
        · have hLq : L q = true := by simpa [Ne.symm hiq] using h
          have hLp : L p = false := by simp at h2; exact h2.1
          rw [eval_put_ne hne]
          exact A.up hs (hm.doneq hLq hLp)
        · have hLp : L p = true := by simpa [Ne.symm hip] using h
          rw [eval_put_ne hne]
          exact B.up hs (hm.donep hLp)
      unfold wpOp
      simp only [ho]
      by_cases hw : Region.wanted o (yielded ops a.tmps) = true
      · rw [if_pos hw]
        exact .inl (hrun.1 hw K Q next)
      · rw [if_neg hw]
        exact next undef σ (Stp.refl _ _) (hrun.2 (by simpa using hw))
end Go.KL

/- Touches that are read. -/
namespace Go.KL
abbrev sgOf (cs : List BCall) : List Int := cs.map (·.1)
structure NumP where
  err : Int
  n : Int
  some : Bool
  rest : List Int
def numR : Int → Bool → List Int → NumP
  | n, b, [] => ⟨0, n, b, []⟩
  | n, b, c :: r => if 48 ≤ c ∧ c ≤ 57 then (if n * 10 + c - 48 = 0 ∨ 99 < n * 10 + c - 48 then ⟨12, 0, true, r⟩ else numR (n * 10 + c - 48) true r) else ⟨0, n, b, c :: r⟩
structure ItP where
  err : Int
  out : List Int
  rest : List Int
def repL (n : Nat) (one : List Int) : List Int := (List.replicate n one).flatten
def rpM (n : Int) (one r : List Int) : ItP := if 400 < n * one.length then ⟨3, [], []⟩ else ⟨0, repL n.toNat one, r⟩
def oneM (sg : List Int) (F : Nat → List Int → List Int → ItP) (deep : Nat) (r : List Int) : ItP :=
  if r.getD 0 0 = 40 then
    (if deep = 6 then ⟨13, [], []⟩ else if (F (deep + 1) [] (r.drop 1)).err ≠ 0 then ⟨(F (deep + 1) [] (r.drop 1)).err, [], []⟩
    else if (F (deep + 1) [] (r.drop 1)).rest = [] then ⟨5, [], []⟩ else if (F (deep + 1) [] (r.drop 1)).out = [] then ⟨4, [], []⟩
    else ⟨0, (F (deep + 1) [] (r.drop 1)).out, (F (deep + 1) [] (r.drop 1)).rest.drop 1⟩)
  else if r.getD 0 0 ∉ sg ∨ r.getD 0 0 < 0 then ⟨4, [], []⟩ else ⟨0, [indexL sg (r.getD 0 0)], r.drop 1⟩
def timesM (x : NumP) : Int := if x.some = true then x.n else 1
def itemM (sg : List Int) (F : Nat → List Int → List Int → ItP) (deep : Nat) (rest : List Int) : ItP :=
  if (numR 0 false rest).err ≠ 0 then ⟨12, [], []⟩ else if (numR 0 false rest).rest = [] then ⟨5, [], []⟩
  else if (oneM sg F deep (numR 0 false rest).rest).err ≠ 0 then ⟨(oneM sg F deep (numR 0 false rest).rest).err, [], []⟩
  else rpM (timesM (numR 0 false rest)) (oneM sg F deep (numR 0 false rest).rest).out (oneM sg F deep (numR 0 false rest).rest).rest
def itemsM (sg : List Int) : Nat → Nat → List Int → List Int → ItP
  | 0, _, out, rest => ⟨0, out, rest⟩
  | f + 1, deep, out, rest =>
    if rest = [] ∨ rest.getD 0 0 = 41 then ⟨0, out, rest⟩
    else if (itemM sg (itemsM sg f) deep rest).err ≠ 0 then ⟨(itemM sg (itemsM sg f) deep rest).err, [], []⟩
    else if 400 < (out ++ (itemM sg (itemsM sg f) deep rest).out).length then ⟨3, [], []⟩
    else itemsM sg f deep (out ++ (itemM sg (itemsM sg f) deep rest).out) (itemM sg (itemsM sg f) deep rest).rest
section
variable {sg : List Int}
/-! What is left is a tail. -/
theorem numR_tail : ∀ (r : List Int) (n : Int) (b : Bool), (numR n b r).err = 0 → ∃ k, k ≤ r.length ∧ (numR n b r).rest = r.drop k
  | [], n, b, _ => ⟨0, Nat.le_refl _, rfl⟩
  | c :: r, n, b, h => by
    rw [numR] at h ⊢
    split
    · split
      · rename_i h1 h2; rw [if_pos h1, if_pos h2] at h; cases h
      · rename_i h1 h2
        rw [if_pos h1, if_neg h2] at h
        obtain ⟨k, h3, h4⟩ := numR_tail r _ _ h
        exact ⟨k + 1, by rw [List.length_cons]; omega, by rw [h4, List.drop_succ_cons]⟩
    · exact ⟨0, Nat.zero_le _, rfl⟩
def Tail (a r : List Int) : Prop := ∃ k, k ≤ r.length ∧ a = r.drop k
theorem Tail.refl (r : List Int) : Tail r r := ⟨0, Nat.zero_le _, rfl⟩
theorem Tail.trans {a b c : List Int} (h : Tail a b) (k : Tail b c) : Tail a c := by
  obtain ⟨i, h1, rfl⟩ := h
  obtain ⟨j, h2, rfl⟩ := k
  rw [List.length_drop] at h1
  exact ⟨j + i, by omega, by rw [List.drop_drop]⟩
theorem Tail.drop1 {a r : List Int} (h : Tail a r) (hne : a ≠ []) : Tail (a.drop 1) r ∧ (a.drop 1).length < r.length := by
  obtain ⟨i, h1, rfl⟩ := h
  have hl : (r.drop i).length ≠ 0 := fun e => hne (List.eq_nil_of_length_eq_zero e)
  rw [List.length_drop] at hl
  rw [List.drop_drop]
  exact ⟨⟨i + 1, by omega, rfl⟩, by rw [List.length_drop]; omega⟩
theorem Tail.eq {a r : List Int} (h : Tail a r) : a = r.drop (r.length - a.length) := by
  obtain ⟨i, h1, rfl⟩ := h
  rw [List.length_drop]
  congr 1; omega
theorem rpM_rest {n : Int} {one r : List Int} (h : (rpM n one r).err = 0) : (rpM n one r).rest = r ∧ (rpM n one r).out = repL n.toNat one ∧ ¬ 400 < n * one.length := by
  unfold rpM at h ⊢
  split at h
  · cases h
  · rename_i h2; rw [if_neg h2]; exact ⟨rfl, rfl, h2⟩
theorem oneM_tail {F : Nat → List Int → List Int → ItP} (hF : ∀ d o r, (F d o r).err = 0 → Tail (F d o r).rest r) {deep : Nat} {r : List Int} (hne : r ≠ []) (h : (oneM sg F deep r).err = 0) : Tail (oneM sg F deep r).rest r ∧ (oneM sg F deep r).rest.length < r.length := by
  obtain ⟨t1, t2⟩ := Tail.drop1 (Tail.refl r) hne
  unfold oneM at h ⊢
  split at h
  · rename_i h3
    rw [if_pos h3]
    split at h
    · cases h
    rename_i h4
    rw [if_neg h4]
    split at h
    · rename_i h5; exact absurd h h5
    rename_i h5
    rw [if_neg h5]
    have h5 := Classical.not_not.1 h5
    split at h
    · cases h
    rename_i h6
    rw [if_neg h6]
    split at h
    · cases h
    rename_i h7
    rw [if_neg h7]
    obtain ⟨t3, t4⟩ := Tail.drop1 (hF _ _ _ h5) h6
    exact ⟨t3.trans t1, by show ((F (deep + 1) [] (r.drop 1)).rest.drop 1).length < _; omega⟩
  · rename_i h3
    rw [if_neg h3]
    split at h
    · cases h
    rename_i h4
    rw [if_neg h4]
    exact ⟨t1, t2⟩
theorem itemM_tail {F : Nat → List Int → List Int → ItP} (hF : ∀ d o r, (F d o r).err = 0 → Tail (F d o r).rest r) {deep : Nat} {rest : List Int} (h : (itemM sg F deep rest).err = 0) : Tail (itemM sg F deep rest).rest rest ∧ (itemM sg F deep rest).rest.length < rest.length := by
  unfold itemM at h ⊢
  split at h
  · cases h
  rename_i h1
  rw [if_neg h1]
  have h1 := Classical.not_not.1 h1
  have ht : Tail (numR 0 false rest).rest rest := numR_tail rest 0 false h1
  split at h
  · cases h
  rename_i h2
  rw [if_neg h2]
  split at h
  · rename_i h3; exact absurd h h3
  rename_i h3
  rw [if_neg h3]
  have h3 := Classical.not_not.1 h3
  rw [(rpM_rest h).1]
  obtain ⟨t1, t2⟩ := oneM_tail hF h2 h3
  refine ⟨t1.trans ht, ?_⟩
  obtain ⟨k, hk, e⟩ := ht
  rw [e] at t2
  rw [List.length_drop] at t2
  rw [e]; omega
theorem itemsM_tail : ∀ (f deep : Nat) (out rest : List Int), (itemsM sg f deep out rest).err = 0 → Tail (itemsM sg f deep out rest).rest rest
  | 0, _, _, rest, _ => Tail.refl _
  | f + 1, deep, out, rest, h => by
    rw [itemsM] at h ⊢
    split at h
    · rename_i h1; rw [if_pos h1]; exact Tail.refl _
    rename_i h1
    rw [if_neg h1]
    split at h
    · rename_i h2; exact absurd h h2
    rename_i h2
    rw [if_neg h2]
    have h2 := Classical.not_not.1 h2
    split at h
    · cases h
    rename_i h3
    rw [if_neg h3]
    exact (itemsM_tail f deep _ _ h).trans (itemM_tail (fun d o r => itemsM_tail f d o r) h2).1
theorem itemM_tl {f deep : Nat} {rest : List Int} (h : (itemM sg (itemsM sg f) deep rest).err = 0) : Tail (itemM sg (itemsM sg f) deep rest).rest rest ∧ (itemM sg (itemsM sg f) deep rest).rest.length < rest.length := itemM_tail (fun d o r => itemsM_tail f d o r) h
/-! Fuel. -/
theorem oneM_congr {F G : Nat → List Int → List Int → ItP} {deep : Nat} {r : List Int} (h : F (deep + 1) [] (r.drop 1) = G (deep + 1) [] (r.drop 1)) : oneM sg F deep r = oneM sg G deep r := by unfold oneM; rw [h]
theorem itemM_congr {F G : Nat → List Int → List Int → ItP} {deep : Nat} {rest : List Int} (h : ∀ r, r.length < rest.length → F (deep + 1) [] r = G (deep + 1) [] r) : itemM sg F deep rest = itemM sg G deep rest := by
  by_cases h1 : (numR 0 false rest).err = 0
  · by_cases h2 : (numR 0 false rest).rest = []
    · unfold itemM; rw [if_neg (by rw [h1]; simp), if_pos h2, if_neg (by rw [h1]; simp), if_pos h2]
    · have ht : Tail (numR 0 false rest).rest rest := numR_tail rest 0 false h1
      have := (Tail.drop1 ht h2).2
      unfold itemM
      rw [oneM_congr (h _ this)]
  · unfold itemM; rw [if_pos h1, if_pos h1]
theorem itemsM_fuel : ∀ (f g deep : Nat) (out rest : List Int), rest.length < f → rest.length < g → itemsM sg f deep out rest = itemsM sg g deep out rest
  | 0, _, _, _, _, h, _ => absurd h (by omega)
  | _, 0, _, _, _, _, h => absurd h (by omega)
  | f + 1, g + 1, deep, out, rest, h1, h2 => by
    have e : itemM sg (itemsM sg f) deep rest = itemM sg (itemsM sg g) deep rest := itemM_congr fun r hr => itemsM_fuel f g (deep + 1) [] r (by omega) (by omega)
    rw [itemsM, itemsM, e]
    split
    · rfl
    split
    · rfl
    rename_i h3
    split
    · rfl
    have := (itemM_tl (f := g) (Classical.not_not.1 h3)).2
    exact itemsM_fuel f g deep _ _ (by omega) (by omega)
def parM (sg : List Int) (deep : Nat) (out rest : List Int) : ItP := itemsM sg (rest.length + 1) deep out rest
def itM (sg : List Int) (deep : Nat) (rest : List Int) : ItP := itemM sg (parM sg) deep rest
theorem itM_fuel (f deep : Nat) (rest : List Int) (h : rest.length ≤ f) : itemM sg (itemsM sg f) deep rest = itM sg deep rest := itemM_congr fun r hr => itemsM_fuel _ _ _ _ _ (by omega) (by omega)
theorem par_stop {deep : Nat} {out rest : List Int} (h : rest = [] ∨ rest.getD 0 0 = 41) : parM sg deep out rest = ⟨0, out, rest⟩ := by unfold parM; rw [itemsM, if_pos h]
theorem itM_tl {deep : Nat} {rest : List Int} (h : (itM sg deep rest).err = 0) : Tail (itM sg deep rest).rest rest ∧ (itM sg deep rest).rest.length < rest.length := itemM_tail (fun _ _ r h => itemsM_tail _ _ _ r h) h
theorem par_go {deep : Nat} {out rest : List Int} (h : ¬ (rest = [] ∨ rest.getD 0 0 = 41)) (h2 : (itM sg deep rest).err = 0) (h3 : ¬ 400 < (out ++ (itM sg deep rest).out).length) : parM sg deep (out ++ (itM sg deep rest).out) (itM sg deep rest).rest = parM sg deep out rest := by
  have ht := (itM_tl h2).2
  have e : parM sg deep out rest = itemsM sg rest.length deep (out ++ (itM sg deep rest).out) (itM sg deep rest).rest := by
    conv => lhs; unfold parM
    rw [itemsM, if_neg h, itM_fuel _ _ _ (Nat.le_refl _), if_neg (by rw [h2]; simp), if_neg h3]
  rw [e]
  exact itemsM_fuel _ _ _ _ _ (by omega) (by omega)
/-! What is told of errors. -/
/-! Step by step. -/
theorem it_rp {deep : Nat} {r s : List Int} {v : Int} {b : Bool} (h : numR 0 false r = ⟨0, v, b, s⟩) (hs : s ≠ []) (h2 : (oneM sg (parM sg) deep s).err = 0) : itM sg deep r = rpM (if b = true then v else 1) (oneM sg (parM sg) deep s).out (oneM sg (parM sg) deep s).rest := by
  unfold itM itemM; rw [h, if_neg (by simp), if_neg hs, if_neg (by rw [h2]; simp)]; rfl
theorem rp_ok {n : Int} {one r : List Int} (h : ¬ 400 < n * one.length) : rpM n one r = ⟨0, repL n.toNat one, r⟩ := by unfold rpM; rw [if_neg h]
theorem repL_succ (k : Nat) (one : List Int) : repL (k + 1) one = repL k one ++ one := by unfold repL; rw [List.replicate_succ', List.flatten_append]; simp
theorem one_sign {F : Nat → List Int → List Int → ItP} {deep : Nat} {s : List Int} (h : ¬ s.getD 0 0 = 40) (h2 : ¬ (s.getD 0 0 ∉ sg ∨ s.getD 0 0 < 0)) : oneM sg F deep s = ⟨0, [indexL sg (s.getD 0 0)], s.drop 1⟩ := by unfold oneM; rw [if_neg h, if_neg h2]
theorem sign_at {cs : List BCall} {c : Int} {k : Nat} (hk : k < cs.length) (hno : ∀ j, j < k → (cs.getD j D0).1 ≠ c) (h : (cs.getD k D0).1 = c) : c ∈ cs.map (·.1) ∧ indexL (cs.map (·.1)) c = k := by
  have e := idxC_yes hk h hno
  exact ⟨indexL_iff.1 (by rw [e]; omega), e⟩
theorem x_go {deep : Nat} {out r o s : List Int} {X : ItP} (hx : parM sg deep out r = X) (hne : ¬ (r = [] ∨ r.getD 0 0 = 41)) (h : itM sg deep r = ⟨0, o, s⟩) (h2 : ¬ 400 < (out ++ o).length) : parM sg deep (out ++ o) s = X := by
  have := par_go (sg := sg) (deep := deep) (out := out) hne (by rw [h]) (by rw [h]; exact h2)
  rw [h] at this
  rw [← hx, ← this]
end
/-! Runes of a text, as a loop over it gives them. -/
abbrev Ty.rune (n : Int) : Ty := .val (.int .i32 n)
theorem Tail.len {a r : List Int} (h : Tail a r) : a.length ≤ r.length := by
  obtain ⟨k, h1, rfl⟩ := h; rw [List.length_drop]; omega
section
variable {sg : List Int} {deep : Nat} {l s : List Int}
end
def ptM (sg : List Int) (s : ByteArray) : ItP :=
  if 4000 < s.size then ⟨3, [], []⟩ else if (parM sg 0 [] (runsL s)).err ≠ 0 then ⟨(parM sg 0 [] (runsL s)).err, [], []⟩
  else if (parM sg 0 [] (runsL s)).rest ≠ [] then ⟨4, [], []⟩ else if (parM sg 0 [] (runsL s)).out = [] then ⟨5, [], []⟩ else ⟨0, (parM sg 0 [] (runsL s)).out, []⟩
section
variable {sg : List Int} {s : ByteArray} {X : ItP}
theorem pt_ok (h : ¬ 4000 < s.size) (hX : X = parM sg 0 [] (runsL s)) (h1 : X.err = 0) (h2 : X.rest = []) (h3 : X.out ≠ []) : ptM sg s = ⟨0, X.out, []⟩ := by unfold ptM; rw [if_neg h, ← hX, if_neg (by rw [h1]; simp), if_neg (by rw [h2]; simp), if_neg h3]
end
end Go.KL

/- Arrays as values: built of two parts, and what stands at a place. -/
namespace Go.KL
open Go.RowKit
variable {P : Program} {d : Option Tmp} {ty : TypeId} {pos : String} {af : Array Edge} {g : Option (Nat × Bool)} {a : Act} {σ : GW}
/-! ### Bells that are told -/
end Go.KL

/- How many rows are like a pattern: as many as there are ways to place the other bells. -/
namespace Go.KL
/-! ### A pattern as one list -/
end Go.KL

/- Of all rows so many are like a pattern as there are ways to place the other bells. -/
namespace Go.KL
section
variable {P : Program} {d : Option Tmp} {ty : TypeId} {pos : String} {af : Array Edge} {g : Option (Nat × Bool)} {a : Act} {σ : GW}
end
theorem asc_runs {l : List UInt8} (h : ∀ b ∈ l, b.toNat < 128) : runsL (bsL l) = l.map fun b => ((b.toNat : Nat) : Int) := by
  have key : ∀ (f p : Nat), l.length ≤ f + p → runsF (bsL l) f p = (l.drop p).map fun b => ((b.toNat : Nat) : Int) := by
    intro f
    induction f with
    | zero => intro p hp; rw [List.drop_eq_nil_of_le (by omega)]; rfl
    | succ f ih =>
      intro p hp
      by_cases hpl : p < l.length
      · have hg := bsL_get hpl
        have hb := h l[p] (List.getElem_mem hpl)
        have hr := run1_lo (s := bsL l) (p := p) (by rw [hg]; exact hb)
        have hm : runM (bsL l) p = ((l[p].toNat : Nat) : Int) := by
          unfold runM
          rw [if_neg (by rw [hr.1, hg]; omega), hr.1, hg]
        rw [runsF_cons (by rw [bsL_size]; exact hpl) (by rw [bsL_size]; omega), hm, hr.2, Nat.add_sub_cancel, ih (p + 1) (by omega), List.drop_eq_getElem_cons hpl, List.map_cons]
      · rw [runsF_end (by rw [bsL_size]; omega), List.drop_eq_nil_of_le (by omega)]; rfl
  have := key (bsL l).size 0 (by rw [bsL_size]; omega)
  unfold runsL
  rw [this, List.drop_zero]
section
variable (raw r : List Int) (star : Nat)
end
section
variable {raw r : List Int} {star : Nat}
end
end Go.KL

/- Bytes of a text, appended; touches, printed. -/
namespace Go.KL
open Go.RowKit Go.Lib
variable {P : Program} {d : Option Tmp} {ty : TypeId} {pos : String} {af : Array Edge} {g : Option (Nat × Bool)} {a : Act} {σ : GW}
/-! Numbers, printed. -/
def decL (n : Nat) : List UInt8 := if n < 10 then [(48 + n).toUInt8] else [(48 + n / 10).toUInt8, (48 + n % 10).toUInt8]
def decB (n : Nat) : ByteArray := bsL (decL n)
/-! Touches, printed. -/
def pcB (cs : List BCall) (n : Nat) (x : Int) : ByteArray := (if 1 < n then decB n else ByteArray.empty) ++ Utf8.encode (cs.getD x.toNat D0).1
def prR (cs : List BCall) : Nat → List Int → ByteArray
  | _, [] => ByteArray.empty
  | n, x :: r => if (r ≠ [] ∧ r.getD 0 0 = x) ∧ n + 1 < 99 then prR cs (n + 1) r else pcB cs (n + 1) x ++ prR cs 0 r
section
variable {cs : List BCall} {s T : ByteArray} {l : List Int} {i n : Nat}
end
def ptE (cs : List BCall) (l : List Int) : Int := if l.length < 1 ∨ 400 < l.length then 1 else if ∀ k, k < l.length → 0 ≤ l.getD k 0 ∧ l.getD k 0 < (cs.length : Int) then 0 else 12
def ptT (cs : List BCall) (l : List Int) : ByteArray := if ptE cs l = 0 then prR cs 0 l else ByteArray.empty
theorem pt_good {cs : List BCall} {l : List Int} (h : ¬ (l.length < 1 ∨ 400 < l.length)) (hv : ∀ k, k < l.length → 0 ≤ l.getD k 0 ∧ l.getD k 0 < (cs.length : Int)) : ptE cs l = 0 ∧ ptT cs l = prR cs 0 l := by
  have : ptE cs l = 0 := by unfold ptE; rw [if_neg h, if_pos hv]
  exact ⟨this, by unfold ptT; rw [if_pos this]⟩
end Go.KL

/- Runes, written as bytes: bits of bytes, rows of three and four new bytes. -/
namespace Go.KL
open Go.RowKit Go.Lib
section
variable {P : Program} {d : Option Tmp} {ty : TypeId} {pos : String} {af : Array Edge} {g : Option (Nat × Bool)} {a : Act} {σ : GW}
end
def bt (e : Int) : UInt8 := e.toNat.toUInt8
theorem enc_1 {c : Int} (h0 : 0 ≤ c) (h1 : c ≤ 127) : (Utf8.encode c).data.toList = [bt c] := by
  have hv : Utf8.valid c = true := by simp [Utf8.valid]; omega
  unfold Utf8.encode
  simp only [hv, if_true]
  rw [if_pos (by omega)]
  rfl
end Go.KL

/- Touches there and back: what is printed of leads is read as these. -/
namespace Go.KL
open Go.RowKit Go.Lib
structure Sgn (cs : List BCall) : Prop where
  lo : ∀ k, k < cs.length → 58 ≤ (cs.getD k D0).1 ∧ (cs.getD k D0).1 < 128
  un : ∀ j k, j < k → k < cs.length → (cs.getD j D0).1 ≠ (cs.getD k D0).1
def sgn (cs : List BCall) (x : Int) : Int := (cs.getD x.toNat D0).1
def pcL (cs : List BCall) (n : Nat) (x : Int) : List UInt8 := (if 1 < n then decL n else []) ++ [bt (sgn cs x)]
def prL (cs : List BCall) : Nat → List Int → List UInt8
  | _, [] => []
  | n, x :: r => if (r ≠ [] ∧ r.getD 0 0 = x) ∧ n + 1 < 99 then prL cs (n + 1) r else pcL cs (n + 1) x ++ prL cs 0 r
def rn (l : List UInt8) : List Int := l.map fun b => ((b.toNat : Nat) : Int)
theorem rn_app (a b : List UInt8) : rn (a ++ b) = rn a ++ rn b := List.map_append
theorem bsL_app (a b : List UInt8) : bsL (a ++ b) = bsL a ++ bsL b := by apply ByteArray.ext; simp [bsL]
theorem bt_toNat {c : Int} (h0 : 0 ≤ c) (h : c < 256) : (((bt c).toNat : Nat) : Int) = c := by
  unfold bt
  have : c.toNat.toUInt8.toNat = c.toNat := by simp; omega
  rw [this, Int.toNat_of_nonneg h0]
section
variable {cs : List BCall}
theorem prR_L (hs : Sgn cs) : ∀ (n : Nat) (l : List Int), (∀ k, k < l.length → 0 ≤ l.getD k 0 ∧ l.getD k 0 < (cs.length : Int)) → prR cs n l = bsL (prL cs n l)
  | _, [], _ => rfl
  | n, x :: r, h => by
    have hr : ∀ k, k < r.length → 0 ≤ r.getD k 0 ∧ r.getD k 0 < (cs.length : Int) := fun k hk => by
      have := h (k + 1) (by simp; omega)
      simpa using this
    have hx := h 0 (by simp)
    simp only [List.getD_cons_zero] at hx
    rw [prR, prL]
    split
    · exact prR_L hs (n + 1) r hr
    · have hl := hs.lo x.toNat (by omega)
      have e : Utf8.encode (cs.getD x.toNat D0).1 = bsL [bt (sgn cs x)] := by
        apply ByteArray.ext
        apply Array.ext'
        rw [enc_1 (by omega) (by omega)]
        rfl
      rw [prR_L hs 0 r hr, bsL_app]
      congr 1
      unfold pcB pcL
      rw [bsL_app, e]
      congr 1
      split
      · rfl
      · rfl
theorem decL_lo (n : Nat) (h : n < 100) : ∀ b ∈ decL n, b.toNat < 128 := by
  have : ∀ m : Fin 100, ∀ b ∈ decL m.val, b.toNat < 128 := by decide +kernel
  exact this ⟨n, h⟩
theorem pcL_lo (hs : Sgn cs) {n : Nat} {x : Int} (hn : n < 100) (hx : 0 ≤ x ∧ x < (cs.length : Int)) : ∀ b ∈ pcL cs n x, b.toNat < 128 := by
  intro b hb
  have hl := hs.lo x.toNat (by omega)
  unfold pcL at hb
  rcases List.mem_append.1 hb with h | h
  · split at h
    · exact decL_lo n hn b h
    · cases h
  · rw [List.mem_singleton.1 h]
    have := bt_toNat (c := sgn cs x) (by unfold sgn; omega) (by unfold sgn; omega)
    have h2 : sgn cs x < 128 := hl.2
    omega
theorem prL_lo (hs : Sgn cs) : ∀ (n : Nat) (l : List Int), n ≤ 98 → (∀ k, k < l.length → 0 ≤ l.getD k 0 ∧ l.getD k 0 < (cs.length : Int)) → ∀ b ∈ prL cs n l, b.toNat < 128
  | _, [], _, _ => fun b hb => by cases hb
  | n, x :: r, hn, h => by
    have hr : ∀ k, k < r.length → 0 ≤ r.getD k 0 ∧ r.getD k 0 < (cs.length : Int) := fun k hk => by
      have := h (k + 1) (by simp; omega)
      simpa using this
    have hx := h 0 (by simp)
    simp only [List.getD_cons_zero] at hx
    intro b hb
    rw [prL] at hb
    split at hb
    · exact prL_lo hs (n + 1) r (by omega) hr b hb
    · rcases List.mem_append.1 hb with h1 | h1
      · exact pcL_lo hs (by omega) hx b h1
      · exact prL_lo hs 0 r (by omega) hr b h1
theorem num_none {c : Int} {r : List Int} (h : ¬ (48 ≤ c ∧ c ≤ 57)) (n : Int) (b : Bool) : numR n b (c :: r) = ⟨0, n, b, c :: r⟩ := by rw [numR, if_neg h]
theorem num_dec {n : Nat} {c : Int} {r : List Int} (h1 : 1 ≤ n) (h : n < 100) (hc : ¬ (48 ≤ c ∧ c ≤ 57)) : numR 0 false (rn (decL n) ++ c :: r) = ⟨0, (n : Int), true, c :: r⟩ := by
  by_cases hn : n < 10
  · have e : rn (decL n) = [48 + (n : Int)] := by
      have : ∀ m : Fin 10, rn (decL m.val) = [48 + (m.val : Int)] := by decide +kernel
      exact this ⟨n, hn⟩
    rw [e, List.singleton_append, numR, if_pos (by omega), if_neg (by omega), num_none hc]
    congr 1; omega
  · have e : rn (decL n) = [48 + ((n / 10 : Nat) : Int), 48 + ((n % 10 : Nat) : Int)] := by
      have : ∀ m : Fin 100, ¬ m.val < 10 → rn (decL m.val) = [48 + ((m.val / 10 : Nat) : Int), 48 + ((m.val % 10 : Nat) : Int)] := by decide +kernel
      exact this ⟨n, h⟩ hn
    rw [e, List.cons_append, numR, if_pos (by omega), if_neg (by omega), List.singleton_append, numR, if_pos (by omega), if_neg (by omega), num_none hc]
    congr 1; omega
theorem sgn_at (hs : Sgn cs) {x : Int} (hx : 0 ≤ x ∧ x < (cs.length : Int)) : sgn cs x ∈ sgOf cs ∧ indexL (sgOf cs) (sgn cs x) = x := by
  have := sign_at (cs := cs) (c := sgn cs x) (k := x.toNat) (by omega) (fun j hj => hs.un j x.toNat hj (by omega)) rfl
  exact ⟨this.1, by rw [this.2]; omega⟩
theorem repL_single (n : Nat) (x : Int) : repL n [x] = List.replicate n x := by
  induction n with
  | zero => rfl
  | succ n ih => rw [repL_succ, ih, List.replicate_succ']
theorem it_piece (hs : Sgn cs) {deep n : Nat} {x : Int} {tl : List Int} (h1 : 1 ≤ n) (h : n < 100) (hx : 0 ≤ x ∧ x < (cs.length : Int)) :
    itM (sgOf cs) deep (rn (pcL cs n x) ++ tl) = ⟨0, List.replicate n x, tl⟩ := by
  have hl := hs.lo x.toNat (by omega)
  have hsg : 58 ≤ sgn cs x ∧ sgn cs x < 128 := hl
  have e : rn (pcL cs n x) ++ tl = rn (if 1 < n then decL n else []) ++ sgn cs x :: tl := by
    unfold pcL
    rw [rn_app, List.append_assoc]
    congr 1
    show (((bt (sgn cs x)).toNat : Nat) : Int) :: tl = _
    rw [bt_toNat (by omega) (by omega)]
  have hs1 := sgn_at hs hx
  have one : oneM (sgOf cs) (parM (sgOf cs)) deep (sgn cs x :: tl) = ⟨0, [x], tl⟩ := by
    have h40 : ¬ (sgn cs x :: tl).getD 0 0 = 40 := by show ¬ sgn cs x = 40; omega
    rw [one_sign h40 (by
      show ¬ (sgn cs x ∉ sgOf cs ∨ sgn cs x < 0)
      rintro (h_ | h_)
      · exact h_ hs1.1
      · omega)]
    show (⟨0, [indexL (sgOf cs) (sgn cs x)], tl⟩ : ItP) = _
    rw [hs1.2]
  rw [e]
  by_cases hn : 1 < n
  · rw [if_pos hn]
    have hnum := num_dec (n := n) (c := sgn cs x) (r := tl) h1 h (by omega)
    rw [it_rp hnum (by simp) (by rw [one]), one, if_pos rfl, rp_ok (by simp; omega), Int.toNat_natCast, repL_single]
  · rw [if_neg hn]
    have hn1 : n = 1 := by omega
    have hnum : numR 0 false (rn [] ++ sgn cs x :: tl) = ⟨0, 0, false, sgn cs x :: tl⟩ := num_none (by omega) 0 false
    rw [it_rp hnum (by simp) (by rw [one]), one, if_neg (by simp), rp_ok (by simp), hn1]
    rfl
theorem rn_piece_ne (hs : Sgn cs) {n : Nat} {x : Int} {tl : List Int} (h : n < 100) (hx : 0 ≤ x ∧ x < (cs.length : Int)) : ¬ (rn (pcL cs n x) ++ tl = [] ∨ (rn (pcL cs n x) ++ tl).getD 0 0 = 41) := by
  have hl := hs.lo x.toNat (by omega)
  have hsg : 58 ≤ sgn cs x ∧ sgn cs x < 128 := hl
  unfold pcL
  split
  · rename_i hn
    have hd : ∀ m : Fin 100, 1 < m.val → rn (decL m.val) ≠ [] ∧ (rn (decL m.val)).getD 0 0 ≠ 41 := by decide +kernel
    have h2 := hd ⟨n, h⟩ hn
    simp only at h2
    obtain ⟨c, r, e⟩ := List.exists_cons_of_ne_nil h2.1
    have h3 := h2.2
    rw [e] at h3
    rw [rn_app, e]
    rintro (h_ | h_)
    · simp at h_
    · exact h3 h_
  · rintro (h_ | h_)
    · simp [rn] at h_
    · have : (((bt (sgn cs x)).toNat : Nat) : Int) = 41 := h_
      rw [bt_toNat (by omega) (by omega)] at this
      omega
theorem par_print (hs : Sgn cs) {deep : Nat} {tl : List Int} : ∀ (l : List Int) (n : Nat) (out : List Int), n ≤ 98 → (0 < n → l ≠ []) → (∀ k, k < l.length → 0 ≤ l.getD k 0 ∧ l.getD k 0 < (cs.length : Int)) → out.length + n + l.length ≤ 400 →
    parM (sgOf cs) deep out (rn (prL cs n l) ++ tl) = parM (sgOf cs) deep (out ++ List.replicate n (l.getD 0 0) ++ l) tl
  | [], n, out, _, hn, _, _ => by
    have : n = 0 := by
      rcases Nat.eq_zero_or_pos n with h | h
      · exact h
      · exact absurd rfl (hn h)
    subst this
    simp [prL, rn]
  | x :: r, n, out, hn, _, h, hlen => by
    have hr : ∀ k, k < r.length → 0 ≤ r.getD k 0 ∧ r.getD k 0 < (cs.length : Int) := fun k hk => by
      have := h (k + 1) (by simp; omega)
      simpa using this
    have hx := h 0 (by simp)
    simp only [List.getD_cons_zero] at hx ⊢
    simp only [List.length_cons] at hlen
    rw [prL]
    split
    · rename_i hc
      rw [par_print hs r (n + 1) out (by omega) (fun _ => hc.1.1) hr (by omega), hc.1.2]
      congr 1
      rw [List.replicate_succ']
      simp
    · have hp := it_piece hs (deep := deep) (n := n + 1) (x := x) (tl := rn (prL cs 0 r) ++ tl) (by omega) (by omega) hx
      have hne := rn_piece_ne hs (n := n + 1) (x := x) (tl := rn (prL cs 0 r) ++ tl) (by omega) hx
      rw [rn_app, List.append_assoc]
      have hg := x_go (deep := deep) (out := out) rfl hne hp (by simp; omega)
      rw [← hg, par_print hs r 0 (out ++ List.replicate (n + 1) x) (by omega) (fun h => absurd h (by omega)) hr (by simp; omega)]
      congr 1
      rw [List.replicate_succ']
      simp
theorem prL_len (n : Nat) (l : List Int) : (prL cs n l).length ≤ 3 * l.length := by
  induction l generalizing n with
  | nil => simp [prL]
  | cons x r ih =>
    rw [prL]
    split
    · have := ih (n + 1); simp; omega
    · have h1 := ih 0
      have h2 : (pcL cs (n + 1) x).length ≤ 3 := by
        unfold pcL
        split
        · have : (decL (n + 1)).length ≤ 2 := by unfold decL; split <;> simp
          simp; omega
        · simp
      simp only [List.length_append, List.length_cons]; omega
theorem there {l : List Int} (hs : Sgn cs) (h1 : 1 ≤ l.length) (h2 : l.length ≤ 60) (hv : ∀ k, k < l.length → 0 ≤ l.getD k 0 ∧ l.getD k 0 < (cs.length : Int)) :
    (ptM (sgOf cs) (ptT cs l)).err = 0 ∧ (ptM (sgOf cs) (ptT cs l)).out = l := by
  have hg := pt_good (cs := cs) (l := l) (by omega) hv
  rw [hg.2, prR_L hs 0 l hv]
  have hL := asc_runs (prL_lo hs 0 l (by omega) hv)
  have hsz : ¬ 4000 < (bsL (prL cs 0 l)).size := by rw [bsL_size]; have := prL_len (cs := cs) 0 l; omega
  have hp : parM (sgOf cs) 0 [] (runsL (bsL (prL cs 0 l))) = ⟨0, l, []⟩ := by
    rw [hL]
    have := par_print hs (deep := 0) (tl := []) l 0 [] (by omega) (fun h => absurd h (by omega)) hv (by simp; omega)
    rw [List.append_nil] at this
    show parM _ _ _ (rn _) = _
    rw [this, par_stop (.inl rfl)]
    simp
  rw [pt_ok hsz hp.symm rfl rfl (by intro e; simp only at e; rw [e] at h1; simp at h1)]
  exact ⟨rfl, rfl⟩
end
end Go.KL

/- A text cut at each byte of a kind. -/
namespace Go.KL
open Go.Lib
end Go.KL
namespace Go.KL
section
variable {P : Program} {d : Option Tmp} {ty : TypeId} {pos : String} {af : Array Edge} {g : Option (Nat × Bool)} {a : Act} {σ : GW}
end
end Go.KL
namespace Go.KL
open Go.Lib
variable {ys T : List ByteArray} {l : List UInt8} {i m : Nat} {c : UInt8} {v : ByteArray}
end Go.KL
namespace Go.KL
variable {ys T : List ByteArray} {L : List UInt8} {i j : Nat} {s : ByteArray}
end Go.KL
namespace Go.KL
variable {ys T : List ByteArray} {L : List UInt8} {i j : Nat} {s : ByteArray}
end Go.KL

/- Contracts of the shelf, as contracts here. -/
namespace Go.KL
variable {P : Program}
def GW.grow (σ : GW) (w' : World) (h : σ.w.heap.size ≤ w'.heap.size) : GW := ⟨w', fun b => if b < σ.w.heap.size then σ.st b else 0, fun b hb => by
  by_cases hlt : b < σ.w.heap.size
  · omega
  · simp [hlt] at hb⟩
end Go.KL

/- Lists compared; a world that a reader leaves behind. -/
namespace Go.KL
open Go.RowKit Go.Sort
def cmpI (x y : Int) : Int := if x < y then -1 else if y < x then 1 else 0
def cmpL : List Int → List Int → Int
  | [], [] => 0
  | [], _ :: _ => -1
  | _ :: _, [] => 1
  | x :: a, y :: b => if cmpI x y ≠ 0 then cmpI x y else cmpL a b
theorem cmpI_zero {x y : Int} : cmpI x y = 0 ↔ x = y := by unfold cmpI; split <;> (try split) <;> omega
theorem cmpI_neg {x y : Int} : cmpI x y < 0 ↔ x < y := by unfold cmpI; split <;> (try split) <;> omega
theorem cmpL_lt : ∀ a b : List Int, decide (cmpL a b < 0) = belowL a b
  | [], [] => rfl
  | [], _ :: _ => by simp [cmpL, belowL]
  | _ :: _, [] => by simp [cmpL, belowL]
  | x :: a, y :: b => by
    rw [cmpL, belowL]
    by_cases h : x = y
    · rw [if_neg (by rw [Classical.not_not]; exact cmpI_zero.2 h), if_pos h]; exact cmpL_lt a b
    · rw [if_pos (fun e => h (cmpI_zero.1 e)), if_neg h, decide_eq_decide]; exact cmpI_neg
theorem cmp_step {a b : List Int} {i : Nat} {z : Int} (h : cmpL (a.drop i) (b.drop i) = z) (h1 : i < a.length) (h2 : i < b.length) (e : ¬ cmpI (a.getD i 0) (b.getD i 0) ≠ 0) : cmpL (a.drop (i + 1)) (b.drop (i + 1)) = z := by
  rw [drop_consD 0 h1, drop_consD 0 h2, cmpL, if_neg e] at h; exact h
theorem cmp_ne {a b : List Int} {i : Nat} {z : Int} (h : cmpL (a.drop i) (b.drop i) = z) (h1 : i < a.length) (h2 : i < b.length) (e : cmpI (a.getD i 0) (b.getD i 0) ≠ 0) : cmpI (a.getD i 0) (b.getD i 0) = z := by
  rw [drop_consD 0 h1, drop_consD 0 h2, cmpL, if_pos e] at h; exact h
theorem cmp_long {a b : List Int} {i : Nat} {z : Int} (h : cmpL (a.drop i) (b.drop i) = z) (h1 : i < a.length) (h2 : b.length ≤ i) : z = 1 := by
  rw [drop_consD 0 h1, List.drop_eq_nil_of_le h2, cmpL] at h; exact h.symm
theorem cmp_short {a b : List Int} {i : Nat} {z : Int} (h : cmpL (a.drop i) (b.drop i) = z) (h1 : a.length ≤ i) (h2 : i < b.length) : z = -1 := by
  rw [drop_consD 0 h2, List.drop_eq_nil_of_le h1, cmpL] at h; exact h.symm
theorem cmp_same {a b : List Int} {i : Nat} {z : Int} (h : cmpL (a.drop i) (b.drop i) = z) (h1 : a.length ≤ i) (h2 : b.length ≤ i) : z = 0 := by
  rw [List.drop_eq_nil_of_le h1, List.drop_eq_nil_of_le h2, cmpL] at h; exact h.symm
end Go.KL

/- slices.SortFunc of a row of lists that is owned, the comparison one that leaves the world as it is. -/
namespace Go.KL
open Go.RowKit Go.Sort Go.Shelf Go.Lib Go.Proofs
variable {P : Program}
def Elt (σ : GW) : Type := { p : Value × List Int // (Ty.ints p.2).has σ p.1 }
instance (σ : GW) : Inhabited (Elt σ) := ⟨⟨(.slice none 0 0, []), nil_has rfl⟩⟩
def Elt.enc {σ : GW} (x : Elt σ) : Value := x.1.1
def Elt.cf {σ : GW} (x y : Elt σ) : Int := cmpL x.1.2 y.1.2
theorem Elt.lt {σ : GW} (x y : Elt σ) : ltOf Elt.cf x y = belowL x.1.2 y.1.2 := cmpL_lt _ _
theorem Elt.swo (σ : GW) : SWO (ltOf (Elt.cf (σ := σ))) where
  irrefl x := by rw [Elt.lt, below_irr]
  trans x y z h1 h2 := by rw [Elt.lt] at *; exact below_trans h1 h2
  ntrans x y z h1 h2 := by
    rw [Elt.lt] at *
    have := leL_trans z.1.2 y.1.2 x.1.2 (by unfold leL; rw [h2]; rfl) (by unfold leL; rw [h1]; rfl)
    unfold leL at this; simpa using this
theorem Elt.one {σ : GW} : OneCell (Elt.enc (σ := σ)) := fun x => by
  obtain ⟨_, _, _, _, e, _⟩ := x.2
  unfold Elt.enc; rw [e]; rfl
theorem heap_sortWorld {α : Type} [Inhabited α] {enc : α → Value} {w : World} {blk off m : Nat} {dk : Array α} {os : Array Obj} {b : Nat} (hb : b < w.heap.size) : (sortWorld enc w blk off m dk os).heap[b]? = if blk = b then (w.heap[b]?).map (onCells (putCells enc off dk)) else w.heap[b]? := by
  unfold sortWorld
  rw [heap_grow_old _ _ (by simpa using hb)]
  unfold putRow mapBlock
  simp only [Array.getElem?_modify, heap_ahead]
theorem size_sortWorld {α : Type} [Inhabited α] {enc : α → Value} {w : World} {blk off m : Nat} {dk : Array α} {os : Array Obj} : w.heap.size ≤ (sortWorld enc w blk off m dk os).heap.size := by
  unfold sortWorld; rw [size_grow, Sort.size_putRow]; simp only [heap_ahead]; omega
theorem m_sortP {d : Option Tmp} {ty : TypeId} {pos : String} {af : Array Edge} {gd : Option (Nat × Bool)} {a : Act} {σ : GW} {f g : FuncId} {fn : Func} {x : Operand} {tys : Array TypeId} {k : Nat} {e : TypeId} {v : Value} {D : List (List Int)} (hk : 2 ≤ k) (h : Own σ k e 1 v D.length (D.map Ty.ints)) (hx : a.eval x = v) (hD : D.length < 4611686018427387904)
    (hf : P.funcs[f]? = some fn) (hn : (fn.name == "runtime.NumGoroutine") = false) (hb : fn.body.isSome = true)
    (hS : ∀ (α : Type) [Inhabited α] (enc : α → Value), OneCell enc → ∀ (cf : α → α → Int), SWO (ltOf cf) → ∀ (blk off cap : Nat) (d : Array α) (w : World), CmpLays1 P g #[] enc cf blk off d.size w → Holds enc w blk off d → blk < w.heap.size → d.size < 4611686018427387904 →
      Calls P f #[.slice (some ⟨blk, off, none⟩) d.size cap, .func (.func g) #[] #[]] w fun e w' => e = .returned (.tuple #[]) ∧ ∃ d' n os, PermIn 0 d.size d d' ∧ SortedIn (ltOf cf) 0 d.size d' ∧ w' = sortWorld enc w blk off n d' os)
    (hN : ∀ (p : Option Addr) (cap : Nat) (fv : Value) (w : World), Calls P f #[.slice p 0 cap, fv] w fun e w' => e = .returned (.tuple #[]) ∧ w' = w)
    (hcmp : ∀ (σ : GW) (u w : Value) (xs ys : List Int), (Ty.ints xs).has σ u → (Ty.ints ys).has σ w → Calls P g #[u, w] σ.w fun e w' => e = .returned (.int .i64 (cmpL xs ys)) ∧ w' = σ.w) :
    YldL [k] P ⟨d, .call ⟨.value (.func f), #[x, .func g], tys⟩, ty, pos, af, gd⟩ a σ (fun _ τ => ∃ S : List (List Int), S.Perm D ∧ S.Pairwise (fun x y => leL x y = true) ∧ Own τ k e 1 v D.length (S.map Ty.ints)) := by
  intro K Q hk'
  have hr : (execOp a.eval ⟨d, .call ⟨.value (.func f), #[x, .func g], tys⟩, ty, pos, af, gd⟩).run P σ.w = .ok (.enter f #[v, .func (.func g) #[] #[]]) σ.w := by
    have hn' : ¬ fn.name = "runtime.NumGoroutine" := by simpa using hn
    have hb' : ¬ fn.body = none := by intro e; simp [e] at hb
    simp only [execOp, resolve, List.map_toArray, List.map_cons, List.map_nil, hx]
    simp [Act.eval, Deferred.ofValue, invoke, callFunc, hf, hn', hb', program, Sem.run, Sem.run_bind]
  unfold Oper.wp
  rw [hr]
  obtain ⟨us, ⟨hl, hc⟩, hl2, hty, hst⟩ := h
  rcases hc with ⟨rfl, hn0⟩ | ⟨gb, cap, cur, rfl, _, hg, hnc, hcm, hcs, htk⟩
  · refine Calls.mono (hN none 0 _ σ.w) ?_
    rintro e' w' ⟨rfl, rfl⟩
    have hD0 : D = [] := List.eq_nil_of_length_eq_zero hn0
    subst hD0
    exact hk' _ σ (StpL.refl _ _) ⟨[], List.Perm.refl _, List.Pairwise.nil, us, ⟨hl, .inl ⟨rfl, rfl⟩⟩, hl2, hty, hst⟩
  · have hgk := hst gb rfl
    have hgs := (Array.getElem?_eq_some_iff.1 hg).1
    rw [Nat.mul_one] at hl hcs htk
    rw [List.length_map] at hl2
    have hel : ∀ i : Fin D.length, (Ty.ints (D[i.1]'i.2)).has σ (us[i.1]'(by omega)) := fun i => hty i.1 _ _ (by simp) (by simp [hl])
    let dd : Array (Elt σ) := (List.ofFn fun i : Fin D.length => (⟨(us[i.1]'(by omega), D[i.1]'i.2), hel i⟩ : Elt σ)).toArray
    have hds : dd.size = D.length := by show (List.ofFn _).length = _; exact List.length_ofFn
    have hdg : ∀ j (hj : j < D.length), dd[j]! = ⟨(us[j]'(by omega), D[j]), hel ⟨j, hj⟩⟩ := fun j hj => by
      rw [getElem!_pos dd j (by omega)]; show (List.ofFn _)[j]'_ = _; exact List.getElem_ofFn _
    have hcu : ∀ j, j < D.length → cur[j]? = us[j]? := fun j hj => by
      rw [← htk, List.getElem?_take, if_pos hj]; simp
    have hH : Holds (Elt.enc (σ := σ)) σ.w gb 0 dd := fun j hj => by
      rw [hds] at hj
      rw [Nat.zero_add]
      constructor
      · rw [hdg j hj]
        simp only [World.cell?, hg]
        rw [hcu j hj]
        simp [Elt.enc, show j < us.length by omega]
      · simp [World.frozen?, hg]
    have hC : CmpLays1 P g #[] (Elt.enc (σ := σ)) Elt.cf gb 0 dd.size σ.w := fun m os dk _ x y => by
      let σ' : GW := ⟨sortWorld Elt.enc σ.w gb 0 m dk os, fun b => if σ.st b = 1 then 1 else 0, fun b hb => by
        refine Nat.lt_of_lt_of_le (σ.lt b ?_) size_sortWorld
        intro e; rw [e] at hb; simp at hb⟩
      have hle : σ.Le σ' := ⟨fun b hb => by show (if σ.st b = 1 then 1 else 0) = 1; rw [if_pos hb], fun b hb => by
        have := σ.lt b (by omega)
        show (sortWorld _ _ _ _ _ _ _).heap[b]? = _
        rw [heap_sortWorld this, if_neg (by rintro rfl; omega)]⟩
      refine Calls.mono (hcmp σ' x.1.1 y.1.1 x.1.2 y.1.2 (Ty.up _ hle x.2) (Ty.up _ hle y.2)) ?_
      rintro e' w' ⟨rfl, rfl⟩
      exact ⟨rfl, 0, #[], by rw [grow_empty]; rfl⟩
    have hcon := hS (Elt σ) Elt.enc Elt.one Elt.cf (Elt.swo σ) gb 0 cap dd σ.w hC hH hgs (by omega)
    rw [hds] at hcon
    refine Calls.mono hcon ?_
    rintro e' w' ⟨rfl, d', n', os, ⟨p1, _, p3⟩, hso, rfl⟩
    have hex : ∀ q : Array (Elt σ), q.size = D.length → (q.extract 0 D.length).toList = q.toList := fun q hq => by
      rw [← hq, Array.extract_size]
    rw [hex d' (by omega), hex dd hds] at p3
    have hmap : dd.toList.map (fun z => z.1.2) = D := by
      apply List.ext_getElem
      · rw [List.length_map]; exact hds
      · intro i h1 h2
        have h3 := hdg i h2
        rw [getElem!_pos dd i (by omega)] at h3
        rw [List.getElem_map, Array.getElem_toList, h3]
    have hlt : ∀ b, b < σ.w.heap.size → b < (sortWorld Elt.enc σ.w gb 0 n' d' os).heap.size := fun b hb => Nat.lt_of_lt_of_le hb size_sortWorld
    let ρ : GW := ⟨sortWorld Elt.enc σ.w gb 0 n' d' os, fun b => σ.st b, fun b hb => hlt b (σ.lt b hb)⟩
    have hne : ∀ b, σ.st b ≠ k → gb ≠ b := fun b hb e => hb (e ▸ hgk)
    have hst2 : StpL [k] σ ρ := ⟨rfl, rfl, rfl, by (refine .inl ?_; show σ.w.drawn ≤ σ.w.drawn + n'; omega), size_sortWorld, fun b hb hm => by
      show (sortWorld _ _ _ _ _ _ _).heap[b]? = _
      rw [heap_sortWorld hb, if_neg (hne b (by simpa using hm))], fun _ _ _ => rfl⟩
    refine hk' _ ρ hst2 ⟨d'.toList.map (fun z => z.1.2), ?_, ?_, ?_⟩
    · have := p3.map (fun z : Elt σ => z.1.2)
      rwa [hmap] at this
    · rw [List.pairwise_map, List.pairwise_iff_getElem]
      intro i j hi hj hij
      have hj' : j < d'.size := by simpa using hj
      have := hso i j (Nat.zero_le _) hij (by omega)
      rw [getElem!_pos d' i (by omega), getElem!_pos d' j hj', Elt.lt] at this
      unfold leL
      simp only [Array.getElem_toList, this, Bool.not_false]
    · have hd's : d'.size = D.length := by omega
      have hg2 : ρ.w.heap[gb]? = some (.cells (putCells Elt.enc 0 d' cur) e (0, 0)) := by
        show (sortWorld _ _ _ _ _ _ _).heap[gb]? = _
        rw [heap_sortWorld hgs, if_pos rfl, hg]; rfl
      have htake : (putCells Elt.enc 0 d' cur).toList.take (D.length * 1) = d'.toList.map Elt.enc := by
        rw [Nat.mul_one]
        apply List.ext_getElem
        · simp [putCells]; omega
        · intro i h1 h2
          simp only [List.length_map, Array.length_toList] at h2
          simp [putCells, h2]
      refine Own.intro (us := d'.toList.map Elt.enc) hg2 hgk hnc hcm (by simp [putCells, hcs]) htake (by simp) fun j T u hT hu => ?_
      rw [List.getElem?_map, List.getElem?_map] at hT
      rw [List.getElem?_map] at hu
      obtain ⟨z, hz⟩ : ∃ z, d'.toList[j]? = some z := by
        cases hq : d'.toList[j]? with
        | none => rw [hq] at hu; simp at hu
        | some z => exact ⟨z, rfl⟩
      rw [hz] at hT hu
      simp at hT hu
      subst hT; subst hu
      exact Ty.up _ (hst2.le (by simp; omega)) z.2
end Go.KL

/- How many rows a chain has. -/
namespace Go.KL
open Go.RowKit
section
variable {n k : Nat} {c : Nat → Lev} {gens : List (List Int)}
theorem noO_some {f : Int → Option (List Int)} : n - noO n f = (List.range n).countP fun (p : Nat) => (f (p : Int)).isSome := by
  unfold noO
  have h := List.length_eq_countP_add_countP (fun (p : Nat) => (f (p : Int)).isNone) (l := List.range n)
  rw [List.length_range] at h
  have e : (List.range n).countP (fun (p : Nat) => decide ¬((f (p : Int)).isNone = true)) = (List.range n).countP fun (p : Nat) => (f (p : Int)).isSome := by
    congr 1
    funext p
    cases f (p : Int) <;> simp
  rw [e] at h
  omega
open Classical in
theorem ChnOf.osz (h : ChnOf n gens c) (hG : ∀ x ∈ gens, RowN n x) (hk : k < n) : n - noO n (c k).orb = osz n (fun y => y ∈ gens) k := by
  rw [noO_some]
  unfold Go.KL.osz
  congr 1
  funext p
  rw [Bool.eq_iff_iff, decide_eq_true_eq]
  constructor
  · intro hp
    obtain ⟨t, ht⟩ := Option.isSome_iff_exists.1 hp
    obtain ⟨_, h2, h3⟩ := (h.wc.lev k hk).pt _ t ht
    exact ⟨t, (h.cl t).1 (h.good.orbs h.wc (by omega) hk ht), h2, h3⟩
  · rintro ⟨r, h1, h2, h3⟩
    have hr := h1.row h.wc.nn hG
    have hm := (h.has hr).2 h1
    have hm2 := (mem_dn h.wc hr k 0 (by omega) (by rw [Nat.zero_add]; exact h2)).1 hm
    rw [Nat.zero_add] at hm2
    obtain ⟨t, ho, _⟩ := (mem_iff hk).1 hm2
    rw [h3] at ho
    rw [ho]; rfl
theorem ChnOf.szS (h : ChnOf n gens c) (hG : ∀ x ∈ gens, RowN n x) (hk : k < n) : szTo n (fun y => y ∈ gens) k * (n - noO n (c k).orb) = szTo n (fun y => y ∈ gens) (k + 1) := by
  rw [szTo, h.osz hG hk]
end
section
variable {P : Program} {d : Option Tmp} {ty : TypeId} {pos : String} {af : Array Edge} {g : Option (Nat × Bool)} {a : Act} {σ : GW} {t kt et : TypeId} {x : Operand} {k n : Nat} {v : Value} {f : Int → Option (List Int)}
theorem ents_len {es : List MapEntry} {clock : Nat} (h : Ents Ty.ints kI σ es clock f) (hfin : ∀ p t, f p = some t → 0 ≤ p ∧ p < n) : es.length = n - noO n f := by
  rw [noO_some, List.countP_eq_length_filter]
  have hkey : ∀ e ∈ es, ∃ i : Int, e.key = kI i ∧ (f i).isSome = true ∧ 0 ≤ i ∧ i < n := fun e he => by
    obtain ⟨i, b, h1, h2, _⟩ := h.key e he
    have := hfin i b h2
    exact ⟨i, h1, by rw [h2]; rfl, this.1, this.2⟩
  have hval : ∀ i : Int, kI i = .int .i64 i := fun _ => rfl
  have hp : (es.map fun e => match e.key with | .int _ i => i | _ => (0 : Int)).Perm (((List.range n).filter fun (p : Nat) => (f (p : Int)).isSome).map fun (p : Nat) => (p : Int)) := by
    refine (List.perm_ext_iff_of_nodup ?_ ?_).2 fun x => ?_
    · refine List.pairwise_map.2 (h.uniq.imp_of_mem fun {a b} ha hb hne e => hne ?_)
      obtain ⟨i, hi, _⟩ := hkey a ha
      obtain ⟨j, hj, _⟩ := hkey b hb
      rw [hi, hj, hval, hval] at e ⊢
      simp only at e
      rw [e]
    · refine List.Pairwise.map (R := fun a b => a ≠ b) _ (fun a b h e => h (by omega)) ?_
      exact List.Pairwise.filter _ List.nodup_range
    · rw [List.mem_map, List.mem_map]
      constructor
      · rintro ⟨e, he, rfl⟩
        obtain ⟨i, hi, h2, h3, h4⟩ := hkey e he
        rw [hi, hval]
        have e1 : ((i.toNat : Nat) : Int) = i := by omega
        exact ⟨i.toNat, List.mem_filter.2 ⟨List.mem_range.2 (by omega), by rw [e1]; exact h2⟩, e1⟩
      · rintro ⟨p, hp, rfl⟩
        obtain ⟨b, hb⟩ := Option.isSome_iff_exists.1 (List.mem_filter.1 hp).2
        obtain ⟨e, he, hk⟩ := h.mem _ b hb
        exact ⟨e, he, by rw [hk, hval]⟩
  have := hp.length_eq
  rwa [List.length_map, List.length_map] at this
theorem y_mlen (ht : P.underlying t = some (.map kt et)) (h : OwnM Ty.ints kI σ k v f) (hx : a.eval x = v) (hfin : ∀ p t, f p = some t → 0 ≤ p ∧ p < n) : Yld P ⟨d, .call ⟨.builtin .len, #[x], #[t]⟩, ty, pos, af, g⟩ a σ (Ty.int ((n - noO n f : Nat) : Int)).pr := by
  obtain ⟨r, es, clock, rfl, r2, r3, r4⟩ := h
  have hl := ents_len r4 hfin
  refine Yld.of_run (v := .int .i64 ((n - noO n f : Nat) : Int)) (run_builtin1 hx (fun cs => ?_)) rfl
  have hl2 : es.size = n - noO n f := by rw [← hl]; simp
  simp [builtin, Builtin.len_, run_underlying ht, goInt, run_getObj r3, Sem.run_bind, hl2]
end
end Go.KL

/- A map of the function's own that is ranged over: which keys have come. -/
namespace Go.KL
open Go.ChangeMaps (setBlock)
variable {P : Program} {β : Type}
structure NxP (f : Int → Option β) (ks : List Int) (b : Bool) (ks' : List Int) : Prop where
  yes : b = true → ∃ p t, ks' = ks ++ [p] ∧ p ∉ ks ∧ f p = some t
  no : b = false → ks' = ks ∧ ∀ p, (f p).isSome = true → p ∈ ks
def RngM (F : β → Ty) (σ : GW) (k : Nat) (v m : Value) (f : Int → Option β) (ks : List Int) : Prop :=
  ∃ r bm es clock since seen c0, v = .pointer (some ⟨r, 0, none⟩) ∧ m = .map (some bm) ∧ σ.st r = k ∧ σ.st bm = k ∧ σ.w.heap[r]? = some (.mapIter (some bm) since seen c0) ∧ σ.w.heap[bm]? = some (.map es clock) ∧
    Ents F kI σ es.toList clock f ∧ (∀ x ∈ es.toList, x.born < since) ∧ since ≤ c0 ∧ since ≤ clock ∧ (∀ e ∈ es.toList, ∀ p, e.key = kI p → (seen.contains e.born = true ↔ p ∈ ks)) ∧
    (∀ p, ks.getLast? = some p → ∃ (s0 : Array Nat) (e : MapEntry), seen = s0.push e.born ∧ e ∈ es.toList ∧ e.key = kI p ∧ c0 = clock)
theorem RngM.keepL {F : β → Ty} {L : List Nat} {k : Nat} {σ τ : GW} {v m : Value} {f : Int → Option β} {ks : List Int} (h : RngM F σ k v m f ks) (hs : StpL L σ τ) (h1 : 1 ∉ L) (hk : k ∉ L) : RngM F τ k v m f ks := by
  obtain ⟨r, bm, es, clock, since, seen, c0, e1, e2, r1, r2, r3, r4, r5, r6⟩ := h
  have hl1 := (Array.getElem?_eq_some_iff.1 r3).1
  have hl2 := (Array.getElem?_eq_some_iff.1 r4).1
  have hq1 : σ.st r ∉ L := by rw [r1]; exact hk
  have hq2 : σ.st bm ∉ L := by rw [r2]; exact hk
  exact ⟨r, bm, es, clock, since, seen, c0, e1, e2, (hs.st r hl1 hq1).trans r1, (hs.st bm hl2 hq2).trans r2, (hs.blk r hl1 hq1).trans r3, (hs.blk bm hl2 hq2).trans r4, r5.up (hs.le h1), r6⟩
theorem RngM.k0 {F : β → Ty} {k : Nat} {σ τ : GW} {v m : Value} {f : Int → Option β} {ks : List Int} (h : RngM F σ k v m f ks) (hs : Stp 0 σ τ) : RngM F τ k v m f ks := h.keepL (L := []) hs.toL0 (by simp) (by simp)
def Pr.rngm (F : β → Ty) (k : Nat) (m : Value) (f : Int → Option β) (ks : List Int) : Pr := ⟨fun σ v => RngM F σ k v m f ks, fun hs h => h.keepL (L := []) hs.toL0 (by simp) (by simp)⟩
theorem RngM.map {F : β → Ty} {σ : GW} {k : Nat} {v m : Value} {f : Int → Option β} {ks : List Int} (h : RngM F σ k v m f ks) : OwnM F kI σ k m f := by
  obtain ⟨r, bm, es, clock, since, seen, c0, e1, e2, r1, r2, r3, r4, r5, r6⟩ := h
  exact ⟨bm, es, clock, e2, r2, r4, r5⟩
variable {d : Option Tmp} {ty : TypeId} {pos : String} {af : Array Edge} {g : Option (Nat × Bool)} {a : Act} {σ : GW} {F : β → Ty} {k : Nat} {v m : Value} {f : Int → Option β} {ks : List Int} {t kt et : TypeId} {x : Operand}
theorem y_rangem (ht : P.underlying t = some (.map kt et)) (h : OwnM F kI σ k m f) (hx : a.eval x = m) : Yld P ⟨d, .range t x, ty, pos, af, g⟩ a σ (Pr.rngm F k m f []) := by
  obtain ⟨bm, es, clock, rfl, r2, r3, r4⟩ := h
  intro K Q hk
  have hr : (execOp a.eval ⟨d, .range t x, ty, pos, af, g⟩).run P σ.w = .ok (.value (.pointer (some ⟨σ.w.heap.size, 0, none⟩))) (σ.w.alloc (.mapIter (some bm) clock #[] clock)) := by
    simp only [execOp, hx]
    simp [Instr.range, Sem.run_bind, run_underlying ht, run_getObj r3, newObj, Sem.run]
  unfold Oper.wp
  rw [hr]
  have hlt := (Array.getElem?_eq_some_iff.1 r3).1
  have hs : Stp 0 σ (σ.mk' k (.mapIter (some bm) clock #[] clock)) := Stp.mk' σ k _
  refine hk _ (σ.mk' k (.mapIter (some bm) clock #[] clock)) hs ⟨σ.w.heap.size, bm, es, clock, clock, #[], clock, rfl, rfl, by show (if _ = _ then k else _) = k; rw [if_pos rfl], ?_, heap_alloc_new σ.w _, ?_, r4.up hs.le0, fun e he => r4.lt e he, Nat.le_refl _, Nat.le_refl _, ?_, ?_⟩
  · exact (hs.st bm hlt (.inl rfl)).trans r2
  · exact (hs.blk bm hlt (.inl rfl)).trans r3
  · intro e _ p _; simp
  · intro p hp; simp at hp
def Ty.nxm (b : Bool) : Ty := ⟨fun _ v => (b = true → ∃ x y, v = .tuple #[.bool true, x, y]) ∧ (b = false → v = .tuple #[.bool false]), fun _ h => h⟩
theorem y_ext_m0 {b : Bool} (hx : At (.nxm b) σ a x) : Yld P ⟨d, .extract x 0, ty, pos, af, g⟩ a σ (Ty.bool b).pr := by
  obtain ⟨h1, h2⟩ := hx
  cases b with
  | true =>
    obtain ⟨u, w, e⟩ := h1 rfl
    exact Yld.of_run (v := .bool true) (by simp only [execOp, e]; simp [Instr.extract]) rfl
  | false => exact Yld.of_run (v := .bool false) (by simp only [execOp, h2 rfl]; simp [Instr.extract]) rfl
theorem pair_eq {α : Type} {R : α → α → Prop} : ∀ {l : List α}, l.Pairwise R → ∀ {x y : α}, x ∈ l → y ∈ l → ¬ R x y → ¬ R y x → x = y
  | [], _, _, _, hx, _, _, _ => by simp at hx
  | z :: l, h, x, y, hx, hy, h1, h2 => by
    rw [List.pairwise_cons] at h
    rcases List.mem_cons.1 hx with rfl | hx'
    · rcases List.mem_cons.1 hy with rfl | hy'
      · rfl
      · exact absurd (h.1 _ hy') h1
    · rcases List.mem_cons.1 hy with rfl | hy'
      · exact absurd (h.1 _ hx') h2
      · exact pair_eq h.2 hx' hy' h1 h2
theorem m_nextm (hk : 2 ≤ k) (h : RngM F σ k v m f ks) (hx : a.eval x = v) :
    YldM k P ⟨d, .next x false, ty, pos, af, g⟩ a σ (fun u τ => ∃ (b : Bool) (ks' : List Int), NxP f ks b ks' ∧ (Ty.nxm b).has τ u ∧ RngM F τ k v m f ks') := by
  obtain ⟨r, bm, es, clock, since, seen, c0, rfl, e2, r1, r2, r3, r4, r5, r6, r7, r7c, r8, r9⟩ := h
  have hg := (Array.getElem?_eq_some_iff.1 r3).1
  intro K Q hK
  have hrun := run_next_at (P := P) σ.w (ty := ty) r bm since c0 seen es clock r3 r4 r6 r7
  rcases hrun with ⟨h0, hrun⟩ | ⟨e, he, w1, hw1, hrun⟩
  · have hr : (execOp a.eval ⟨d, .next x false, ty, pos, af, g⟩).run P σ.w = .ok (.value (.tuple #[.bool false])) σ.w := by
      simp only [execOp, hx]
      simp [Sem.run_bind, hrun]
    unfold Oper.wp
    rw [hr]
    refine hK _ σ ⟨rfl, rfl, rfl, Dr.refl _, Nat.le_refl _, fun _ _ _ => rfl, fun _ _ _ => rfl⟩ ⟨false, ks, ⟨by simp, fun _ => ⟨rfl, fun p hp => ?_⟩⟩, ⟨by simp, fun _ => rfl⟩, r, bm, es, clock, since, seen, c0, rfl, e2, r1, r2, r3, r4, r5, r6, r7, r7c, r8, r9⟩
    obtain ⟨t, ht⟩ := Option.isSome_iff_exists.1 hp
    obtain ⟨e, he, hke⟩ := r5.mem p t ht
    refine (r8 e he p hke).1 ?_
    cases hc : seen.contains e.born with
    | true => rfl
    | false =>
      exfalso
      have : e ∈ (leftOf es seen) := by unfold leftOf; rw [Array.mem_filter]; exact ⟨by simpa using he, by rw [hc]; rfl⟩
      have hsz := Array.size_pos_of_mem this
      omega
  · obtain ⟨hm, hse⟩ := mem_left he
    obtain ⟨p, t, hp, hft, _⟩ := r5.key e hm
    have hlt := (Array.getElem?_eq_some_iff.1 r4).1
    have hne : r ≠ bm := by rintro rfl; rw [r3] at r4; simp at r4
    have hpk : p ∉ ks := fun h_ => by have h2_ := (r8 e hm p hp).2 h_; rw [hse] at h2_; exact Bool.noConfusion h2_
    have hr : (execOp a.eval ⟨d, .next x false, ty, pos, af, g⟩).run P σ.w = .ok (.value (.tuple #[.bool true, e.key, e.val])) (setBlock w1 r (.mapIter (some bm) since (seen.push e.born) clock)) := by
      simp only [execOp, hx]
      simp [Sem.run_bind, hrun]
    unfold Oper.wp
    rw [hr]
    have hw : w1.os = σ.w.os ∧ w1.tape = σ.w.tape ∧ w1.output = σ.w.output ∧ σ.w.drawn ≤ w1.drawn ∧ w1.heap = σ.w.heap := by rcases hw1 with rfl | rfl <;> exact ⟨rfl, rfl, rfl, by simp, rfl⟩
    obtain ⟨w2, w3, w4, w5, w6⟩ := hw
    let τ : GW := ⟨setBlock w1 r (.mapIter (some bm) since (seen.push e.born) clock), σ.st, fun b hb => by have := σ.lt b hb; show _ < (w1.heap.setIfInBounds _ _).size; rw [w6]; simpa using this⟩
    have hb : ∀ b, b ≠ r → τ.w.heap[b]? = σ.w.heap[b]? := fun b hb => by
      show (w1.heap.setIfInBounds _ _)[b]? = _
      rw [w6, Array.getElem?_setIfInBounds_ne (Ne.symm hb)]
    have hs : Stp k σ τ := ⟨w2, w3, w4, .inl w5, by show _ ≤ (w1.heap.setIfInBounds _ _).size; rw [w6]; simp, fun b _ hm => hb b (by rintro rfl; omega), fun _ _ _ => rfl⟩
    have huq : ∀ e1 ∈ es.toList, ∀ e2 ∈ es.toList, (e1.key = e2.key ∨ e1.born = e2.born) → e1 = e2 := fun e1 h1 e2 h2 h3 => by
      refine pair_eq (R := fun x y => x.key ≠ y.key ∧ x.born < y.born) (r5.uniq.and r5.born) h1 h2 (fun h_ => ?_) (fun h_ => ?_)
      · rcases h3 with h3 | h3
        · exact h_.1 h3
        · have := h_.2; omega
      · rcases h3 with h3 | h3
        · exact h_.1 h3.symm
        · have := h_.2; omega
    refine hK _ τ hs ⟨true, ks ++ [p], ⟨fun _ => ⟨p, t, rfl, hpk, hft⟩, by simp⟩, ⟨fun _ => ⟨_, _, rfl⟩, by simp⟩, r, bm, es, clock, since, seen.push e.born, clock, rfl, e2, r1, r2, ?_, (hb bm hne.symm).trans r4, r5.up (hs.le (by omega)), r6, r7c, r7c, ?_, ?_⟩
    · show (w1.heap.setIfInBounds _ _)[r]? = _
      rw [w6]; simp [hg]
    · intro e' he' p' hp'
      rw [Array.contains_push, Bool.or_eq_true, List.mem_append, r8 e' he' p' hp', List.mem_singleton]
      refine or_congr Iff.rfl ?_
      rw [beq_iff_eq]
      constructor
      · intro h_
        have := huq e' he' e hm (.inr h_)
        subst this
        rw [hp] at hp'
        injection hp' with _ h5
        exact h5.symm
      · rintro rfl
        rw [huq e' he' e hm (.inl (hp'.trans hp.symm))]
    · intro p' hp'
      rw [List.getLast?_append] at hp'
      simp at hp'
      subst hp'
      exact ⟨seen, e, rfl, hm, hp, rfl⟩
theorem y_entry {p : Int} {z : β} (h : RngM F σ k v m f (ks ++ [p])) (hx : a.eval x = v) : Yld P ⟨d, .entry x, ty, pos, af, g⟩ a σ (Ty.tup2 (.int p) (F ((f p).getD z))).pr := by
  obtain ⟨r, bm, es, clock, since, seen, c0, rfl, e2, r1, r2, r3, r4, r5, r6, r7, r7c, r8, r9⟩ := h
  obtain ⟨s0, e, rfl, he, hp, hcl⟩ := r9 p (by simp)
  rw [hcl] at r3
  have hn : (es.toList.map (·.born)).Nodup := List.pairwise_map.2 (r5.born.imp fun h_ => by omega)
  have hrun := run_entry_at (P := P) σ.w r bm since s0 es clock e r3 r4 he hn
  obtain ⟨i, b, h1, h2, h3⟩ := r5.key e he
  rw [hp] at h1
  injection h1 with _ h1
  subst h1
  refine Yld.of_run (v := .tuple #[e.key, e.val]) (by simp only [execOp, hx]; simp [Sem.run_bind, hrun]) ⟨_, _, rfl, by rw [hp]; rfl, by rw [h2]; exact h3⟩
end Go.KL

/- All rows of a chain: made level by level, whatever the order in which a level's points come. -/
namespace Go.KL
open Go.RowKit
section
variable {n k : Nat} {c : Nat → Lev} {gens L N : List (List Int)} {ks : List Int} {p : Int} {t x y : List Int}
structure EltK (n : Nat) (gens : List (List Int)) (c : Nat → Lev) (k : Nat) (L : List (List Int)) : Prop where
  nd : L.Nodup
  mem : ∀ x, x ∈ L ↔ (RowN n x ∧ Fx k x ∧ Mem n c k x)
  len : L.length * szTo n (fun y => y ∈ gens) k = szTo n (fun y => y ∈ gens) n
structure EltI (n : Nat) (c : Nat → Lev) (k : Nat) (m : Nat) (ks : List Int) (N : List (List Int)) : Prop where
  nd : ks.Nodup
  inn : ∀ p ∈ ks, ((c k).orb p).isSome = true
  nn : N.Nodup
  mem : ∀ x, x ∈ N ↔ (RowN n x ∧ Fx k x ∧ x.getD k 0 ∈ ks ∧ Mem n c k x)
  len : N.length = ks.length * m
theorem EltK.start (hw : WC n c) : EltK n gens c n [roundsL n] where
  nd := by simp
  mem x := by
    rw [List.mem_singleton]
    constructor
    · rintro rfl; exact ⟨rounds_rowN hw.nn, Fx.rounds (Nat.le_refl _), mem_top⟩
    · rintro ⟨h1, h2, _⟩; exact h2.all h1
  len := by simp
theorem EltI.start {m : Nat} : EltI n c k m [] [] := ⟨by simp, by simp, by simp, by simp, by simp⟩
theorem EltI.step {m : Nat} (hw : WC n c) (hk : k < n) (hL : EltK n gens c (k + 1) L) (h : EltI n c k m ks N) (hm : m = L.length) (hp : p ∉ ks) (ho : (c k).orb p = some t) : EltI n c k m (ks ++ [p]) (N ++ L.map (byL t)) := by
  obtain ⟨ht, htf, htp⟩ := (hw.lev k hk).pt p t ho
  have hy : ∀ y ∈ L, RowN n (byL t y) ∧ Fx k (byL t y) ∧ (byL t y).getD k 0 = p ∧ Mem n c k (byL t y) := fun y hy => by
    obtain ⟨h1, h2, h3⟩ := (hL.mem y).1 hy
    refine ⟨ht.by h1, Fx.by (by omega) h1 htf (h2.le (by omega)), ?_, mem_mul hw hk ho h1 h2 h3⟩
    rw [by_at h1 hk, h2 k (by omega), Int.toNat_natCast, htp]
  refine ⟨?_, ?_, ?_, fun x => ?_, ?_⟩
  · rw [List.nodup_append]
    exact ⟨h.nd, by simp, fun a ha b hb => by rw [List.mem_singleton.1 hb]; rintro rfl; exact hp ha⟩
  · intro q hq
    rcases List.mem_append.1 hq with hq | hq
    · exact h.inn q hq
    · rw [List.mem_singleton.1 hq, ho]; rfl
  · rw [List.nodup_append]
    refine ⟨h.nn, ?_, fun a ha b hb => ?_⟩
    · refine List.pairwise_map.2 (hL.nd.imp_of_mem fun {a b} ha hb hne e => hne ?_)
      have h1 := fore_row ((hL.mem a).1 ha).1 ht
      rw [e, fore_row ((hL.mem b).1 hb).1 ht] at h1
      exact h1.symm
    · rintro rfl
      obtain ⟨y, hyL, rfl⟩ := List.mem_map.1 hb
      have h1 := ((h.mem _).1 ha).2.2.1
      rw [(hy y hyL).2.2.1] at h1
      exact hp h1
  · rw [List.mem_append, h.mem, List.mem_append, List.mem_singleton]
    constructor
    · rintro (⟨h1, h2, h3, h4⟩ | hx)
      · exact ⟨h1, h2, .inl h3, h4⟩
      · obtain ⟨y, hyL, rfl⟩ := List.mem_map.1 hx
        obtain ⟨h1, h2, h3, h4⟩ := hy y hyL
        exact ⟨h1, h2, .inr h3, h4⟩
    · rintro ⟨h1, h2, h3 | h3, h4⟩
      · exact .inl ⟨h1, h2, h3, h4⟩
      · refine .inr (List.mem_map.2 ⟨byL (undoL t) x, ?_, back_row h1 ht⟩)
        obtain ⟨t', ho', hm'⟩ := (mem_iff hk).1 h4
        rw [h3, ho] at ho'
        injection ho' with e
        subst e
        obtain ⟨r1, r2⟩ := rest_row hk h1 h2 ht htf (by rw [htp, h3])
        exact (hL.mem _).2 ⟨r1, r2, hm'⟩
  · rw [List.length_append, List.length_map, h.len, List.length_append, List.length_singleton, Nat.add_mul, hm]; omega
theorem EltI.few {m : Nat} (hw : WC n c) (hk : k < n) (h : EltI n c k m ks N) : ks.length + noO n (c k).orb ≤ n :=
  keys_len h.nd h.inn fun p t ht => by
    obtain ⟨h1, _, h3⟩ := (hw.lev k hk).pt p t ht
    have := h1.at hk
    rw [h3] at this; exact this
theorem nd_sub {α : Type} : ∀ {a b : List α}, a.Nodup → (∀ x ∈ a, x ∈ b) → a.length ≤ b.length
  | [], _, _, _ => Nat.zero_le _
  | x :: a, b, h, hs => by
    rw [List.nodup_cons] at h
    obtain ⟨b1, b2, rfl⟩ := List.append_of_mem (hs x (by simp))
    have h2 := nd_sub (b := b1 ++ b2) h.2 fun y hy => by
      have := hs y (by simp [hy])
      rw [List.mem_append, List.mem_cons] at this
      rcases this with h3 | rfl | h3
      · simp [h3]
      · exact absurd hy h.1
      · simp [h3]
    simp only [List.length_append, List.length_cons] at h2 ⊢
    omega
theorem keys_all {f : Int → Option (List Int)} (hn : ks.Nodup) (hb : ∀ p, (f p).isSome = true → p ∈ ks) : n - noO n f ≤ ks.length := by
  rw [noO_some, List.countP_eq_length_filter]
  have h := nd_sub (a := ((List.range n).filter fun (p : Nat) => (f (p : Int)).isSome).map fun (p : Nat) => (p : Int)) (b := ks) ?_ ?_
  · rw [List.length_map] at h; exact h
  · refine List.Pairwise.map (R := fun a b => a ≠ b) _ (fun a b h e => h (by omega)) ?_
    exact List.Pairwise.filter _ List.nodup_range
  · intro x hx
    obtain ⟨q, hq, rfl⟩ := List.mem_map.1 hx
    exact hb _ (List.mem_filter.1 hq).2
theorem EltI.done (hc : ChnOf n gens c) (hG : ∀ x ∈ gens, RowN n x) (hk : k < n) (hL : EltK n gens c (k + 1) L) {m : Nat} (h : EltI n c k m ks N) (hm : m = L.length) (hall : ∀ p, ((c k).orb p).isSome = true → p ∈ ks) : EltK n gens c k N where
  nd := h.nn
  mem x := by
    rw [h.mem]
    constructor
    · rintro ⟨h1, h2, _, h4⟩; exact ⟨h1, h2, h4⟩
    · rintro ⟨h1, h2, h4⟩
      obtain ⟨t', ho', _⟩ := (mem_iff hk).1 h4
      exact ⟨h1, h2, hall _ (by rw [ho']; rfl), h4⟩
  len := by
    have h1 := h.few hc.wc hk
    have h2 := keys_all (n := n) h.nd hall
    have h3 : ks.length = n - noO n (c k).orb := by omega
    have h4 := hc.szS hG hk
    have h5 := hL.len
    rw [h.len, h3, hm, Nat.mul_assoc, Nat.mul_comm (n - _), Nat.mul_assoc, h4, h5]
theorem EltK.few (hc : ChnOf n gens c) (h : EltK n gens c k L) (hk : k ≤ n) (hs : szTo n (fun y => y ∈ gens) n ≤ 5040) : L.length ≤ 5040 := by
  have h1 := h.len
  have h2 := szTo_pos (n := n) (S := fun y => y ∈ gens) hc.wc.nn k hk
  have h3 : L.length * 1 ≤ L.length * szTo n (fun y => y ∈ gens) k := Nat.mul_le_mul_left _ h2
  omega
structure EltsOk (n : Nat) (gens : List (List Int)) (E : List (List Int)) : Prop where
  nd : E.Nodup
  srt : E.Pairwise fun x y => leL x y = true
  mem : ∀ x, x ∈ E ↔ Cl n (fun y => y ∈ gens) x
  len : E.length = szTo n (fun y => y ∈ gens) n
theorem EltK.sorted (hc : ChnOf n gens c) (hG : ∀ x ∈ gens, RowN n x) (h : EltK n gens c 0 L) {S : List (List Int)} (hp : S.Perm L) (hs : S.Pairwise fun x y => leL x y = true) : EltsOk n gens S where
  nd := hp.nodup_iff.2 h.nd
  srt := hs
  mem x := by
    rw [hp.mem_iff, h.mem]
    constructor
    · rintro ⟨h1, _, h3⟩; exact (hc.has h1).1 h3
    · intro hx
      have h1 := hx.row hc.wc.nn hG
      exact ⟨h1, fun i hi => by omega, (hc.has h1).2 hx⟩
  len := by
    have := h.len
    rw [szTo] at this
    rw [hp.length_eq]; omega
noncomputable def eltE (n : Nat) (gens : List (List Int)) : Int := if szTo n (fun y => y ∈ gens) n ≤ 5040 then 0 else 3
structure EltsP (n : Nat) (gens : List (List Int)) (E : List (List Int)) : Prop where
  ok : szTo n (fun y => y ∈ gens) n ≤ 5040 → EltsOk n gens E
  no : ¬ szTo n (fun y => y ∈ gens) n ≤ 5040 → E = []
end
section
variable {σ : GW}
theorem Own.retag {k k' : Nat} {e : TypeId} {c n : Nat} {v : Value} {ts : List Ty} (h : Own σ k e c v n ts) (hk : 2 ≤ k) (_hk' : 2 ≤ k') : ∃ τ : GW, τ.w = σ.w ∧ Stp k σ τ ∧ Own τ k' e c v n ts := by
  refine ⟨⟨σ.w, fun b => if σ.st b = k then k' else σ.st b, fun b hb => σ.lt b (fun e0 => ?_)⟩, rfl, ⟨rfl, rfl, rfl, Dr.refl _, Nat.le_refl _, fun _ _ _ => rfl, fun b hb hm => ?_⟩, ?_⟩
  · simp only [e0] at hb
    rw [if_neg (by omega)] at hb
    exact hb rfl
  · rcases hm with h1 | h1
    · omega
    · show (if σ.st b = k then k' else σ.st b) = _
      rw [if_neg h1]
  · obtain ⟨us, r1, r2, r3, r4⟩ := h
    have hle : σ.Le ⟨σ.w, fun b => if σ.st b = k then k' else σ.st b, fun b hb => σ.lt b (fun e0 => by simp only [e0] at hb; rw [if_neg (by omega)] at hb; exact hb rfl)⟩ := ⟨fun b hb => by show (if σ.st b = k then k' else σ.st b) = _; rw [if_neg (by omega)]; exact hb, fun _ _ => rfl⟩
    exact ⟨us, r1, r2, fun j T u hj hu => T.up hle (r3 j T u hj hu), fun g hg => by show (if σ.st g = k then k' else σ.st g) = _; rw [if_pos (r4 g hg)]⟩
end
end Go.KL

/- How many rows there are: the document's product of places counts the closure. -/
namespace Go.KL
open Go.RowKit
open Classical
section
variable {n k : Nat} {S : List Int → Prop} {E : List (List Int)}
end
end Go.KL

/- All rows that two make, by numbers; sets that must be left by the same one. -/
namespace Go.KL
open Go.RowKit
theorem nd_inj {α : Type} {l : List α} {d : α} (h : l.Nodup) {i j : Nat} (hi : i < l.length) (hj : j < l.length) (e : l.getD i d = l.getD j d) : i = j := by
  have hp := List.pairwise_iff_getElem.1 h
  have e1 : l.getD i d = l[i] := by simp [hi]
  have e2 : l.getD j d = l[j] := by simp [hj]
  rw [e1, e2] at e
  rcases Nat.lt_trichotomy i j with h1 | h1 | h1
  · exact absurd e (hp i j hi hj h1)
  · exact h1
  · exact absurd e.symm (hp j i hj hi h1)
def plF (E : List (List Int)) : Nat → Int → Option Int
  | 0 => fun _ => none
  | k + 1 => fun p => if p = ((rankL (E.getD k []) : Nat) : Int) then some (k : Int) else plF E k p
def idL (E : List (List Int)) (r : List Int) : Int := (plF E E.length ((rankL r : Nat) : Int)).getD 0
def actN (E : List (List Int)) (c : List Int) (i : Nat) : Nat := (idL E (byL (E.getD i []) c)).toNat
section
variable {n : Nat} {E gens : List (List Int)} {x y c r : List Int} {i j k : Nat}
theorem plF_at (hE : ∀ x ∈ E, RowN n x) (hnd : E.Nodup) : ∀ k, k ≤ E.length → ∀ j, j < k → plF E k ((rankL (E.getD j []) : Nat) : Int) = some (j : Int)
  | 0, _, j, h => by omega
  | k + 1, hk, j, h => by
    rw [plF]
    by_cases e : ((rankL (E.getD j []) : Nat) : Int) = ((rankL (E.getD k []) : Nat) : Int)
    · simp only [if_pos e]
      have h1 := hE _ (mem_atD [] (show j < E.length by omega))
      have h2 := hE _ (mem_atD [] (show k < E.length by omega))
      have h3 : E.getD j [] = E.getD k [] := rank_eq h1 h2 (by omega)
      have : j = k := nd_inj hnd (by omega) (by omega) h3
      rw [this]
    · simp only [if_neg e]
      exact plF_at hE hnd k (by omega) j (by
        rcases Nat.lt_or_ge j k with h1 | h1
        · exact h1
        · have : j = k := by omega
          subst this; exact absurd rfl e)
theorem EltsOk.rows (hn : 1 ≤ n ∧ n ≤ 12) (hG : ∀ x ∈ gens, RowN n x) (h : EltsOk n gens E) : ∀ x ∈ E, RowN n x := fun x hx => ((h.mem x).1 hx).row hn hG
theorem EltsOk.id (hn : 1 ≤ n ∧ n ≤ 12) (hG : ∀ x ∈ gens, RowN n x) (h : EltsOk n gens E) (hr : Cl n (fun y => y ∈ gens) r) : ∃ j, j < E.length ∧ idL E r = (j : Int) ∧ E.getD j [] = r := by
  obtain ⟨j, hj, e⟩ := List.getElem_of_mem ((h.mem r).2 hr)
  have e1 : E.getD j [] = r := by rw [← e]; simp [hj]
  refine ⟨j, hj, ?_, e1⟩
  unfold idL
  rw [← e1, plF_at (h.rows hn hG) h.nd _ (Nat.le_refl _) j hj]; rfl
theorem EltsOk.cl (h : EltsOk n gens E) (hi : i < E.length) : Cl n (fun y => y ∈ gens) (E.getD i []) := (h.mem _).1 (mem_atD [] hi)
theorem EltsOk.act (hn : 1 ≤ n ∧ n ≤ 12) (hG : ∀ x ∈ gens, RowN n x) (h : EltsOk n gens E) (hc : Cl n (fun y => y ∈ gens) c) (hi : i < E.length) : actN E c i < E.length ∧ idL E (byL (E.getD i []) c) = (actN E c i : Int) ∧ E.getD (actN E c i) [] = byL (E.getD i []) c := by
  obtain ⟨j, hj, e1, e2⟩ := h.id hn hG ((h.cl hi).prod hn hG hc)
  have : actN E c i = j := by unfold actN; rw [e1]; simp
  rw [this]; exact ⟨hj, e1, e2⟩
theorem by_canc {a b : List Int} (ha : RowN n a) (hb : RowN n b) (hc : RowN n c) (e : byL a c = byL b c) : a = b := by
  have h1 : byL (byL a c) (undoL c) = a := by rw [← by_as a hc hc.undo, undo_right hc, byL_rounds_right ha.len]
  have h2 : byL (byL b c) (undoL c) = b := by rw [← by_as b hc hc.undo, undo_right hc, byL_rounds_right hb.len]
  rw [← h1, e, h2]
theorem EltsOk.inj (hn : 1 ≤ n ∧ n ≤ 12) (hG : ∀ x ∈ gens, RowN n x) (h : EltsOk n gens E) (hc : Cl n (fun y => y ∈ gens) c) (hi : i < E.length) (hj : j < E.length) (e : actN E c i = actN E c j) : i = j := by
  have h1 := (h.act hn hG hc hi).2.2
  have h2 := (h.act hn hG hc hj).2.2
  rw [e, h2] at h1
  have hr := h.rows hn hG
  exact nd_inj h.nd hi hj (by_canc (hr _ (mem_atD [] hi)) (hr _ (mem_atD [] hj)) (hc.row hn hG) h1.symm)
end
/-! ### Numbers that are alike -/
structure PermN (N : Nat) (p : Nat → Nat) : Prop where
  lt : ∀ i, i < N → p i < N
  inj : ∀ i j, i < N → j < N → p i = p j → i = j
inductive Con (p : Nat → Nat) (N : Nat) : Nat → Nat → Prop
  | refl (a : Nat) : Con p N a a
  | step {a : Nat} : a < N → Con p N a (p a)
  | symm {a b : Nat} : Con p N a b → Con p N b a
  | trans {a b c : Nat} : Con p N a b → Con p N b c → Con p N a c
def itN (p : Nat → Nat) : Nat → Nat → Nat
  | 0, i => i
  | t + 1, i => p (itN p t i)
structure Lab (p : Nat → Nat) (N : Nat) (l : List Int) : Prop where
  st : ∀ i, i < N → l.getD (p i) 0 = l.getD i 0
  co : ∀ a b, a < N → b < N → l.getD a 0 = l.getD b 0 → Con p N a b
section
variable {p : Nat → Nat} {N i j t k m m' : Nat} {l l' : List Int}
theorem itN_lt (hp : PermN N p) (hi : i < N) : ∀ t, itN p t i < N
  | 0 => hi
  | t + 1 => hp.lt _ (itN_lt hp hi t)
theorem itN_con (hp : PermN N p) (hi : i < N) : ∀ t, Con p N i (itN p t i)
  | 0 => .refl _
  | t + 1 => (itN_con hp hi t).trans (.step (itN_lt hp hi t))
theorem Lab.of (h : Lab p N l) {a b : Nat} (hc : Con p N a b) : l.getD a 0 = l.getD b 0 := by
  induction hc with
  | refl => rfl
  | step ha => exact (h.st _ ha).symm
  | symm _ ih => exact ih.symm
  | trans _ _ h1 h2 => exact h1.trans h2
theorem Lab.iff (h : Lab p N l) (hi : i < N) (hj : j < N) : l.getD i 0 = l.getD j 0 ↔ Con p N i j := ⟨h.co i j hi hj, h.of⟩
structure RG (N m : Nat) (l : List Int) : Prop where
  lo : ∀ j, j < N → 1 ≤ l.getD j 0
  hi : ∀ j, j < N → l.getD j 0 ≤ m
  fst : ∀ v : Nat, 1 ≤ v → v ≤ m → ∃ s, s < N ∧ l.getD s 0 = v ∧ ∀ j, j < s → l.getD j 0 < v
theorem RG.le (h : RG N m l) (h' : RG N m' l') (hk : ∀ i j, i < N → j < N → (l.getD i 0 = l.getD j 0 ↔ l'.getD i 0 = l'.getD j 0)) (i : Nat) (hi : i < N) (ih : ∀ j, j < i → l.getD j 0 = l'.getD j 0) : l.getD i 0 ≤ l'.getD i 0 := by
  refine Classical.byContradiction fun hlt => ?_
  have h1 := h'.lo i hi
  have h2 := h.hi i hi
  have h3 := h.lo i hi
  obtain ⟨v, hv⟩ : ∃ v : Nat, (v : Int) = l'.getD i 0 := ⟨(l'.getD i 0).toNat, by omega⟩
  obtain ⟨s, s1, s2, s3⟩ := h.fst v (by omega) (by omega)
  rcases Nat.lt_trichotomy s i with h4 | h4 | h4
  · have h5 := ih s h4
    have h6 := (hk s i s1 hi).2 (by rw [← h5, s2, hv])
    omega
  · subst h4; omega
  · have := s3 i h4
    omega
theorem RG.eq (h : RG N m l) (h' : RG N m' l') (hk : ∀ i j, i < N → j < N → (l.getD i 0 = l.getD j 0 ↔ l'.getD i 0 = l'.getD j 0)) (i : Nat) (hi : i < N) : l.getD i 0 = l'.getD i 0 := by
  induction i using Nat.strongRecOn with
  | _ i ih =>
    have h1 := h.le h' hk i hi (fun j hj => ih j hj (by omega))
    have h2 := h'.le h (fun a b ha hb => (hk a b ha hb).symm) i hi (fun j hj => (ih j hj (by omega)).symm)
    omega
theorem RG.max (h : RG N m l) (h' : RG N m' l') (he : ∀ i, i < N → l.getD i 0 = l'.getD i 0) : m = m' := by
  rcases Nat.lt_trichotomy m m' with h1 | h1 | h1
  · obtain ⟨s, s1, s2, _⟩ := h'.fst m' (by omega) (Nat.le_refl _)
    have := h.hi s s1
    rw [he s s1, s2] at this; omega
  · exact h1
  · obtain ⟨s, s1, s2, _⟩ := h.fst m (by omega) (Nat.le_refl _)
    have := h'.hi s s1
    rw [← he s s1, s2] at this; omega
end
end Go.KL

/- Sets that must be left by the same one: marked one after the other; joined; put together. -/
namespace Go.KL
section
variable {p : Nat → Nat} {N i j t k m : Nat} {l l0 : List Int}
theorem getD_set_self {l : List Int} {i : Nat} {v : Int} (h : i < l.length) : (l.set i v).getD i 0 = v := by rw [List.getD_eq_getElem?_getD, List.getElem?_set_self h]; rfl
theorem getD_set_ne {l : List Int} {i j : Nat} {v : Int} (h : i ≠ j) : (l.set i v).getD j 0 = l.getD j 0 := by rw [List.getD_eq_getElem?_getD, List.getElem?_set_ne h, ← List.getD_eq_getElem?_getD]
structure MkI (p : Nat → Nat) (N : Nat) (l : List Int) (i m : Nat) : Prop where
  len : l.length = N
  r1 : ∀ j, j < i → 1 ≤ l.getD j 0
  lo : ∀ j, j < N → 0 ≤ l.getD j 0 ∧ l.getD j 0 ≤ m
  fst : ∀ v : Nat, 1 ≤ v → v ≤ m → ∃ s, s < i ∧ l.getD s 0 = v ∧ ∀ j, j < s → l.getD j 0 < v
  cl : ∀ a, a < N → l.getD a 0 ≠ 0 → l.getD (p a) 0 = l.getD a 0
  pre : ∀ a, a < N → l.getD a 0 ≠ 0 → ∃ b, b < N ∧ p b = a ∧ l.getD b 0 = l.getD a 0
  co : ∀ a b, a < N → b < N → l.getD a 0 ≠ 0 → l.getD a 0 = l.getD b 0 → Con p N a b
  mi : m ≤ i
structure MkP (p : Nat → Nat) (N : Nat) (l0 : List Int) (i m t k : Nat) (l : List Int) : Prop where
  len : l.length = N
  at' : k = itN p t i
  new : ∀ s, s < t → l.getD (itN p s i) 0 = (m : Int) + 1
  was : ∀ s, s < t → l0.getD (itN p s i) 0 = 0
  old : ∀ a, a < N → (∀ s, s < t → itN p s i ≠ a) → l.getD a 0 = l0.getD a 0
  ne : ∀ s u, s < t → u < t → itN p s i = itN p u i → s = u
theorem MkI.start : MkI p N (List.replicate N 0) 0 0 where
  len := by simp
  r1 j h := by omega
  lo j h := by simp [h]
  fst v h1 h2 := by omega
  cl a ha h := by simp [ha] at h
  pre a ha h := by simp [ha] at h
  co a b ha hb h := by simp [ha] at h
  mi := Nat.le_refl _
theorem MkP.start (h : l.length = N) : MkP p N l i m 0 i l := ⟨h, rfl, fun s h => by omega, fun s h => by omega, fun a _ _ => rfl, fun s u h => by omega⟩
theorem MkP.few (hp : PermN N p) (hi : i < N) (h : MkP p N l0 i m t k l) : t ≤ N := by
  have h1 := nodup_len N ((List.range t).map fun s => ((itN p s i : Nat) : Int)) (by
    refine List.pairwise_map.2 ((List.nodup_range (n := t)).imp_of_mem fun {a b} ha hb hne e => hne ?_)
    exact h.ne a b (List.mem_range.1 ha) (List.mem_range.1 hb) (by omega)) (fun x hx => by
    obtain ⟨s, hs, rfl⟩ := List.mem_map.1 hx
    have := itN_lt hp hi s
    omega)
  simpa using h1
theorem MkP.kN (hp : PermN N p) (hi : i < N) (h : MkP p N l0 i m t k l) : k < N := by rw [h.at']; exact itN_lt hp hi t
theorem MkP.fresh (h : MkP p N l0 i m t k l) (hz : l.getD k 0 = 0) : ∀ s, s < t → itN p s i ≠ k := fun s hs e => by
  have := h.new s hs
  rw [e, hz] at this; omega
theorem MkP.step (hp : PermN N p) (hi : i < N) (h : MkP p N l0 i m t k l) (hz : l.getD k 0 = 0) : MkP p N l0 i m (t + 1) (p k) (l.set k ((m : Int) + 1)) where
  len := by rw [List.length_set]; exact h.len
  at' := by rw [itN, ← h.at']
  new s hs := by
    rcases Nat.lt_or_ge s t with h1 | h1
    · rw [getD_set_ne (fun e => h.fresh hz s h1 e.symm)]; exact h.new s h1
    · have : s = t := by omega
      subst this
      rw [← h.at', getD_set_self (by rw [h.len]; exact h.kN hp hi)]
  was s hs := by
    rcases Nat.lt_or_ge s t with h1 | h1
    · exact h.was s h1
    · have : s = t := by omega
      subst this
      rw [← h.at', ← h.old k (h.kN hp hi) (h.fresh hz), hz]
  old a ha hn := by
    rw [getD_set_ne (fun e => hn t (by omega) (by rw [← h.at']; exact e))]
    exact h.old a ha fun s hs => hn s (by omega)
  ne s u hs hu e := by
    rcases Nat.lt_or_ge s t with h1 | h1 <;> rcases Nat.lt_or_ge u t with h2 | h2
    · exact h.ne s u h1 h2 e
    · have : u = t := by omega
      subst this
      exact absurd (e.trans h.at'.symm) (h.fresh hz s h1)
    · have : s = t := by omega
      subst this
      exact absurd (e.symm.trans h.at'.symm) (h.fresh hz u h2)
    · omega
theorem MkP.done (hp : PermN N p) (hi : i < N) (h0 : MkI p N l0 i m) (hz0 : l0.getD i 0 = 0) (h : MkP p N l0 i m t k l) (hk : l.getD k 0 ≠ 0) : MkI p N l (i + 1) (m + 1) := by
  have ht : 0 < t := by
    refine Classical.byContradiction fun hn => ?_
    have e : t = 0 := by omega
    subst e
    have h1 := h.old i hi fun s hs => by omega
    have h2 := h.at'
    rw [itN] at h2
    subst h2
    exact hk (h1.trans hz0)
  have hP : ∀ s, itN p s i < N := itN_lt hp hi
  -- where it comes back to
  have hki : k = i := by
    by_cases hs : ∃ s, s < t ∧ itN p s i = k
    · obtain ⟨s, hs, e⟩ := hs
      cases s with
      | zero => exact e.symm
      | succ s =>
        exfalso
        obtain ⟨u, rfl⟩ : ∃ u, t = u + 1 := ⟨t - 1, by omega⟩
        have h1 := h.at'
        rw [itN] at h1
        rw [itN, h1] at e
        have h2 := h.ne s u (by omega) (by omega) (hp.inj _ _ (hP s) (hP u) e)
        omega
    · exfalso
      have hs' : ∀ s, s < t → itN p s i ≠ k := fun s h1 h2 => hs ⟨s, h1, h2⟩
      have h1 := h.old k (h.kN hp hi) hs'
      obtain ⟨b, hb, e1, e2⟩ := h0.pre k (h.kN hp hi) (by rw [← h1]; exact hk)
      obtain ⟨u, rfl⟩ : ∃ u, t = u + 1 := ⟨t - 1, by omega⟩
      have h2 := h.at'
      rw [itN] at h2
      rw [h2] at e1
      have h3 := hp.inj _ _ hb (hP u) e1
      have h4 := h.was u (by omega)
      rw [← h3, e2, ← h1] at h4
      exact hk h4
  have back : itN p t i = i := by rw [← h.at', hki]
  have cas : ∀ a, a < N → (∃ s, s < t ∧ itN p s i = a ∧ l.getD a 0 = (m : Int) + 1 ∧ l0.getD a 0 = 0) ∨ ((∀ s, s < t → itN p s i ≠ a) ∧ l.getD a 0 = l0.getD a 0) := fun a ha => by
    by_cases hs : ∃ s, s < t ∧ itN p s i = a
    · obtain ⟨s, hs, e⟩ := hs
      exact .inl ⟨s, hs, e, by rw [← e]; exact h.new s hs, by rw [← e]; exact h.was s hs⟩
    · have hs' : ∀ s, s < t → itN p s i ≠ a := fun s h1 h2 => hs ⟨s, h1, h2⟩
      exact .inr ⟨hs', h.old a ha hs'⟩
  have keep : ∀ a, a < N → l0.getD a 0 ≠ 0 → l.getD a 0 = l0.getD a 0 := fun a ha hne => by
    rcases cas a ha with ⟨s, _, _, _, h4⟩ | ⟨_, h2⟩
    · exact absurd h4 hne
    · exact h2
  refine ⟨h.len, fun j hj => ?_, fun j hj => ?_, fun v h1 h2 => ?_, fun a ha hne => ?_, fun a ha hne => ?_, fun a b ha hb hne e => ?_, by have := h0.mi; omega⟩
  · rcases Nat.lt_or_ge j i with h1 | h1
    · have h2 := h0.r1 j h1
      rw [keep j (by omega) (by omega)]; exact h2
    · have : j = i := by omega
      subst this
      have := h.new 0 ht
      rw [itN] at this; omega
  · rcases cas j hj with ⟨_, _, _, h3, _⟩ | ⟨_, h2⟩
    · rw [h3]; omega
    · have := h0.lo j hj
      rw [h2]; omega
  · rcases Nat.lt_or_ge m v with h3 | h3
    · have : v = m + 1 := by omega
      subst this
      refine ⟨i, by omega, by have := h.new 0 ht; rw [itN] at this; rw [this]; omega, fun j hj => ?_⟩
      have h4 := h0.r1 j hj
      have h5 := (h0.lo j (by omega)).2
      rw [keep j (by omega) (by omega)]; omega
    · obtain ⟨s, s1, s2, s3⟩ := h0.fst v h1 h3
      refine ⟨s, by omega, by rw [keep s (by omega) (by omega)]; exact s2, fun j hj => ?_⟩
      have h4 := h0.r1 j (by omega)
      rw [keep j (by omega) (by omega)]; exact s3 j hj
  · rcases cas a ha with ⟨s, h1, h2, h3, h4⟩ | ⟨h1, h2⟩
    · rw [h3]
      rcases Nat.lt_or_ge (s + 1) t with h5 | h5
      · have := h.new (s + 1) h5
        rw [itN, h2] at this; exact this
      · have e : s + 1 = t := by omega
        have := h.new 0 ht
        rw [itN] at this
        have e3 : p (itN p s i) = itN p t i := by rw [← e]; rfl
        rw [← h2, e3, back]; exact this
    · have h3 : l0.getD a 0 ≠ 0 := by rw [← h2]; exact hne
      have h4 := h0.cl a ha h3
      rw [keep (p a) (hp.lt a ha) (by rw [h4]; exact h3), h4, h2]
  · rcases cas a ha with ⟨s, h1, h2, h3, h4⟩ | ⟨h1, h2⟩
    · cases s with
      | zero =>
        obtain ⟨u, rfl⟩ : ∃ u, t = u + 1 := ⟨t - 1, by omega⟩
        have back2 : p (itN p u i) = i := back
        have h2' : i = a := h2
        exact ⟨itN p u i, hP u, by rw [back2, h2'], by rw [h3]; exact h.new u (by omega)⟩
      | succ s =>
        rw [itN] at h2
        exact ⟨itN p s i, hP s, h2, by rw [h3]; exact h.new s (by omega)⟩
    · obtain ⟨b, hb, e1, e2⟩ := h0.pre a ha (by rw [← h2]; exact hne)
      exact ⟨b, hb, e1, by rw [keep b hb (by rw [e2, ← h2]; exact hne), e2, h2]⟩
  · rcases cas a ha with ⟨s, h1, h2, h3, h4⟩ | ⟨h1, h2⟩ <;> rcases cas b hb with ⟨u, g1, g2, g3, g4⟩ | ⟨g1, g2⟩
    · rw [← h2, ← g2]; exact (itN_con hp hi s).symm.trans (itN_con hp hi u)
    · have := (h0.lo b hb).2
      rw [h3, g2] at e; omega
    · have := (h0.lo a ha).2
      rw [h2, g3] at e; omega
    · exact h0.co a b ha hb (by rw [← h2]; exact hne) (by rw [← h2, ← g2]; exact e)
/-! ### The document's labels -/
structure JnI (p : Nat → Nat) (N : Nat) (l : List Int) (i : Nat) : Prop where
  len : l.length = N
  st : ∀ j, j < i → l.getD (p j) 0 = l.getD j 0
  co : ∀ a b, a < N → b < N → l.getD a 0 = l.getD b 0 → Con p N a b
  lo : ∀ j, j < N → 0 ≤ l.getD j 0 ∧ l.getD j 0 < N
def relL (l : List Int) (a b : Int) (j : Nat) : List Int := (l.take j).map (fun z => if z = a then b else z) ++ l.drop j
theorem relL_len {a b : Int} : (relL l a b j).length = l.length := by unfold relL; rw [List.length_append, List.length_map, List.length_take, List.length_drop]; omega
theorem relL_at {a b : Int} (hj : j < l.length) : (relL l a b l.length).getD j 0 = if l.getD j 0 = a then b else l.getD j 0 := by
  unfold relL
  simp [List.getD_eq_getElem?_getD, List.getElem?_map, hj]
theorem JnI.start : JnI p N ((List.range N).map fun (i : Nat) => (i : Int)) 0 where
  len := by simp
  st j h := by omega
  co a b ha hb e := by
    simp [List.getD_eq_getElem?_getD, ha, hb] at e
    have e' : a = b := by omega
    rw [e']; exact .refl _
  lo j h := by simp [List.getD_eq_getElem?_getD, h]
theorem JnI.same (h : JnI p N l i) (he : l.getD (p i) 0 = l.getD i 0) : JnI p N l (i + 1) := ⟨h.len, fun j hj => by
  rcases Nat.lt_or_ge j i with h1 | h1
  · exact h.st j h1
  · have : j = i := by omega
    subst this; exact he, h.co, h.lo⟩
theorem JnI.join (hp : PermN N p) (hi : i < N) (h : JnI p N l i) : JnI p N (relL l (l.getD i 0) (l.getD (p i) 0) l.length) (i + 1) := by
  have hl := h.len
  have hf : ∀ j, j < N → (relL l (l.getD i 0) (l.getD (p i) 0) l.length).getD j 0 = if l.getD j 0 = l.getD i 0 then l.getD (p i) 0 else l.getD j 0 := fun j hj => relL_at (by omega)
  have hc : Con p N i (p i) := .step hi
  refine ⟨by rw [relL_len]; exact hl, fun j hj => ?_, fun a b ha hb e => ?_, fun j hj => ?_⟩
  · have hjN : j < N := by omega
    rw [hf j hjN, hf (p j) (hp.lt j hjN)]
    rcases Nat.lt_or_ge j i with h1 | h1
    · rw [h.st j h1]
    · have : j = i := by omega
      subst this
      rw [if_pos rfl]
      split
      · rfl
      · rfl
  · rw [hf a ha, hf b hb] at e
    have key : ∀ u, u < N → l.getD u 0 = l.getD i 0 → Con p N u i := fun u hu e => h.co u i hu hi e
    have key2 : ∀ u, u < N → l.getD u 0 = l.getD (p i) 0 → Con p N u i := fun u hu e => (h.co u (p i) hu (hp.lt i hi) e).trans hc.symm
    split at e <;> split at e
    · rename_i h1 h2; exact (key a ha h1).trans (key b hb h2).symm
    · rename_i h1 h2; exact (key a ha h1).trans (key2 b hb e.symm).symm
    · rename_i h1 h2; exact (key2 a ha e).trans (key b hb h2).symm
    · exact h.co a b ha hb e
  · rw [hf j hj]
    split
    · exact h.lo _ (hp.lt i hi)
    · exact h.lo j hj
end
end Go.KL

/- Sets put together by labels; circuits counted. -/
namespace Go.KL
def idxs (l : List Int) (c i : Nat) : List Int := ((List.range i).filter fun j => decide (l.getD j 0 = (c : Int) + 1)).map fun (j : Nat) => (j : Int)
def grpTo (l : List Int) (m i : Nat) : List (List Int) := (List.range m).map fun c => idxs l c i
section
variable {p : Nat → Nat} {N i j k m m' c : Nat} {l l' : List Int}
theorem idxs_mem {z : Int} (h : z ∈ idxs l c i) : 0 ≤ z ∧ z < i := by
  obtain ⟨j, hj, rfl⟩ := List.mem_map.1 h
  have := List.mem_range.1 (List.mem_filter.1 hj).1
  omega
theorem idxs_len : (idxs l c i).length ≤ i := by
  unfold idxs
  rw [List.length_map]
  exact Nat.le_trans (List.length_filter_le _ _) (by simp)
theorem grpTo_len : (grpTo l m i).length = m := by simp [grpTo]
theorem grpTo_get (hc : c < m) : (grpTo l m i).getD c [] = idxs l c i := by simp [grpTo, List.getD_eq_getElem?_getD, hc]
theorem grpTo_congr (h : ∀ j, j < i → l.getD j 0 = l'.getD j 0) : grpTo l m i = grpTo l' m i := by
  unfold grpTo idxs
  congr 1
  funext c
  congr 1
  exact List.filter_congr fun j hj => by rw [h j (List.mem_range.1 hj)]
def QsP (p : Nat → Nat) (N : Nat) (Q : List (List Int)) : Prop := ∃ l m, Lab p N l ∧ RG N m l ∧ m ≤ N ∧ Q = grpTo l m N
theorem QsP.eq {Q Q' : List (List Int)} (h : QsP p N Q) (h' : QsP p N Q') : Q = Q' := by
  obtain ⟨l, m, h1, h2, _, rfl⟩ := h
  obtain ⟨l', m', g1, g2, _, rfl⟩ := h'
  have hk : ∀ i j, i < N → j < N → (l.getD i 0 = l.getD j 0 ↔ l'.getD i 0 = l'.getD j 0) := fun i j hi hj => by rw [h1.iff hi hj, g1.iff hi hj]
  have he := h2.eq g2 hk
  rw [h2.max g2 he]
  exact grpTo_congr he
theorem QsP.len {Q : List (List Int)} (h : QsP p N Q) : Q.length ≤ N := by
  obtain ⟨l, m, h1, h2, h3, rfl⟩ := h
  rw [grpTo_len]; exact h3
theorem QsP.mem {Q : List (List Int)} (h : QsP p N Q) (hk : k < Q.length) : (Q.getD k []).length ≤ N ∧ ∀ j, j < (Q.getD k []).length → 0 ≤ (Q.getD k []).getD j 0 ∧ (Q.getD k []).getD j 0 < N := by
  obtain ⟨l, m, h1, h2, h3, rfl⟩ := h
  rw [grpTo_len] at hk
  rw [grpTo_get hk]
  exact ⟨idxs_len, fun j hj => idxs_mem (mem_atD 0 hj)⟩
/-! ### The document's numbers of labels -/
end
end Go.KL

/- Where each set leads; circuits counted. -/
namespace Go.KL
structure ToB (N : Nat) (to : List Int) : Prop where
  len : to.length = N
  bd : ∀ i, i < N → 0 ≤ to.getD i 0 ∧ to.getD i 0 < N
section
variable {N i j k m f : Nat} {to vis l : List Int} {Q : List (List Int)} {v : Nat → Int} {V : Nat → Nat → Int}
theorem ToB.start : ToB N (List.replicate N 0) := ⟨by simp, fun i hi => by simp [hi]; omega⟩
theorem ToB.set {z : Int} (h : ToB N to) (hk : k < N) (hz : 0 ≤ z ∧ z < N) : ToB N (to.set k z) := ⟨by rw [List.length_set]; exact h.len, fun i hi => by
  by_cases e : k = i
  · subst e; rw [getD_set_self (by rw [h.len]; exact hk)]; exact hz
  · rw [getD_set_ne e]; exact h.bd i hi⟩
/-! ### Rounds -/
def visF (to : List Int) : Nat → List Int → Nat → List Int
  | 0, vis, _ => vis
  | f + 1, vis, k => if vis.getD k 0 = 0 then visF to f (vis.set k 1) (to.getD k 0).toNat else vis
def unm (vis : List Int) : Nat := vis.countP fun z => decide (z = 0)
structure VB (N : Nat) (vis : List Int) : Prop where
  len : vis.length = N
  bd : ∀ i, i < N → vis.getD i 0 = 0 ∨ vis.getD i 0 = 1
theorem VB.start : VB N (List.replicate N 0) := ⟨by simp, fun i hi => by simp [hi]⟩
theorem VB.set (h : VB N vis) (hk : k < N) : VB N (vis.set k 1) := ⟨by rw [List.length_set]; exact h.len, fun i hi => by
  by_cases e : k = i
  · subst e; rw [getD_set_self (by rw [h.len]; exact hk)]; exact .inr rfl
  · rw [getD_set_ne e]; exact h.bd i hi⟩
theorem unm_set : ∀ (vis : List Int) (k : Nat), k < vis.length → vis.getD k 0 = 0 → unm (vis.set k 1) + 1 = unm vis
  | [], k, h, _ => by simp at h
  | z :: vis, 0, _, h => by
    have : z = 0 := h
    subst this
    simp [unm]
  | z :: vis, k + 1, h, h2 => by
    have ih := unm_set vis k (by simpa using h) (by simpa using h2)
    unfold unm at ih ⊢
    rw [List.set_cons_succ, List.countP_cons, List.countP_cons]
    omega
theorem unm_le : unm vis ≤ vis.length := List.countP_le_length
structure VisI (to : List Int) (N : Nat) (vis0 : List Int) (i f : Nat) (vis : List Int) (k : Nat) : Prop where
  run : visF to f vis k = visF to (N + 1) vis0 i
  fu : unm vis < f
  vb : VB N vis
  kN : k < N
theorem VisI.start (h : VB N vis) (hi : i < N) : VisI to N vis i (N + 1) vis i := ⟨rfl, by have := unm_le (vis := vis); rw [h.len] at this; omega, h, hi⟩
theorem VisI.step (ht : ToB N to) (h : VisI to N l i f vis k) (hz : vis.getD k 0 = 0) : VisI to N l i (f - 1) (vis.set k 1) (to.getD k 0).toNat := by
  have h1 := unm_set vis k (by rw [h.vb.len]; exact h.kN) hz
  have h2 := h.fu
  have h3 := h.run
  have h4 := ht.bd k h.kN
  rw [show f = (f - 1) + 1 by omega, visF, if_pos hz] at h3
  exact ⟨h3, by omega, h.vb.set h.kN, by omega⟩
theorem VisI.done (h : VisI to N l i f vis k) (hz : vis.getD k 0 ≠ 0) : visF to (N + 1) l i = vis := by
  have h2 := h.fu
  rw [← h.run, show f = (f - 1) + 1 by omega, visF, if_neg hz]
end
end Go.KL

/- Two rows and all that they make: what leads where. -/
namespace Go.KL
open Go.RowKit
def qN (E : List (List Int)) (x y : List Int) (i : Nat) : Nat := (idL E (byL (byL (E.getD i []) x) (undoL y))).toNat
section
variable {n : Nat} {E gens : List (List Int)} {x y c r : List Int} {i j k : Nat}
theorem EltsOk.q (hn : 1 ≤ n ∧ n ≤ 12) (hG : ∀ x ∈ gens, RowN n x) (h : EltsOk n gens E) (hx : Cl n (fun y => y ∈ gens) x) (hy : Cl n (fun y => y ∈ gens) y) (hi : i < E.length) : qN E x y i < E.length ∧ idL E (byL (byL (E.getD i []) x) (undoL y)) = (qN E x y i : Int) ∧ E.getD (qN E x y i) [] = byL (byL (E.getD i []) x) (undoL y) := by
  obtain ⟨j, hj, e1, e2⟩ := h.id hn hG (((h.cl hi).prod hn hG hx).prod hn hG (hy.undo hn hG))
  have : qN E x y i = j := by unfold qN; rw [e1]; simp
  rw [this]; exact ⟨hj, e1, e2⟩
end
/-! ### The document's list of numbers -/
section
variable {N e : Nat} {l : List Int}
end
end Go.KL

/- Extents: of two rows that may be; how their sets are left. -/
namespace Go.KL
open Go.RowKit
theorem lt_of_elts {n : Nat} {gens E : List (List Int)} (h : EltsOk n gens E) : E.Pairwise fun x y => belowL x y = true := by
  have := List.Pairwise.and h.srt h.nd
  exact this.imp fun {a b} h => (leL_cases h.1).resolve_left h.2
theorem EltsOk.uniq {n : Nat} {gens E E' : List (List Int)} (h : EltsOk n gens E) (h' : EltsOk n gens E') : E = E' :=
  strict_one (lt_of_elts h) (lt_of_elts h') fun x => by rw [h.mem, h'.mem]
theorem EltsOk.closed {n most : Nat} {gens E R W : List (List Int)} (h : EltsOk n gens E) (hm : E.length ≤ most) (hC : ClosedP n gens most R W) : ordS R = E := by
  rcases hC with ⟨_, L, h1, h2, h3⟩ | ⟨h1, h2, h3, h4⟩
  · have := nd_sub h1 fun x hx => (h.mem x).2 (h2 x hx)
    omega
  · have hp := ordS_perm R
    have hs : (ordS R).Pairwise fun x y => belowL x y = true := (List.Pairwise.and (ordS_sort R) (hp.nodup_iff.2 h1)).imp fun {a b} h => (leL_cases h.1).resolve_left h.2
    exact strict_one hs (lt_of_elts h) fun x => by rw [hp.mem_iff, h2, h.mem]
structure TwoP (n : Nat) (x y : List Int) : Prop where
  hn : 1 ≤ n ∧ n ≤ 12
  rx : RowN n x
  ry : RowN n y
theorem TwoP.of {x y : List Int} (h : gensMay ((x.length : Nat) : Int) [x, y] = 0) : TwoP x.length x y := by
  obtain ⟨⟨h1, h2, _⟩, h4⟩ := gensMay_ok h
  have a := h4 0 (by simp)
  have b := h4 1 (by simp)
  have a' : IsRow x ∧ ((x.length : Nat) : Int) = x.length := a
  have b' : IsRow y ∧ ((y.length : Nat) : Int) = x.length := b
  exact ⟨by omega, ⟨a'.1, rfl⟩, ⟨b'.1, by omega⟩⟩
theorem TwoP.may {n : Nat} {x y : List Int} (h : TwoP n x y) : gensMay (n : Int) [x, y] = 0 := gensMay_of h.hn (by simp) fun z hz => by
  rcases List.mem_cons.1 hz with e | hz
  · rw [e]; exact h.rx
  · rw [List.mem_singleton.1 hz]; exact h.ry
theorem TwoP.g {n : Nat} {x y : List Int} (h : TwoP n x y) : ∀ z ∈ [x, y], RowN n z := fun z hz => by
  rcases List.mem_cons.1 hz with e | hz
  · rw [e]; exact h.rx
  · rw [List.mem_singleton.1 hz]; exact h.ry
/-! ### How the sets are left -/
section
variable {n : Nat} {E gens Q : List (List Int)} {x y ch : List Int}
end
/-! ### Where two rows lead: the array that is filled -/
noncomputable def theQ (p : Nat → Nat) (N : Nat) : List (List Int) := by
  classical exact if h : ∃ Q, QsP p N Q then Classical.choose h else []
theorem QsP.the {p : Nat → Nat} {N : Nat} {Q : List (List Int)} (h : QsP p N Q) : theQ p N = Q := by
  unfold theQ
  have hx : ∃ Q, QsP p N Q := ⟨Q, h⟩
  rw [dif_pos hx]
  exact (Classical.choose_spec hx).eq h
end Go.KL

/- From a row's reading of its arguments to semantic types, and from a law's contract back to the row. -/
namespace Go.KL
open Go.ChangeShapes Go.WideShapes Go.ChangeAt Go.RowKit Go.Deep
variable {P : Program}

def GW.all (W : World) : GW := ⟨W, fun b => if b < W.heap.size then 1 else 0, fun b h => by
  by_cases hb : b < W.heap.size
  · exact hb
  · simp [hb] at h⟩

structure Bulk {H : Type} (B : DataW H → Nat) (BA : List (DataW H) → Nat) : Prop where
  one : ∀ d, 1 ≤ B d
  str : ∀ l, B (.lit (.string l)) = l.length + 1
  slice : ∀ es sp, B (.slice es sp) = BA es + BA sp + 1
  agg : ∀ ps, B (.agg ps) = BA ps + 1
  nil : BA [] = 0
  cons : ∀ d r, BA (d :: r) = B d + BA r

def Rd (P : Program) (t : TypeId) {α : Type} (cells : α → List Ty) (wf : α → Prop) (sz : α → Nat) (rc : α → Prop) : Prop :=
  ∀ (H : Type) (enc : TypeId × Value → H) (B : DataW H → Nat) (BA : List (DataW H) → Nat), Bulk B BA → ∀ (W : World) (fuel : Nat) (cs : List Value) (d : DataW H) (ps : List MemPlace),
    DataW.trod enc P W 0 (fun _ => true) true fuel t cs = some (d, ps) → ∃ x : α, wf x ∧ sz x ≤ B d ∧ ((d.weights P t).all (· ≤ reachBytes) = true → rc x) ∧ cs.length = (cells x).length ∧
      ∀ (j : Nat) (T : Ty) (u : Value), (cells x)[j]? = some T → cs[j]? = some u → T.has (GW.all W) u

theorem one_cell {T : Ty} {v : Value} {σ : GW} (h : T.has σ v) : ∀ (j : Nat) (U : Ty) (u : Value), [T][j]? = some U → [v][j]? = some u → U.has σ u := by
  intro j U u h1 h2
  match j with
  | 0 => simp at h1 h2; subst h1; subst h2; exact h
  | j + 1 => simp at h1

theorem rd_int {t : TypeId} {k : IntKind} (ht : P.underlying t = some (.int k)) : Rd P t (fun n : Int => [Ty.val (.int k n)]) (fun n => (Lit.int k n).wf = true) (fun _ => 1) (fun _ => True) := by
  intro H enc B BA hB W fuel cs d ps h
  obtain ⟨n, rfl, e, hw⟩ := DataW.trod_int ht h
  obtain ⟨rfl, rfl⟩ := Prod.mk.inj e
  exact ⟨n, hw, hB.one _, fun _ => trivial, rfl, one_cell rfl⟩
theorem rd_bool {t : TypeId} (ht : P.underlying t = some .bool) : Rd P t (fun b : Bool => [Ty.bool b]) (fun _ => True) (fun _ => 1) (fun _ => True) := by
  intro H enc B BA hB W fuel cs d ps h
  obtain ⟨b, rfl, e⟩ := DataW.trod_bool ht h
  obtain ⟨rfl, rfl⟩ := Prod.mk.inj e
  exact ⟨b, trivial, hB.one _, fun _ => trivial, rfl, one_cell rfl⟩
theorem BA_map {H : Type} {B : DataW H → Nat} {BA : List (DataW H) → Nat} (hB : Bulk B BA) {α : Type} (sz : α → Nat) : ∀ (xs : List α) (D : List (DataW H)), xs.length = D.length → (∀ (i : Nat) x d, xs[i]? = some x → D[i]? = some d → sz x ≤ B d) → (xs.map sz).sum ≤ BA D
  | [], [], _, _ => by simp
  | x :: xs, d :: D, hl, h => by
    rw [hB.cons, List.map_cons, List.sum_cons]
    have h0 := h 0 x d rfl rfl
    have := BA_map hB sz xs D (by simpa using hl) (fun i y e hy he => h (i + 1) y e (by simpa using hy) (by simpa using he))
    omega

theorem weightsAll_mem {H : Type} {e : TypeId} : ∀ {D : List (DataW H)} {d : DataW H}, d ∈ D → ∀ n, n ∈ d.weights P e → n ∈ DataW.weightsAll P e D
  | x :: D, d, h, n, hn => by
    simp only [DataW.weightsAll, List.mem_append]
    rcases List.mem_cons.1 h with rfl | h
    · exact .inl hn
    · exact .inr (weightsAll_mem h n hn)

theorem spot_none {w : World} {a : Addr} {v : Value} (h : w.cell? a = some v) : a.spot = none := by
  unfold World.cell? at h
  split at h
  · split at h
    · cases h
    · rename_i hs; simpa using hs
  · cases h

theorem rd_slice {t e c : TypeId} {α : Type} {cells : α → List Ty} {wf : α → Prop} {sz : α → Nat} {rc : α → Prop} (ht : P.underlying t = some (.slice e)) (hc : P.cellsOf e = c) (hc0 : 0 < c) (he : Rd P e cells wf sz rc) (hcl : ∀ x, wf x → (cells x).length = c) :
    Rd P t (fun xs : List α => [Ty.sl c xs.length (xs.flatMap cells)]) (fun xs => xs.length ≤ maxLen ∧ ∀ x ∈ xs, wf x) (fun xs => (xs.map sz).sum + 1) (fun xs => xs.length * P.bytesOf e ≤ reachBytes ∧ ∀ x ∈ xs, rc x) := by
  intro H enc B BA hB W fuel cs d ps h
  rcases open_slice ht h with ⟨rfl, e1⟩ | ⟨a, len, cap, m, n, D, Pl, rfl, _, hlen, hcap, hm, e1, hel⟩
  · obtain ⟨rfl, rfl⟩ := Prod.mk.inj e1
    exact ⟨[], ⟨Nat.zero_le _, fun x h => by cases h⟩, by simpa using hB.one _, fun _ => ⟨by simp, fun x h => by cases h⟩, rfl, one_cell ⟨none, 0, 0, 0, rfl, ⟨Nat.le_refl _, by decide⟩, by simp, .inl rfl, fun j T hj => by simp at hj⟩⟩
  · obtain ⟨rfl, rfl⟩ := Prod.mk.inj e1
    subst hc
    simp only [if_true] at hm
    subst hm
    have hx : ∀ i : Fin len, ∃ x : α, ∃ cs' : List Value, W.cells? 0 (a.add (i * P.cellsOf e)) (P.cellsOf e) = some cs' ∧ wf x ∧ sz x ≤ B (D i) ∧ (((D i).weights P e).all (· ≤ reachBytes) = true → rc x) ∧ cs'.length = (cells x).length ∧
        ∀ (j : Nat) (T : Ty) (u : Value), (cells x)[j]? = some T → cs'[j]? = some u → T.has (GW.all W) u := by
      intro i
      obtain ⟨cs', h1, h2⟩ := hel i (by omega)
      obtain ⟨x, hx⟩ := he H enc B BA hB W n cs' _ _ h2
      exact ⟨x, cs', h1, hx⟩
    let f : Fin len → α := fun i => Classical.choose (hx i)
    have hf : ∀ i : Fin len, ∃ cs' : List Value, W.cells? 0 (a.add (i * P.cellsOf e)) (P.cellsOf e) = some cs' ∧ wf (f i) ∧ sz (f i) ≤ B (D i) ∧ (((D i).weights P e).all (· ≤ reachBytes) = true → rc (f i)) ∧ cs'.length = (cells (f i)).length ∧
        ∀ (j : Nat) (T : Ty) (u : Value), (cells (f i))[j]? = some T → cs'[j]? = some u → T.has (GW.all W) u := fun i => Classical.choose_spec (hx i)
    have hlf : (List.ofFn f).length = len := by simp
    have hget : ∀ (i : Nat) (x : α), (List.ofFn f)[i]? = some x → ∃ hi : i < len, x = f ⟨i, hi⟩ := fun i x h => by
      have hi : i < len := by have := (List.getElem?_eq_some_iff.1 h).1; simpa using this
      refine ⟨hi, ?_⟩
      rw [List.getElem?_ofFn] at h
      simp [hi] at h
      exact h.symm
    have hmem : ∀ x ∈ List.ofFn f, ∃ i : Fin len, x = f i := fun x h => by
      obtain ⟨i, hi⟩ := List.mem_iff_getElem?.1 h
      obtain ⟨hi', rfl⟩ := hget i x hi
      exact ⟨⟨i, hi'⟩, rfl⟩
    have hwf : ∀ x ∈ List.ofFn f, wf x := fun x h => by
      obtain ⟨i, rfl⟩ := hmem x h
      obtain ⟨_, _, h1, _⟩ := hf i
      exact h1
    have hflat : ∀ (xs : List α), (∀ x ∈ xs, wf x) → (xs.flatMap cells).length = xs.length * P.cellsOf e := fun xs h => by
      induction xs with
      | nil => simp
      | cons x xs ih =>
        rw [List.flatMap_cons, List.length_append, hcl x (h x (by simp)), ih (fun y hy => h y (by simp [hy])), List.length_cons, Nat.succ_mul]; omega
    refine ⟨List.ofFn f, ⟨by rw [hlf]; omega, hwf⟩, ?_, fun hr => ⟨?_, fun x h => ?_⟩, rfl, one_cell ?_⟩
    · rw [hB.slice]
      have := BA_map hB sz (List.ofFn f) ((List.range len).map D) (by simp) (fun i x d hx hd => by
        obtain ⟨hi, rfl⟩ := hget i x hx
        obtain ⟨_, _, _, h2, _⟩ := hf ⟨i, hi⟩
        rw [List.getElem?_map, List.getElem?_range hi] at hd
        simp at hd; subst hd; exact h2)
      show (List.map sz (List.ofFn f)).sum + 1 ≤ _
      omega
    · rw [hlf]
      have : (((List.range len).map D).length + ((List.range (m - len)).map fun j => D (len + j)).length) * P.bytesOf e ≤ reachBytes := by
        have := List.all_eq_true.1 hr _ (by simp only [DataW.weights, ht]; exact List.mem_cons_self)
        simpa using this
      refine Nat.le_trans (Nat.mul_le_mul_right _ ?_) this
      simp
    · obtain ⟨i, rfl⟩ := hmem x h
      obtain ⟨_, _, _, _, h3, _⟩ := hf i
      refine h3 (List.all_eq_true.2 fun k hk => ?_)
      refine List.all_eq_true.1 hr k ?_
      simp only [DataW.weights, ht]
      refine List.mem_cons_of_mem _ (List.mem_append.2 (.inl (weightsAll_mem (D := List.map D (List.range len)) (d := D i.val) (List.mem_map.2 ⟨i.val, List.mem_range.2 i.2, rfl⟩) k hk)))
    · -- the cells
      by_cases h0 : len = 0
      · have e0 : List.ofFn f = [] := List.eq_nil_of_length_eq_zero (by rw [hlf, h0])
        rw [e0, h0]
        exact ⟨some a, m, 0, 0, rfl, ⟨Nat.zero_le _, hcap⟩, by simp, .inl rfl, fun j T hj => by simp at hj⟩
      · have hcell : ∀ (i : Fin len) (k : Nat) (T : Ty), (cells (f i))[k]? = some T → ∃ u, W.cell? ((a.add (i * P.cellsOf e)).add k) = some u ∧ T.has (GW.all W) u := fun i k T hT => by
          obtain ⟨cs', h1, h2, _, _, h5, h6⟩ := hf i
          have hk : k < cs'.length := by rw [h5]; exact (List.getElem?_eq_some_iff.1 hT).1
          refine ⟨cs'[k], ?_, h6 k T _ hT (by simp [hk])⟩
          have hkc : k < P.cellsOf e := by rw [← hcl _ h2, ← h5]; exact hk
          unfold World.cells? at h1
          rw [if_pos (Nat.zero_le _)] at h1
          have := mapM_some_get h1 k k (by rw [List.getElem?_range hkc])
          rw [this]; simp [hk]
        have hspot : a.spot = none := by
          obtain ⟨cs', h1, h2, _, _, h5, h6⟩ := hf ⟨0, by omega⟩
          have h7 : 0 < (cells (f ⟨0, by omega⟩)).length := by rw [hcl _ h2]; exact hc0
          obtain ⟨u, hu, _⟩ := hcell ⟨0, by omega⟩ 0 _ (List.getElem?_eq_getElem h7)
          simp [Addr.add] at hu
          exact spot_none hu
        obtain ⟨ab, ao, asp⟩ := a
        simp only at hspot
        subst hspot
        have hlt : ab < W.heap.size := by
          obtain ⟨cs', h1, h2, _, _, h5, h6⟩ := hf ⟨0, by omega⟩
          have h7 : 0 < (cells (f ⟨0, by omega⟩)).length := by rw [hcl _ h2]; exact hc0
          obtain ⟨u, hu, _⟩ := hcell ⟨0, by omega⟩ 0 _ (List.getElem?_eq_getElem h7)
          simp [Addr.add] at hu
          exact World.block_lt_of_cell? _ _ hu
        refine ⟨some ⟨ab, ao, none⟩, m, ab, ao, by rw [hlf], ⟨by omega, hcap⟩, hflat _ hwf, .inr ⟨rfl, by simp [GW.all, hlt]⟩, fun j T hj => ?_⟩
        -- cell j is cell j % c of element j / c
        have key : ∀ (xs : List α) (o : Nat), (∀ x ∈ xs, wf x) → (∀ (i : Nat) x, xs[i]? = some x → ∀ (k : Nat) (T : Ty), (cells x)[k]? = some T → ∃ u, W.cell? ⟨ab, o + i * P.cellsOf e + k, none⟩ = some u ∧ T.has (GW.all W) u) →
            ∀ (j : Nat) (T : Ty), (xs.flatMap cells)[j]? = some T → ∃ u, W.cell? ⟨ab, o + j, none⟩ = some u ∧ T.has (GW.all W) u := by
          intro xs
          induction xs with
          | nil => intro o _ _ j T hj; simp at hj
          | cons x xs ih =>
            intro o hw hc j T hj
            rw [List.flatMap_cons] at hj
            have hlx := hcl x (hw x (by simp))
            by_cases hjl : j < (cells x).length
            · rw [List.getElem?_append_left hjl] at hj
              have := hc 0 x rfl j T hj
              simpa using this
            · rw [List.getElem?_append_right (by omega)] at hj
              have := ih (o + P.cellsOf e) (fun y hy => hw y (by simp [hy])) (fun i y hy k T hT => by
                have := hc (i + 1) y (by simpa using hy) k T hT
                rw [Nat.succ_mul] at this
                rw [show o + P.cellsOf e + i * P.cellsOf e + k = o + (i * P.cellsOf e + P.cellsOf e) + k by omega]
                exact this) _ T hj
              rw [hlx] at this hjl
              rwa [show o + P.cellsOf e + (j - P.cellsOf e) = o + j by omega] at this
        refine key (List.ofFn f) ao hwf (fun i x hx k T hT => ?_) j T hj
        obtain ⟨hi, rfl⟩ := hget i x hx
        have := hcell ⟨i, hi⟩ k T hT
        simp only [Addr.add_lit] at this
        exact this

theorem Rd.conv {t : TypeId} {α β : Type} {cells : α → List Ty} {wf : α → Prop} {sz : α → Nat} {rc : α → Prop} {cells' : β → List Ty} {wf' : β → Prop} {sz' : β → Nat} {rc' : β → Prop} (h : Rd P t cells wf sz rc) (g : α → β)
    (hg : ∀ x, wf x → wf' (g x) ∧ sz' (g x) ≤ sz x ∧ (rc x → rc' (g x)) ∧ cells' (g x) = cells x) : Rd P t cells' wf' sz' rc' := by
  intro H enc B BA hB W fuel cs d ps ht
  obtain ⟨x, h1, h2, h3, h4, h5⟩ := h H enc B BA hB W fuel cs d ps ht
  obtain ⟨g1, g2, g3, g4⟩ := hg x h1
  exact ⟨g x, g1, Nat.le_trans g2 h2, fun h => g3 (h3 h), by rw [g4]; exact h4, by rw [g4]; exact h5⟩

theorem flatMap_one {α : Type} (f : α → Ty) (xs : List α) : xs.flatMap (fun x => [f x]) = xs.map f := by
  induction xs with
  | nil => rfl
  | cons x xs ih => simp [ih]

theorem rd_lst {t e : TypeId} {α : Type} {f : α → Ty} {wf : α → Prop} {sz : α → Nat} {rc : α → Prop} (ht : P.underlying t = some (.slice e)) (hc : P.cellsOf e = 1) (he : Rd P e (fun x => [f x]) wf sz rc) :
    Rd P t (fun xs : List α => [Ty.lst f xs]) (fun xs => xs.length ≤ maxLen ∧ ∀ x ∈ xs, wf x) (fun xs => (xs.map sz).sum + 1) (fun xs => xs.length * P.bytesOf e ≤ reachBytes ∧ ∀ x ∈ xs, rc x) :=
  (rd_slice ht hc (by decide) he (fun _ _ => rfl)).conv id fun x h => ⟨h, Nat.le_refl _, id, by simp [flatMap_one, Ty.lst]⟩

/-! ### Back to the row -/
theorem trodAll_stays {H : Type} {enc : TypeId × Value → H} (hl : laidOutB P = true) {W W' : World} (hb : Below W.heap.size W W') : ∀ {ts : List TypeId} {vs : List Value} {ds : List (DataW H)} {ps : List MemPlace},
    DataW.TrodAll enc P W 0 (fun _ => true) true ts vs ds ps → (ts.all fun t => P.readableRec t && decide (t < P.types.size)) = true → (∀ x ∈ ps, x.block < W.heap.size) → DataW.TrodAll enc P W' 0 (fun b => decide (b < W.heap.size)) true ts vs ds ps
  | [], [], [], ps, h, _, _ => h
  | t :: ts, v :: vs, d :: ds, ps, h, ha, hp => by
    obtain ⟨p, q, h1, h2, rfl⟩ := h
    simp only [List.all_cons, Bool.and_eq_true, decide_eq_true_eq] at ha
    exact ⟨p, q, Below.trod hl ha.1.1 ha.1.2 h1 hb (fun x hx => hp x (List.mem_append.2 (.inl hx))), trodAll_stays hl hb h2 ha.2 (fun x hx => hp x (List.mem_append.2 (.inr hx))), rfl⟩
  | [], [], _ :: _, _, h, _, _ => h.elim
  | [], _ :: _, _, _, h, _, _ => h.elim
  | _ :: _, [], _, _, h, _, _ => h.elim
  | _ :: _, _ :: _, [], _, h, _, _ => h.elim

theorem law_post {H : Type} {enc : TypeId × Value → H} {fn : Func} {f : FuncId} {s : ChangeSpec} {W : World} {args : Array Value} {ds gs : List (DataW H)} {before : List MemPlace} {tb : TypeId}
    (hres : fn.resultTypes = #[tb]) (hb : P.underlying tb = some .bool) (hl : laidOutB P = true) (hr : (fn.params.toList.all fun t => P.readableRec t && decide (t < P.types.size)) = true)
    (hW : DataW.Whole enc P fn.params.toList s.vars false W args.toList ds gs before) (hv : s.vars = []) (hs : s.fn H (ds ++ gs) = { results := [.lit (.bool true)], args := ds })
    (hc : FnC P f args (GW.all W) (Ty.bool true)) : Calls P f args W fun e W' => ∃ v, e = .returned v ∧ s.post enc P fn false true false false W args v W' := by
  refine Calls.mono hc ?_
  rintro e W' ⟨v, τ, rfl, hstp, rfl, hvv⟩
  have hbel : Below W.heap.size W τ.w := ⟨hstp.os, hstp.tape, hstp.output, hstp.size, fun k hk => hstp.blk k hk (.inl rfl)⟩
  have hW' := hW
  obtain ⟨p, q, hA, hV, rfl, _, _⟩ := hW
  have hq : q = [] := by
    rw [hv] at hV
    cases gs with
    | nil => exact hV
    | cons _ _ => exact hV.elim
  subst hq
  have hgs : gs = [] := by
    rw [hv] at hV
    cases gs with
    | nil => rfl
    | cons _ _ => exact hV.elim
  subst hgs
  have hvv' : v = .bool true := hvv
  subst hvv'
  refine ⟨_, rfl, ds, [], _, [], p, [], hW', ?_, ?_, ?_, hbel.frame _, fun h => by cases h⟩
  · rw [hs, hres]
    exact trodAll_mk1 (shut_bool hb true)
  · rw [hs]
    exact trodAll_stays hl hbel hA hr (fun x hx => hW'.lt x (List.mem_append.2 (.inl hx)))
  · rw [hs, hv]; rfl

theorem arg_one {H : Type} {enc : TypeId × Value → H} {B : DataW H → Nat} {BA : List (DataW H) → Nat} (hB : Bulk B BA) {W : World} {t : TypeId} {v : Value} {d : DataW H} {ps : List MemPlace} {α : Type} {T : α → Ty} {wf : α → Prop} {sz : α → Nat} {rc : α → Prop}
    (h : Rd P t (fun x => [T x]) wf sz rc) (hone : v.cells = #[v]) (ht : DataW.Trod enc P W 0 (fun _ => true) true t v d ps) : ∃ x : α, wf x ∧ sz x ≤ B d ∧ ((d.weights P t).all (· ≤ reachBytes) = true → rc x) ∧ (T x).has (GW.all W) v := by
  obtain ⟨fuel, hf⟩ := ht
  rw [hone] at hf
  obtain ⟨x, h1, h2, h3, _, h5⟩ := h H enc B BA hB W fuel _ d ps hf
  exact ⟨x, h1, h2, h3, h5 0 _ _ rfl rfl⟩
theorem one_slice {e : TypeId} {w : World} {r : Reach} {base : Nat} {t : TypeId} {v : Value} (ht : P.underlying t = some (.slice e)) (h : Value.okWide P w r base t v) : v.cells = #[v] := by
  obtain ⟨a, l, c, rfl⟩ := okWide_slice ht h; rfl
theorem one_int {k : IntKind} {w : World} {r : Reach} {base : Nat} {t : TypeId} {v : Value} (ht : P.underlying t = some (.int k)) (h : Value.okWide P w r base t v) : v.cells = #[v] := by
  obtain ⟨s, rfl⟩ := okWide_int ht h; rfl
theorem one_bool {w : World} {r : Reach} {base : Nat} {t : TypeId} {v : Value} (ht : P.underlying t = some .bool) (h : Value.okWide P w r base t v) : v.cells = #[v] := by
  obtain ⟨s, rfl⟩ := okWide_bool ht h; rfl
theorem weightsEach_cons {H : Type} {t : TypeId} {ts : List TypeId} {d : DataW H} {ds : List (DataW H)} (h : (DataW.weightsEach P (t :: ts) (d :: ds)).all (· ≤ reachBytes) = true) : (d.weights P t).all (· ≤ reachBytes) = true ∧ (DataW.weightsEach P ts ds).all (· ≤ reachBytes) = true := by
  simpa [DataW.weightsEach, List.all_append] using h
theorem i64_bd {n : Int} (h : (Lit.int .i64 n).wf = true) : -9223372036854775808 ≤ n ∧ n ≤ 9223372036854775807 := by
  simp [Lit.wf, IntKind.min, IntKind.max, IntKind.signed, IntKind.bits] at h
  omega
end Go.KL

/- Permutations of any length: cycles, signs (as for rows). -/
namespace Go.KL.Pm
open Go.KL
structure IsRow (r : List Int) : Prop where
  pos : 1 ≤ r.length
  one : ∀ b, b < r.length → r.count (b : Int) = 1
theorem IsRow.bound {r : List Int} (h : IsRow r) : ∀ x ∈ r, 0 ≤ x ∧ x < r.length := by
  have h1 := countP_lt r.length r h.one
  have h2 := List.countP_eq_length.1 h1
  intro x hx
  simpa using h2 x hx
theorem IsRow.nodup {r : List Int} (h : IsRow r) : r.Nodup := by
  rw [List.nodup_iff_count]
  intro x
  by_cases hx : x ∈ r
  · have hb := h.bound x hx
    have := h.one x.toNat (by omega)
    rw [show ((x.toNat : Nat) : Int) = x by omega] at this
    omega
  · rw [List.count_eq_zero_of_not_mem hx]; omega
theorem IsRow.at {r : List Int} (h : IsRow r) {i : Nat} (hi : i < r.length) : 0 ≤ r.getD i 0 ∧ r.getD i 0 < r.length := by
  have : r.getD i 0 = r[i] := by simp [hi]
  rw [this]; exact h.bound _ (List.getElem_mem hi)
theorem IsRow.mem {r : List Int} (h : IsRow r) {b : Nat} (hb : b < r.length) : (b : Int) ∈ r := List.count_pos_iff.1 (by rw [h.one b hb]; omega)
theorem roundsL_row {n : Nat} (h1 : 1 ≤ n) : IsRow (roundsL n) := by
  refine ⟨by rw [roundsL_len]; exact h1, row_all ?_ fun x hx => ?_⟩
  · refine List.Pairwise.map _ (R := fun a b => a ≠ b) (fun a b h e => h (by omega)) List.nodup_range
  · rw [roundsL_len]
    simp only [roundsL, List.mem_map, List.mem_range] at hx
    obtain ⟨i, hi, rfl⟩ := hx; omega

theorem nxt_lt {r : List Int} (h : IsRow r) {k : Nat} (hk : k < r.length) : nxt r k < r.length := by
  have := h.at hk; unfold nxt; omega
theorem nxt_int {r : List Int} (h : IsRow r) {k : Nat} (hk : k < r.length) : ((nxt r k : Nat) : Int) = r.getD k 0 := by
  have := h.at hk; unfold nxt; omega
theorem nxt_inj {r : List Int} (h : IsRow r) {j k : Nat} (hj : j < r.length) (hk : k < r.length) (e : nxt r j = nxt r k) : j = k := by
  have e' : r.getD j 0 = r.getD k 0 := by rw [← nxt_int h hj, ← nxt_int h hk, e]
  rw [← idxOf_at h.nodup hj, ← idxOf_at h.nodup hk, e']
theorem itr_lt {r : List Int} (h : IsRow r) {b : Nat} (hb : b < r.length) : ∀ m, itr r b m < r.length
  | 0 => hb
  | m + 1 => nxt_lt h (itr_lt h hb m)
theorem itr_cancel {r : List Int} (h : IsRow r) {b : Nat} (hb : b < r.length) : ∀ (i d : Nat), itr r b i = itr r b (i + d) → b = itr r b d
  | 0, d, e => by simpa [itr] using e
  | i + 1, d, e => by
    refine itr_cancel h hb i d ?_
    rw [show i + 1 + d = (i + d) + 1 by omega] at e
    exact nxt_inj h (itr_lt h hb i) (itr_lt h hb (i + d)) e

theorem back_exists {r : List Int} (h : IsRow r) {b : Nat} (hb : b < r.length) : ∃ m, m < r.length ∧ itr r b (m + 1) = b := by
  obtain ⟨i, j, hij, hj, e⟩ := collide (itr r b) (itr_lt h hb)
  refine ⟨j - i - 1, by omega, ?_⟩
  have := itr_cancel h hb i (j - i) (by rw [show i + (j - i) = j by omega]; exact e)
  rw [show j - i - 1 + 1 = j - i by omega]; exact this.symm

theorem per_spec {r : List Int} (h : IsRow r) {b : Nat} (hb : b < r.length) : 1 ≤ per r b ∧ per r b ≤ r.length ∧ itr r b (per r b) = b ∧ ∀ m, 0 < m → m < per r b → itr r b m ≠ b := by
  obtain ⟨m, hm, e⟩ := back_exists h hb
  have hx : (List.range r.length).findIdx (fun m => itr r b (m + 1) == b) < (List.range r.length).length := List.findIdx_lt_length_of_exists ⟨m, List.mem_range.2 hm, by simp [e]⟩
  have hx' : (List.range r.length).findIdx (fun m => itr r b (m + 1) == b) < r.length := by simpa using hx
  refine ⟨by unfold per; omega, by unfold per; omega, ?_, fun m h0 hm => ?_⟩
  · have := List.findIdx_getElem (w := hx)
    simp only [List.getElem_range, beq_iff_eq] at this
    exact this
  · have := List.not_of_lt_findIdx (p := fun m => itr r b (m + 1) == b) (xs := List.range r.length) (i := m - 1) (by unfold per at hm; omega)
    simp only [List.getElem_range, beq_eq_false_iff_ne] at this
    rwa [show m - 1 + 1 = m by omega] at this

theorem itr_inj {r : List Int} (h : IsRow r) {b : Nat} (hb : b < r.length) {i j : Nat} (hij : i < j) (hj : j < per r b) : itr r b i ≠ itr r b j := by
  intro e
  have := itr_cancel h hb i (j - i) (by rw [show i + (j - i) = j by omega]; exact e)
  exact (per_spec h hb).2.2.2 (j - i) (by omega) (by omega) this.symm

def Leads (r : List Int) (b k : Nat) : Prop := ∃ m, itr r b m = k
theorem Leads.small {r : List Int} (h : IsRow r) {b k : Nat} (hb : b < r.length) (hl : Leads r b k) : ∃ m, m < per r b ∧ itr r b m = k := by
  obtain ⟨m, e⟩ := hl
  induction m using Nat.strongRecOn generalizing k with
  | _ m ih =>
  by_cases hm : m < per r b
  · exact ⟨m, hm, e⟩
  · have hp := per_spec h hb
    refine ih (m - per r b) (by omega) ?_
    have := itr_add r b (per r b) (m - per r b)
    rw [hp.2.2.1, show per r b + (m - per r b) = m by omega] at this
    rw [← this]; exact e
theorem Leads.symm {r : List Int} (h : IsRow r) {b k : Nat} (hb : b < r.length) (hl : Leads r b k) : Leads r k b := by
  obtain ⟨m, hm, e⟩ := hl.small h hb
  have hp := per_spec h hb
  refine ⟨per r b - m, ?_⟩
  have := itr_add r b m (per r b - m)
  rw [show m + (per r b - m) = per r b by omega, hp.2.2.1, e] at this
  exact this.symm
theorem Leads.trans {r : List Int} {a b c : Nat} (h : Leads r a b) (k : Leads r b c) : Leads r a c := by
  obtain ⟨m, rfl⟩ := h
  obtain ⟨n, rfl⟩ := k
  exact ⟨m + n, itr_add r a m n⟩
theorem Leads.lt {r : List Int} (h : IsRow r) {b k : Nat} (hb : b < r.length) (hl : Leads r b k) : k < r.length := by
  obtain ⟨m, rfl⟩ := hl; exact itr_lt h hb m
theorem least_iff {r : List Int} (h : IsRow r) {b : Nat} (hb : b < r.length) : least r b = true ↔ ∀ k, Leads r b k → b ≤ k := by
  unfold least
  rw [List.all_eq_true]
  constructor
  · intro hh k hk
    obtain ⟨m, hm, rfl⟩ := hk.small h hb
    exact of_decide_eq_true (hh m (List.mem_range.2 hm))
  · intro hh m _
    exact decide_eq_true (hh _ ⟨m, rfl⟩)

theorem least_of {r : List Int} (hr : IsRow r) : ∀ (b : Nat), b < r.length → ∃ k, k < r.length ∧ least r k = true ∧ Leads r k b := by
  intro b
  induction b using Nat.strongRecOn with
  | ind b ih =>
    intro hb
    by_cases hl : least r b = true
    · exact ⟨b, hb, hl, 0, rfl⟩
    · rw [least_iff hr hb] at hl
      obtain ⟨k, hk⟩ := Classical.not_forall.1 hl
      obtain ⟨h1, h2⟩ := Classical.not_imp.1 hk
      obtain ⟨m, h3, h4, h5⟩ := ih k (by omega) (h1.lt hr hb)
      exact ⟨m, h3, h4, h5.trans (h1.symm hr hb)⟩
theorem byL_row {a b : List Int} (ha : IsRow a) (hb : IsRow b) (hl : a.length = b.length) : IsRow (byL a b) := by
  refine ⟨by rw [byL_len]; exact hb.pos, row_all ?_ ?_⟩
  · unfold byL
    rw [List.nodup_iff_pairwise_ne, List.pairwise_iff_getElem]
    intro i j hi hj hij e
    simp only [List.length_map] at hi hj
    simp only [List.getElem_map] at e
    rw [gd b i hi, gd b j hj] at e
    have bi := hb.at hi
    have bj := hb.at hj
    have h1 := idxOf_at ha.nodup (k := (b.getD i 0).toNat) (by omega)
    have h2 := idxOf_at ha.nodup (k := (b.getD j 0).toNat) (by omega)
    rw [e] at h1
    have e2 : b.getD i 0 = b.getD j 0 := by omega
    have h3 := idxOf_at hb.nodup hi
    have h4 := idxOf_at hb.nodup hj
    rw [e2] at h3; omega
  · intro x hx
    unfold byL at hx
    obtain ⟨y, hy, rfl⟩ := List.mem_map.1 hx
    have := hb.bound y hy
    have := ha.at (i := y.toNat) (by omega)
    rw [byL_len]; omega

theorem row_perm {r : List Int} (h : IsRow r) : r.Perm (roundsL r.length) := by
  rw [List.perm_ext_iff_of_nodup h.nodup (roundsL_row h.pos).nodup]
  intro x
  constructor
  · intro hx
    have := h.bound x hx
    exact List.mem_map.2 ⟨x.toNat, List.mem_range.2 (by omega), by omega⟩
  · intro hx
    obtain ⟨k, hk, rfl⟩ := List.mem_map.1 hx
    exact h.mem (List.mem_range.1 hk)
theorem orb_nodup {r : List Int} (hr : IsRow r) {b : Nat} (hb : b < r.length) : (orb r b).Nodup := by
  unfold orb
  rw [List.nodup_iff_pairwise_ne, List.pairwise_map]
  refine List.Pairwise.imp_of_mem ?_ List.pairwise_lt_range
  intro i j hi hj hij e
  exact itr_inj hr hb hij (List.mem_range.1 hj) (by omega)
theorem cycles_perm {r : List Int} (hr : IsRow r) : (cyclesL r).flatten.Perm (roundsL r.length) := by
  rw [List.perm_ext_iff_of_nodup ?_ (roundsL_row hr.pos).nodup]
  · intro x
    rw [List.mem_flatten]
    constructor
    · rintro ⟨c, hc, hx⟩
      obtain ⟨b, hb, _, rfl⟩ := cyc_mem hc
      obtain ⟨m, _, rfl⟩ := orb_mem.1 hx
      exact List.mem_map.2 ⟨itr r b m, List.mem_range.2 (itr_lt hr hb m), rfl⟩
    · intro hx
      obtain ⟨k, hk, rfl⟩ := List.mem_map.1 hx
      have hk := List.mem_range.1 hk
      obtain ⟨b, hb, hl, hle⟩ := least_of hr k hk
      obtain ⟨m, hm, e⟩ := hle.small hr hb
      exact ⟨orb r b, List.mem_map.2 ⟨b, List.mem_filter.2 ⟨List.mem_range.2 hb, hl⟩, rfl⟩, orb_mem.2 ⟨m, hm, by rw [e]⟩⟩
  · rw [List.nodup_iff_pairwise_ne, List.pairwise_flatten]
    constructor
    · intro c hc
      obtain ⟨b, hb, _, rfl⟩ := cyc_mem hc
      exact List.nodup_iff_pairwise_ne.1 (orb_nodup hr hb)
    · unfold cyclesL cyclesTo
      rw [List.pairwise_map]
      refine List.Pairwise.imp_of_mem ?_ (List.Pairwise.filter _ List.pairwise_lt_range)
      intro b c hb hc hbc x hx y hy e
      subst e
      obtain ⟨hb1, hb2⟩ := List.mem_filter.1 hb
      obtain ⟨hc1, hc2⟩ := List.mem_filter.1 hc
      have hb1 := List.mem_range.1 hb1
      have hc1 := List.mem_range.1 hc1
      obtain ⟨m, _, e1⟩ := orb_mem.1 hx
      obtain ⟨m', _, e2⟩ := orb_mem.1 hy
      have e3 : itr r b m = itr r c m' := by omega
      have h1 : Leads r b (itr r c m') := ⟨m, e3⟩
      have h2 : Leads r c b := Leads.trans ⟨m', rfl⟩ (h1.symm hr hb1)
      have := (least_iff hr hc1).1 hc2 b h2
      omega
theorem oddL_count {r : List Int} (hr : IsRow r) : oddL r = decide ((r.length + (List.range r.length).countP (least r)) % 2 = 1) := by
  unfold oddL
  rw [oddF]
  have h1 := (cycles_perm hr).length_eq
  rw [roundsL_len] at h1
  have h2 : (cyclesL r).length = (List.range r.length).countP (least r) := by
    unfold cyclesL cyclesTo
    rw [List.length_map, List.countP_eq_length_filter]
  rw [h1, h2]
structure Cut (r : List Int) (n p : Nat) : Prop where
  row : IsRow r
  len : r.length = n + 1
  pos : 1 ≤ n
  at' : r.getD p 0 = n
  le : p ≤ n
theorem Cut.len' {r : List Int} {n p : Nat} (h : Cut r n p) : (cutR r n p).length = n := by
  have := h.len
  simp [cutR]; omega
theorem Cut.get {r : List Int} {n p : Nat} (h : Cut r n p) {k : Nat} (hk : k < n) : (cutR r n p).getD k 0 = if k = p then r.getD n 0 else r.getD k 0 := by
  have hl := h.len
  unfold cutR
  rw [List.getD_eq_getElem?_getD, List.getElem?_set]
  by_cases e : p = k
  · subst e
    rw [if_pos rfl, if_pos rfl, if_pos (by simp; omega)]; rfl
  · rw [if_neg e, if_neg (fun q => e q.symm), List.getElem?_take, if_pos hk, ← List.getD_eq_getElem?_getD]
theorem Cut.only {r : List Int} {n p : Nat} (h : Cut r n p) {k : Nat} (hk : k ≤ n) : r.getD k 0 = n ↔ k = p := by
  have hl := h.len
  constructor
  · intro e
    have h1 := idxOf_at h.row.nodup (k := k) (by omega)
    have h2 := idxOf_at h.row.nodup (k := p) (by have := h.le; omega)
    rw [e] at h1; rw [h.at'] at h2; omega
  · rintro rfl; exact h.at'
theorem Cut.nxt {r : List Int} {n p : Nat} (h : Cut r n p) {k : Nat} (hk : k < n) : nxt (cutR r n p) k = if nxt r k = n then nxt r n else nxt r k := by
  have hl := h.len
  have hb := h.row.at (i := k) (by omega)
  have ho := h.only (k := k) (by omega)
  unfold Go.KL.nxt
  rw [h.get hk]
  by_cases e : k = p
  · have := ho.2 e
    rw [if_pos e, if_pos (by omega)]
  · have : r.getD k 0 ≠ n := fun q => e (ho.1 q)
    rw [if_neg e, if_neg (by omega)]
theorem Cut.row' {r : List Int} {n p : Nat} (h : Cut r n p) : IsRow (cutR r n p) := by
  have hl := h.len
  have hl' := h.len'
  have hpos := h.pos
  have hbd : ∀ k, k < n → 0 ≤ (cutR r n p).getD k 0 ∧ (cutR r n p).getD k 0 < n := by
    intro k hk
    rw [h.get hk]
    have hb := h.row.at (i := k) (by omega)
    have hbn := h.row.at (i := n) (by omega)
    have ho := h.only (k := k) (by omega)
    have hon := h.only (k := n) (Nat.le_refl _)
    split
    · rename_i e
      have : ¬ r.getD n 0 = n := fun q => by have := hon.1 q; omega
      omega
    · rename_i e
      have : ¬ r.getD k 0 = n := fun q => e (ho.1 q)
      omega
  refine ⟨by omega, row_all ?_ ?_⟩
  · rw [List.nodup_iff_pairwise_ne, List.pairwise_iff_getElem]
    intro i j hi hj hij
    rw [gd _ i hi, gd _ j hj, h.get (by omega), h.get (by omega)]
    have inj : ∀ a b, a < n + 1 → b < n + 1 → r.getD a 0 = r.getD b 0 → a = b := fun a b ha hb e => by
      have h1 := idxOf_at h.row.nodup (k := a) (by omega)
      have h2 := idxOf_at h.row.nodup (k := b) (by omega)
      rw [e] at h1; omega
    intro e
    split at e <;> split at e
    · omega
    · have := inj _ _ (by omega) (by omega) e; omega
    · have := inj _ _ (by omega) (by omega) e; omega
    · have := inj _ _ (by omega) (by omega) e; omega
  · intro x hx
    obtain ⟨k, hk, e⟩ := List.getElem_of_mem hx
    rw [gd _ k hk] at e
    have := hbd k (by omega)
    omega
theorem Cut.leads {r : List Int} {n p : Nat} (h : Cut r n p) {b : Nat} (hb : b < n) : ∀ m, Leads r b (itr (cutR r n p) b m)
  | 0 => ⟨0, rfl⟩
  | m + 1 => by
    have hi := itr_lt h.row' (b := b) (by rw [h.len']; exact hb) m
    rw [h.len'] at hi
    have ih := h.leads hb m
    rw [itr_step, h.nxt hi]
    split
    · rename_i e
      refine Leads.trans ih ⟨2, ?_⟩
      rw [itr_step, itr_one, e]
    · exact Leads.trans ih ⟨1, rfl⟩
theorem Cut.back {r : List Int} {n p : Nat} (h : Cut r n p) {b : Nat} (hb : b < n) : ∀ m, (itr r b m < n → Leads (cutR r n p) b (itr r b m)) ∧ (itr r b m = n → Go.KL.nxt r n < n → Leads (cutR r n p) b (Go.KL.nxt r n))
  | 0 => ⟨fun _ => ⟨0, rfl⟩, fun e => by have : itr r b 0 = b := rfl; omega⟩
  | m + 1 => by
    obtain ⟨i1, i2⟩ := h.back hb m
    have hl := h.len
    have hlt := itr_lt h.row (b := b) (by omega) m
    rw [itr_step]
    by_cases e : itr r b m = n
    · rw [e]
      refine ⟨fun hn => i2 e hn, fun e2 hn => by omega⟩
    · have hm : itr r b m < n := by omega
      have hx := h.nxt hm
      refine ⟨fun hn => ?_, fun e2 hn => ?_⟩
      · rw [if_neg (by omega)] at hx
        exact Leads.trans (i1 hm) ⟨1, hx⟩
      · rw [if_pos e2] at hx
        exact Leads.trans (i1 hm) ⟨1, hx⟩
theorem Cut.least {r : List Int} {n p : Nat} (h : Cut r n p) {b : Nat} (hb : b < n) : least (cutR r n p) b = Go.KL.least r b := by
  have hl := h.len
  have hl' := h.len'
  rw [Bool.eq_iff_iff, least_iff h.row' (by omega), least_iff h.row (by omega)]
  constructor
  · rintro hc k ⟨m, rfl⟩
    by_cases e : itr r b m < n
    · exact hc _ ((h.back hb m).1 e)
    · omega
  · rintro hc k ⟨m, rfl⟩
    exact hc _ (h.leads hb m)
theorem Cut.top {r : List Int} {n p : Nat} (h : Cut r n p) : Go.KL.least r n = decide (p = n) := by
  have hl := h.len
  have hle := h.le
  rw [Bool.eq_iff_iff, least_iff h.row (by omega), decide_eq_true_iff]
  have hon := h.only (k := n) (Nat.le_refl _)
  have hb := h.row.at (i := n) (by omega)
  constructor
  · intro hc
    have h1 := hc _ ⟨1, rfl⟩
    rw [itr_one] at h1
    unfold Go.KL.nxt at h1
    exact (hon.1 (by omega)).symm
  · rintro rfl k ⟨m, rfl⟩
    have : ∀ m, itr r p m = p := by
      intro m
      induction m with
      | zero => rfl
      | succ m ih => rw [itr_step, ih]; unfold Go.KL.nxt; rw [h.at']; rfl
    rw [this m]; exact Nat.le_refl _
theorem Cut.oddL {r : List Int} {n p : Nat} (h : Cut r n p) : Go.KL.oddL r = (Go.KL.oddL (cutR r n p) != decide (p ≠ n)) := by
  rw [oddL_count h.row, oddL_count h.row', h.len, h.len', List.range_succ, List.countP_append, List.countP_cons, List.countP_nil, h.top]
  have e : (List.range n).countP (Go.KL.least (cutR r n p)) = (List.range n).countP (Go.KL.least r) := by
    apply List.countP_congr
    intro b hb
    rw [h.least (List.mem_range.1 hb)]
  rw [e]
  generalize (List.range n).countP (Go.KL.least r) = c
  by_cases e : p = n
  · have e1 : (n + 1 + (c + (0 + if decide (p = n) = true then 1 else 0))) = (n + c) + 2 := by rw [decide_eq_true e, if_pos rfl]; omega
    rw [e1, Nat.add_mod_right, decide_eq_false (Classical.not_not.2 e)]
    simp
  · have e1 : (n + 1 + (c + (0 + if decide (p = n) = true then 1 else 0))) = (n + c) + 1 := by rw [decide_eq_false e, if_neg (by simp)]; omega
    rw [e1, decide_eq_true e, par_add]
    simp
end Go.KL.Pm

/- RANKIN: however the sets are left, there are as many circuits, even or odd, as the first alone makes. -/
namespace Go.KL
open Go.RowKit
/-! ### A chain's rows -/
section
variable {n k : Nat} {c : Nat → Lev} {gens L : List (List Int)}
theorem EltI.run {m : Nat} (hw : WC n c) (hk : k < n) (hL : EltK n gens c (k + 1) L) (hm : m = L.length) : ∀ (rest ks : List Int) (N : List (List Int)), EltI n c k m ks N → (∀ p ∈ rest, ((c k).orb p).isSome = true) → (ks ++ rest).Nodup → ∃ N', EltI n c k m (ks ++ rest) N'
  | [], ks, N, h, _, _ => ⟨N, by rw [List.append_nil]; exact h⟩
  | p :: rest, ks, N, h, h1, h2 => by
    obtain ⟨t, ht⟩ := Option.isSome_iff_exists.1 (h1 p (by simp))
    have hp : p ∉ ks := fun hc => (List.nodup_append.1 h2).2.2 p hc p (by simp) rfl
    have := EltI.run hw hk hL hm rest (ks ++ [p]) _ (h.step hw hk hL hm hp ht) (fun q hq => h1 q (by simp [hq])) (by rw [List.append_assoc]; exact h2)
    rw [List.append_assoc] at this
    exact this
theorem ChnOf.eltK (hc : ChnOf n gens c) (hG : ∀ x ∈ gens, RowN n x) : ∀ d, d ≤ n → ∃ L, EltK n gens c (n - d) L
  | 0, _ => ⟨_, EltK.start hc.wc⟩
  | d + 1, hd => by
    obtain ⟨L, hL⟩ := ChnOf.eltK hc hG d (by omega)
    rw [show n - d = (n - (d + 1)) + 1 by omega] at hL
    have hk : n - (d + 1) < n := by omega
    obtain ⟨N, hN⟩ := EltI.run hc.wc hk hL rfl (((List.range n).filter fun (p : Nat) => ((c (n - (d + 1))).orb (p : Int)).isSome).map fun (p : Nat) => (p : Int)) [] [] EltI.start (fun p hp => by
      obtain ⟨q, hq, rfl⟩ := List.mem_map.1 hp
      exact (List.mem_filter.1 hq).2) (by
      rw [List.nil_append]
      exact List.Pairwise.map (R := fun a b => a ≠ b) _ (fun a b h e => h (by omega)) (List.Pairwise.filter _ List.nodup_range))
    refine ⟨N, hN.done hc hG hk hL rfl fun p hp => ?_⟩
    obtain ⟨t, ht⟩ := Option.isSome_iff_exists.1 hp
    obtain ⟨h1, _, h3⟩ := (hc.wc.lev _ hk).pt p t ht
    have h4 := h1.at hk
    rw [h3] at h4
    rw [List.nil_append]
    refine List.mem_map.2 ⟨p.toNat, List.mem_filter.2 ⟨List.mem_range.2 (by omega), ?_⟩, by omega⟩
    rw [show ((p.toNat : Nat) : Int) = p by omega]; exact hp
theorem ChnOf.elts (hc : ChnOf n gens c) (hG : ∀ x ∈ gens, RowN n x) : ∃ F, EltsOk n gens F := by
  obtain ⟨L, hL⟩ := hc.eltK hG n (Nat.le_refl _)
  rw [Nat.sub_self] at hL
  exact ⟨ordS L, hL.sorted hc hG (ordS_perm L) (ordS_sort L)⟩
end
/-! ### Powers of one row -/
section
variable {n : Nat} {x y c r : List Int} {E gens : List (List Int)}
/-! ### What leads where, as permutations -/
end
/-! ### Circuits are cycles -/
section
variable {N i m f : Nat} {r : List Int}
end
end Go.KL

/- A group cut into parts: found one behind the other. -/
namespace Go.KL
open Go.RowKit
theorem find?_congr' {α : Type} {p q : α → Bool} : ∀ {l : List α}, (∀ a ∈ l, p a = q a) → l.find? p = l.find? q
  | [], _ => rfl
  | a :: l, h => by
    rw [List.find?_cons, List.find?_cons, h a (by simp), find?_congr' fun b hb => h b (by simp [hb])]
theorem len_allG {α : Type} {l : List (List α)} {o : Nat} (h : ∀ c ∈ l, c.length = o) : l.flatten.length = l.length * o := by
  induction l with
  | nil => simp
  | cons c l ih =>
    rw [List.flatten_cons, List.length_append, ih fun d hd => h d (by simp [hd]), h c (by simp), List.length_cons, Nat.succ_mul]; omega
def fndP (H R : List (List Int)) (r : List Int) : Option Nat := (List.range R.length).find? fun k => decide (byL r (undoL (R.getD k [])) ∈ H)
def prJ (G H R W : List (List Int)) (i : Nat) : Nat → List (List Int) × List (List Int) × List Int
  | 0 => (R, W, [])
  | j + 1 => let s := prJ G H R W i j; let r := byL (s.1.getD i []) (ltr G j); match fndP H s.1 r with
    | some k => (s.1, s.2.1, s.2.2 ++ [(k : Int)])
    | none => (s.1 ++ [r], s.2.1 ++ [s.2.1.getD i [] ++ [ltrN j]], s.2.2 ++ [(s.1.length : Int)])
def prI (n : Nat) (G H : List (List Int)) : Nat → List (List Int) × List (List Int) × List (List Int)
  | 0 => ([roundsL n], [[]], [])
  | i + 1 => let s := prI n G H i; let t := prJ G H s.1 s.2.1 i (2 * G.length); (t.1, t.2.1, s.2.2 ++ [t.2.2])
structure PrE (n : Nat) (G H : List (List Int)) (T : Nat) : Prop where
  lt : ∀ i, i < T → i < (prI n G H i).1.length
  at' : (prI n G H T).1.length = T
theorem PrE.one {n : Nat} {G H : List (List Int)} {T U : Nat} (h : PrE n G H T) (k : PrE n G H U) : T = U := by
  rcases Nat.lt_trichotomy T U with h1 | h1 | h1
  · have := k.lt T h1; have := h.at'; omega
  · exact h1
  · have := h.lt U h1; have := k.at'; omega
structure PrtP (n : Nat) (G H : List (List Int)) : Prop where
  hn : 1 ≤ n ∧ n ≤ 12
  hG : ∀ x ∈ G, RowN n x
  row : ∀ x ∈ H, RowN n x
  one : roundsL n ∈ H
  mul : ∀ x y, x ∈ H → y ∈ H → byL x y ∈ H
  inv : ∀ x, x ∈ H → undoL x ∈ H
  sub : ∀ x ∈ H, Cl n (fun y => y ∈ G) x
structure Reps (n : Nat) (G H R : List (List Int)) : Prop where
  ne : 0 < R.length
  z : R.getD 0 [] = roundsL n
  cl : ∀ x ∈ R, Cl n (fun y => y ∈ G) x
  dis : ∀ i j, i < R.length → j < R.length → byL (R.getD i []) (undoL (R.getD j [])) ∈ H → i = j
section
variable {n i j k m T : Nat} {G H R W F : List (List Int)} {r r' x y z : List Int} {f g : Int → Option Int}
theorem by_undo (hx : RowN n x) (hy : RowN n y) : undoL (byL x (undoL y)) = byL y (undoL x) := by
  have h1 := hx.by hy.undo
  refine by_canc h1.undo (hy.by hx.undo) h1 ?_
  rw [undo_left h1, ← by_as y hx.undo h1, by_as (undoL x) hx hy.undo, undo_left hx, byL_rounds_left hy.undo.bd, undo_right hy]
theorem by_back (hx : RowN n x) (hy : RowN n y) : byL (byL x (undoL y)) y = x := by rw [← by_as x hy.undo hy, undo_left hy, byL_rounds_right hx.len]
theorem by_fore (hx : RowN n x) (hy : RowN n y) : byL (byL x y) (undoL y) = x := by rw [← by_as x hy hy.undo, undo_right hy, byL_rounds_right hx.len]
abbrev sameP (H : List (List Int)) (x y : List Int) : Prop := byL x (undoL y) ∈ H
theorem PrtP.sym (h : PrtP n G H) (hx : RowN n x) (hy : RowN n y) (k : sameP H x y) : sameP H y x := by
  have := h.inv _ k
  rwa [by_undo hx hy] at this
theorem PrtP.trans (h : PrtP n G H) (hx : RowN n x) (hy : RowN n y) (hz : RowN n z) (a : sameP H x y) (b : sameP H y z) : sameP H x z := by
  have := h.mul _ _ a b
  rw [by_as _ hy hz.undo, by_back hx hy] at this
  exact this
theorem PrtP.refl (h : PrtP n G H) (hx : RowN n x) : sameP H x x := by unfold sameP; rw [undo_right hx]; exact h.one
theorem PrtP.left (h : PrtP n G H) (hx : RowN n x) (hy : RowN n y) (hyH : y ∈ H) : sameP H (byL y x) x := by unfold sameP; rw [by_fore hy hx]; exact hyH
theorem Reps.rows (h : PrtP n G H) (hR : Reps n G H R) (hk : k < R.length) : RowN n (R.getD k []) := (hR.cl _ (mem_atD [] hk)).row h.hn h.hG
theorem fnd_some (e : fndP H R r = some k) : k < R.length ∧ sameP H r (R.getD k []) := by
  unfold fndP at e
  have h1 := List.mem_of_find?_eq_some e
  have h2 := List.find?_some e
  exact ⟨List.mem_range.1 h1, of_decide_eq_true h2⟩
theorem fnd_is (h : PrtP n G H) (hR : Reps n G H R) (hr : RowN n r) (hk : k < R.length) (hs : sameP H r (R.getD k [])) : fndP H R r = some k := by
  cases e : fndP H R r with
  | none =>
    unfold fndP at e
    have := List.find?_eq_none.1 e k (List.mem_range.2 hk)
    exact absurd (decide_eq_true hs) this
  | some j =>
    obtain ⟨h1, h2⟩ := fnd_some e
    have hj := hR.rows h h1
    have := hR.dis j k h1 hk (h.trans hj hr (hR.rows h hk) (h.sym hr hj h2) hs)
    rw [this]
theorem fnd_none (e : fndP H R r = none) (hk : k < R.length) : ¬ sameP H r (R.getD k []) := fun hs => by
  unfold fndP at e
  exact absurd (decide_eq_true hs) (List.find?_eq_none.1 e k (List.mem_range.2 hk))
theorem getD_snoc {l : List (List Int)} {a : List Int} (hk : k < l.length) : (l ++ [a]).getD k [] = l.getD k [] := by
  simp [List.getD_eq_getElem?_getD, List.getElem?_append_left hk]
theorem getD_last {l : List (List Int)} {a : List Int} : (l ++ [a]).getD l.length [] = a := by simp [List.getD_eq_getElem?_getD]
theorem fnd_snoc : fndP H (R ++ [r]) r' = match fndP H R r' with
    | some k => some k
    | none => if sameP H r' r then some R.length else none := by
  unfold fndP
  have e : (List.range (R ++ [r]).length) = List.range R.length ++ [R.length] := by rw [List.length_append, List.length_singleton, List.range_succ]
  rw [e, List.find?_append]
  have e2 : (List.range R.length).find? (fun k => decide (byL r' (undoL ((R ++ [r]).getD k [])) ∈ H)) = (List.range R.length).find? (fun k => decide (byL r' (undoL (R.getD k [])) ∈ H)) := by
    refine find?_congr' fun a ha => ?_
    rw [getD_snoc (List.mem_range.1 ha)]
  rw [e2]
  cases (List.range R.length).find? (fun k => decide (byL r' (undoL (R.getD k [])) ∈ H)) with
  | some k => rfl
  | none =>
    simp only [Option.none_or, List.find?_cons, List.find?_nil, getD_last]
    by_cases hs : sameP H r' r
    · rw [if_pos hs]
      have : decide (byL r' (undoL r) ∈ H) = true := decide_eq_true hs
      rw [this]
    · rw [if_neg hs]
      have : decide (byL r' (undoL r) ∈ H) = false := decide_eq_false hs
      rw [this]
theorem Reps.start (h : PrtP n G H) : Reps n G H [roundsL n] where
  ne := by simp
  z := rfl
  cl x hx := by rw [List.mem_singleton.1 hx]; exact .one
  dis i j hi hj _ := by simp at hi hj; omega
theorem Reps.new (h : PrtP n G H) (hR : Reps n G H R) (hr : Cl n (fun y => y ∈ G) r) (e : fndP H R r = none) : Reps n G H (R ++ [r]) where
  ne := by simp
  z := by rw [getD_snoc hR.ne, hR.z]
  cl x hx := by
    rcases List.mem_append.1 hx with hx | hx
    · exact hR.cl x hx
    · rw [List.mem_singleton.1 hx]; exact hr
  dis i j hi hj hs := by
    have hrr := hr.row h.hn h.hG
    rw [List.length_append, List.length_singleton] at hi hj
    rcases Nat.lt_or_ge i R.length with h1 | h1 <;> rcases Nat.lt_or_ge j R.length with h2 | h2
    · rw [getD_snoc h1, getD_snoc h2] at hs; exact hR.dis i j h1 h2 hs
    · have ej : j = R.length := by omega
      subst ej
      rw [getD_snoc h1, getD_last] at hs
      exact absurd (h.sym (hR.rows h h1) hrr hs) (fnd_none e h1)
    · have ei : i = R.length := by omega
      subst ei
      rw [getD_snoc h2, getD_last] at hs
      exact absurd hs (fnd_none e h2)
    · omega
/-! ### Step by step -/
structure PrA (n : Nat) (G H R W : List (List Int)) (i j : Nat) (S : List (List Int) × List (List Int) × List Int) : Prop where
  reps : Reps n G H S.1
  len : R.length ≤ S.1.length
  wl : S.2.1.length = S.1.length
  ll : S.2.2.length = j
  lb : ∀ z ∈ S.2.2, 0 ≤ z ∧ z < S.1.length
theorem prJ_some (e : fndP H (prJ G H R W i j).1 (byL ((prJ G H R W i j).1.getD i []) (ltr G j)) = some k) : prJ G H R W i (j + 1) = ((prJ G H R W i j).1, (prJ G H R W i j).2.1, (prJ G H R W i j).2.2 ++ [(k : Int)]) := by
  rw [prJ]; simp only [e]
theorem prJ_none (e : fndP H (prJ G H R W i j).1 (byL ((prJ G H R W i j).1.getD i []) (ltr G j)) = none) : prJ G H R W i (j + 1) = ((prJ G H R W i j).1 ++ [byL ((prJ G H R W i j).1.getD i []) (ltr G j)], (prJ G H R W i j).2.1 ++ [(prJ G H R W i j).2.1.getD i [] ++ [ltrN j]], (prJ G H R W i j).2.2 ++ [((prJ G H R W i j).1.length : Int)]) := by
  rw [prJ]; simp only [e]
theorem prJ_ok (h : PrtP n G H) (hR : Reps n G H R) (hw : W.length = R.length) (hi : i < R.length) : ∀ j, j ≤ 2 * G.length → PrA n G H R W i j (prJ G H R W i j)
  | 0, _ => ⟨hR, Nat.le_refl _, hw, rfl, fun z hz => by cases hz⟩
  | j + 1, hj => by
    have ih := prJ_ok h hR hw hi j (by omega)
    have hil : i < (prJ G H R W i j).1.length := by have := ih.len; omega
    cases e : fndP H (prJ G H R W i j).1 (byL ((prJ G H R W i j).1.getD i []) (ltr G j)) with
    | some k =>
      have hk := (fnd_some e).1
      rw [prJ_some e]
      refine ⟨ih.reps, ih.len, ih.wl, by rw [List.length_append, ih.ll]; rfl, fun z hz => ?_⟩
      rcases List.mem_append.1 hz with hz | hz
      · exact ih.lb z hz
      · rw [List.mem_singleton.1 hz]; exact ⟨Int.natCast_nonneg k, Int.ofNat_lt.2 hk⟩
    | none =>
      rw [prJ_none e]
      have hc : Cl n (fun y => y ∈ G) (byL ((prJ G H R W i j).1.getD i []) (ltr G j)) := (ih.reps.cl _ (mem_atD [] hil)).prod h.hn h.hG (ltr_cl h.hn h.hG (by omega))
      refine ⟨ih.reps.new h hc e, ?_, ?_, by rw [List.length_append, ih.ll]; rfl, fun z hz => ?_⟩
      · have := ih.len; show R.length ≤ (_ ++ [_]).length; rw [List.length_append, List.length_singleton]; omega
      · show (_ ++ [_]).length = (_ ++ [_]).length
        rw [List.length_append, List.length_append, ih.wl]; rfl
      · show 0 ≤ z ∧ z < (((_ ++ [_] : List (List Int)).length : Nat) : Int)
        rw [List.length_append, List.length_singleton]
        rcases List.mem_append.1 hz with hz | hz
        · have := ih.lb z hz; omega
        · rw [List.mem_singleton.1 hz]; omega
structure PrB (n : Nat) (G H : List (List Int)) (i : Nat) (S : List (List Int) × List (List Int) × List (List Int)) : Prop where
  reps : Reps n G H S.1
  wl : S.2.1.length = S.1.length
  nl : S.2.2.length = i
theorem prI_ok (h : PrtP n G H) : ∀ i, (∀ i', i' < i → i' < (prI n G H i').1.length) → PrB n G H i (prI n G H i)
  | 0, _ => ⟨Reps.start h, rfl, rfl⟩
  | i + 1, hl => by
    have ih := prI_ok h i fun i' hi' => hl i' (by omega)
    have hj := prJ_ok h ih.reps ih.wl (hl i (by omega)) (2 * G.length) (Nat.le_refl _)
    rw [prI]
    exact ⟨hj.reps, hj.wl, by show (_ ++ [_]).length = _; rw [List.length_append, ih.nl]; rfl⟩
/-! ### Not too many -/
theorem Reps.few (h : PrtP n G H) (hR : Reps n G H R) (hnd : H.Nodup) (hF : EltsOk n G F) : R.length * H.length ≤ F.length := by
  have h1 := nd_sub (a := (R.map fun r => H.map fun y => byL y r).flatten) (b := F) (by
    rw [List.nodup_iff_pairwise_ne, List.pairwise_flatten]
    constructor
    · intro c hc
      obtain ⟨r, hr, rfl⟩ := List.mem_map.1 hc
      refine List.pairwise_map.2 (hnd.imp_of_mem fun {a b} ha hb hne e => hne ?_)
      exact by_canc (h.row a ha) (h.row b hb) ((hR.cl r hr).row h.hn h.hG) e
    · rw [List.pairwise_map, List.pairwise_iff_getElem]
      intro i j hi hj hij x hx y hy e
      subst e
      obtain ⟨a, ha, e1⟩ := List.mem_map.1 hx
      obtain ⟨b, hb, e2⟩ := List.mem_map.1 hy
      have g1 : R[i] = R.getD i [] := by simp [hi]
      have g2 : R[j] = R.getD j [] := by simp [hj]
      rw [g1] at e1; rw [g2] at e2
      have r1 := hR.rows h hi
      have r2 := hR.rows h hj
      have s1 : sameP H x (R.getD i []) := by rw [← e1]; exact h.left r1 (h.row a ha) ha
      have s2 : sameP H x (R.getD j []) := by rw [← e2]; exact h.left r2 (h.row b hb) hb
      have hx : RowN n x := by rw [← e1]; exact (h.row a ha).by r1
      have := hR.dis i j hi hj (h.trans r1 hx r2 (h.sym hx r1 s1) s2)
      omega) fun x hx => by
    obtain ⟨c, hc, hx⟩ := List.mem_flatten.1 hx
    obtain ⟨r, hr, rfl⟩ := List.mem_map.1 hc
    obtain ⟨a, ha, rfl⟩ := List.mem_map.1 hx
    exact (hF.mem _).2 ((h.sub a ha).prod h.hn h.hG (hR.cl r hr))
  have h2 : (R.map fun r => H.map fun y => byL y r).flatten.length = (R.map fun r => H.map fun y => byL y r).length * H.length := len_allG (l := R.map fun r => H.map fun y => byL y r) fun c hc => by
    obtain ⟨r, _, rfl⟩ := List.mem_map.1 hc
    rw [List.length_map]
  rw [h2, List.length_map] at h1
  exact h1
/-! ### The program's name of a part -/
def nmTo (H : List (List Int)) (r : List Int) : Nat → Int
  | 0 => -1
  | k + 1 => if nmTo H r k < 0 ∨ ((rankL (byL (H.getD k []) r) : Nat) : Int) < nmTo H r k then ((rankL (byL (H.getD k []) r) : Nat) : Int) else nmTo H r k
def nmP (H : List (List Int)) (r : List Int) : Int := nmTo H r H.length
theorem nmTo_spec : ∀ k, k ≤ H.length → (k = 0 → nmTo H r k = -1) ∧ (0 < k → (∃ y ∈ H, nmTo H r k = ((rankL (byL y r) : Nat) : Int)) ∧ ∀ a, a < k → nmTo H r k ≤ ((rankL (byL (H.getD a []) r) : Nat) : Int))
  | 0, _ => ⟨fun _ => rfl, fun h => by omega⟩
  | k + 1, hk => by
    obtain ⟨i1, i2⟩ := nmTo_spec k (by omega)
    refine ⟨fun h => by omega, fun _ => ?_⟩
    rw [nmTo]
    by_cases hc : nmTo H r k < 0 ∨ ((rankL (byL (H.getD k []) r) : Nat) : Int) < nmTo H r k
    · rw [if_pos hc]
      refine ⟨⟨_, mem_atD [] (by omega), rfl⟩, fun a ha => ?_⟩
      by_cases e : a = k
      · subst e; omega
      · obtain ⟨⟨y, _, hy⟩, i3⟩ := i2 (by omega)
        have := i3 a (by omega)
        omega
    · rw [if_neg hc]
      have hk0 : 0 < k := by
        rcases Nat.eq_zero_or_pos k with h | h
        · have := i1 h; omega
        · exact h
      obtain ⟨i4, i3⟩ := i2 hk0
      refine ⟨i4, fun a ha => ?_⟩
      by_cases e : a = k
      · subst e; omega
      · exact i3 a (by omega)
theorem nm_spec (h : PrtP n G H) : (∃ y ∈ H, nmP H r = ((rankL (byL y r) : Nat) : Int)) ∧ ∀ y ∈ H, nmP H r ≤ ((rankL (byL y r) : Nat) : Int) := by
  have hp := List.length_pos_of_mem h.one
  obtain ⟨h1, h2⟩ := (nmTo_spec (H := H) (r := r) H.length (Nat.le_refl _)).2 hp
  refine ⟨h1, fun y hy => ?_⟩
  obtain ⟨a, ha, rfl⟩ := List.getElem_of_mem hy
  have := h2 a ha
  rwa [show H.getD a [] = H[a] by simp [ha]] at this
theorem nm_same (h : PrtP n G H) (hx : RowN n x) (hy : RowN n y) : nmP H x = nmP H y ↔ sameP H x y := by
  obtain ⟨⟨a, ha, ea⟩, la⟩ := nm_spec (r := x) h
  obtain ⟨⟨b, hb, eb⟩, lb⟩ := nm_spec (r := y) h
  have har := h.row a ha
  have hbr := h.row b hb
  constructor
  · intro e
    have e2 : byL a x = byL b y := rank_eq (har.by hx) (hbr.by hy) (by omega)
    have e3 : byL x (undoL y) = byL (undoL a) b := by
      have : byL (undoL a) (byL a x) = byL (undoL a) (byL b y) := by rw [e2]
      rw [fore_row hx har, by_as _ hbr hy] at this
      rw [this, by_fore (har.undo.by hbr) hy]
    unfold sameP
    rw [e3]; exact h.mul _ _ (h.inv a ha) hb
  · intro hs
    -- both are the least of the same rows
    have key : ∀ {x y : List Int}, RowN n x → RowN n y → sameP H x y → ∀ a ∈ H, ∃ b ∈ H, byL a x = byL b y := fun {x y} hx hy hs a ha => by
      refine ⟨byL a (byL x (undoL y)), h.mul _ _ ha hs, ?_⟩
      rw [← by_as a (hx.by hy.undo) hy, by_back hx hy]
    obtain ⟨b', hb', e1⟩ := key hx hy hs a ha
    obtain ⟨a', ha', e2⟩ := key hy hx (h.sym hx hy hs) b hb
    have h1 := lb b' hb'
    have h2 := la a' ha'
    rw [← e1] at h1
    rw [← e2] at h2
    omega
/-! ### Maps -/
def nI (o : Option Nat) : Option Int := o.map fun (k : Nat) => (k : Int)
def PMap (n : Nat) (H R : List (List Int)) (f : Int → Option Int) : Prop := ∀ r, RowN n r → f (nmP H r) = nI (fndP H R r)
theorem PMap.start (h : PrtP n G H) : PMap n H [roundsL n] (fun p => if p = nmP H (roundsL n) then some 0 else none) := fun r hr => by
  have hz := rounds_rowN h.hn
  dsimp only
  by_cases hs : sameP H r (roundsL n)
  · rw [if_pos ((nm_same h hr hz).2 hs), fnd_is h (Reps.start h) hr (k := 0) (by simp) hs]; rfl
  · rw [if_neg (fun e => hs ((nm_same h hr hz).1 e))]
    cases e : fndP H [roundsL n] r with
    | none => rfl
    | some k =>
      obtain ⟨h1, h2⟩ := fnd_some e
      have : k = 0 := by simp at h1; omega
      subst this; exact absurd h2 hs
theorem PMap.new (h : PrtP n G H) (hf : PMap n H R f) (hr : RowN n r) (e : fndP H R r = none) (hR : Reps n G H R) : PMap n H (R ++ [r]) (fun p => if p = nmP H r then some ((R.length : Nat) : Int) else f p) := fun r' hr' => by
  dsimp only
  rw [fnd_snoc]
  by_cases hs : sameP H r' r
  · rw [if_pos ((nm_same h hr' hr).2 hs)]
    have e2 : fndP H R r' = none := by
      cases e3 : fndP H R r' with
      | none => rfl
      | some k =>
        obtain ⟨h1, h2⟩ := fnd_some e3
        exact absurd (h.trans hr hr' (hR.rows h h1) (h.sym hr' hr hs) h2) (fnd_none e h1)
    rw [e2]; simp only [if_pos hs]; rfl
  · rw [if_neg (fun e => hs ((nm_same h hr' hr).1 e)), hf r' hr']
    cases e3 : fndP H R r' with
    | none => simp only [if_neg hs]
    | some k => rfl
def DMap (n : Nat) (H R : List (List Int)) (f : Int → Option Int) : Prop := ∀ r, RowN n r → f ((rankL r : Nat) : Int) = nI (fndP H R r)
def DTo (n : Nat) (H R : List (List Int)) (r : List Int) (m : Nat) (f : Int → Option Int) : Prop := ∀ r', RowN n r' → f ((rankL r' : Nat) : Int) = match fndP H R r' with
  | some k => some (k : Int)
  | none => if r' ∈ (H.take m).map (fun y => byL y r) then some ((R.length : Nat) : Int) else none
theorem DTo.start (hf : DMap n H R f) : DTo n H R r 0 f := fun r' hr' => by
  rw [hf r' hr']
  cases fndP H R r' with
  | none => simp [nI]
  | some k => rfl
theorem DTo.step (h : PrtP n G H) (hR : Reps n G H R) (hr : RowN n r) (e : fndP H R r = none) (hm : m < H.length) (hf : DTo n H R r m f) : DTo n H R r (m + 1) (fun p => if p = ((rankL (byL (H.getD m []) r) : Nat) : Int) then some ((R.length : Nat) : Int) else f p) := fun r' hr' => by
  have hmr := h.row _ (mem_atD [] hm)
  dsimp only
  rw [take_snoc H [] m hm, List.map_append]
  by_cases hp : r' = byL (H.getD m []) r
  · have e2 : fndP H R r' = none := by
      cases e3 : fndP H R r' with
      | none => rfl
      | some k =>
        obtain ⟨h1, h2⟩ := fnd_some e3
        have hs : sameP H r' r := by rw [hp]; exact h.left hr hmr (mem_atD [] hm)
        exact absurd (h.trans hr hr' (hR.rows h h1) (h.sym hr' hr hs) h2) (fnd_none e h1)
    rw [e2, if_pos (by rw [hp])]
    simp only [List.mem_append]
    rw [if_pos (.inr (by simp [hp]))]
  · rw [if_neg (fun e3 => hp (rank_eq hr' (hmr.by hr) (by omega))), hf r' hr']
    cases fndP H R r' with
    | some k => rfl
    | none =>
      simp only [List.mem_append, List.map_cons, List.map_nil, List.mem_singleton, hp, or_false]
theorem DTo.done (h : PrtP n G H) (hr : RowN n r) (hf : DTo n H R r H.length f) : DMap n H (R ++ [r]) f := fun r' hr' => by
  rw [hf r' hr', fnd_snoc, List.take_length]
  cases fndP H R r' with
  | some k => rfl
  | none =>
    have : r' ∈ H.map (fun y => byL y r) ↔ sameP H r' r := by
      constructor
      · intro hm
        obtain ⟨y, hy, rfl⟩ := List.mem_map.1 hm
        exact h.left hr (h.row y hy) hy
      · intro hs
        exact List.mem_map.2 ⟨_, hs, by_back hr' hr⟩
    by_cases hs : sameP H r' r
    · simp only [if_pos hs, if_pos (this.2 hs)]; rfl
    · simp only [if_neg hs, if_neg (fun h => hs (this.1 h))]; rfl
def DZ0 (n : Nat) (H : List (List Int)) (m : Nat) (f : Int → Option Int) : Prop := ∀ r, RowN n r → f ((rankL r : Nat) : Int) = if r ∈ H.take m then some 0 else none
theorem DZ0.start : DZ0 n H 0 (fun _ => none) := fun r _ => by simp
theorem DZ0.step (h : PrtP n G H) (hm : m < H.length) (hf : DZ0 n H m f) : DZ0 n H (m + 1) (fun p => if p = ((rankL (H.getD m []) : Nat) : Int) then some 0 else f p) := fun r hr => by
  dsimp only
  rw [take_snoc H [] m hm]
  by_cases hp : r = H.getD m []
  · rw [if_pos (by rw [hp]), if_pos (by simp [hp])]
  · rw [if_neg (fun e => hp (rank_eq hr (h.row _ (mem_atD [] hm)) (by omega))), hf r hr]
    simp only [List.mem_append, List.mem_singleton, hp, or_false]
theorem DZ0.done (h : PrtP n G H) (hf : DZ0 n H H.length f) : DMap n H [roundsL n] f := fun r hr => by
  have hz := rounds_rowN h.hn
  rw [hf r hr, List.take_length]
  have hs : sameP H r (roundsL n) ↔ r ∈ H := by
    unfold sameP
    rw [undo_rounds h.hn, byL_rounds_right hr.len]
  by_cases hm : r ∈ H
  · rw [if_pos hm, fnd_is h (Reps.start h) hr (k := 0) (by simp) (hs.2 hm)]; rfl
  · rw [if_neg hm]
    cases e : fndP H [roundsL n] r with
    | none => rfl
    | some k =>
      obtain ⟨h1, h2⟩ := fnd_some e
      have : k = 0 := by simp at h1; omega
      subst this; exact absurd (hs.1 h2) hm
theorem fnd_congr {H' : List (List Int)} (he : ∀ x, x ∈ H ↔ x ∈ H') : fndP H R r = fndP H' R r := by
  unfold fndP
  exact find?_congr' fun a _ => by rw [decide_eq_decide]; exact he _
theorem prJ_congr {H' : List (List Int)} (he : ∀ x, x ∈ H ↔ x ∈ H') : ∀ j, prJ G H R W i j = prJ G H' R W i j
  | 0 => rfl
  | j + 1 => by rw [prJ, prJ, prJ_congr he j, fnd_congr he]
theorem prI_congr {H' : List (List Int)} (he : ∀ x, x ∈ H ↔ x ∈ H') : ∀ i, prI n G H i = prI n G H' i
  | 0 => rfl
  | i + 1 => by rw [prI, prI, prI_congr he i, prJ_congr he]
end
end Go.KL

/- Parts of a group: the program's loop and the document's. -/
namespace Go.KL
open Go.RowKit
structure PrS (n : Nat) (G H : List (List Int)) (i : Nat) (R W N : List (List Int)) : Prop where
  eq : prI n G H i = (R, W, N)
  lt : ∀ i', i' < i → i' < (prI n G H i').1.length
structure PrT (G H R W : List (List Int)) (i j : Nat) (R2 W2 : List (List Int)) (l2 : List Int) : Prop where
  eq : prJ G H R W i j = (R2, W2, l2)
section
variable {n i j k T : Nat} {G H R W N R2 W2 F : List (List Int)} {l2 r : List Int} {f : Int → Option Int}
theorem PrS.start : PrS n G H 0 [roundsL n] [[]] [] := ⟨rfl, fun i' h => by omega⟩
theorem PrS.ok (h : PrtP n G H) (s : PrS n G H i R W N) : Reps n G H R ∧ W.length = R.length ∧ N.length = i := by
  have := prI_ok h i s.lt
  rw [s.eq] at this
  exact ⟨this.reps, this.wl, this.nl⟩
theorem PrT.start : PrT G H R W i 0 R W [] := ⟨rfl⟩
theorem PrT.ok (h : PrtP n G H) (hR : Reps n G H R) (hw : W.length = R.length) (hi : i < R.length) (hj : j ≤ 2 * G.length) (t : PrT G H R W i j R2 W2 l2) : Reps n G H R2 ∧ R.length ≤ R2.length ∧ W2.length = R2.length ∧ l2.length = j ∧ ∀ z ∈ l2, 0 ≤ z ∧ z < R2.length := by
  have := prJ_ok h hR hw hi j hj
  rw [t.eq] at this
  exact ⟨this.reps, this.len, this.wl, this.ll, this.lb⟩
theorem PrT.old (t : PrT G H R W i j R2 W2 l2) (e : fndP H R2 (byL (R2.getD i []) (ltr G j)) = some k) : PrT G H R W i (j + 1) R2 W2 (l2 ++ [(k : Int)]) := by
  have e' : fndP H (prJ G H R W i j).1 (byL ((prJ G H R W i j).1.getD i []) (ltr G j)) = some k := by rw [t.eq]; exact e
  exact ⟨by rw [prJ_some e', t.eq]⟩
theorem PrT.new (t : PrT G H R W i j R2 W2 l2) (e : fndP H R2 (byL (R2.getD i []) (ltr G j)) = none) : PrT G H R W i (j + 1) (R2 ++ [byL (R2.getD i []) (ltr G j)]) (W2 ++ [W2.getD i [] ++ [ltrN j]]) (l2 ++ [((R2.length : Nat) : Int)]) := by
  have e' : fndP H (prJ G H R W i j).1 (byL ((prJ G H R W i j).1.getD i []) (ltr G j)) = none := by rw [t.eq]; exact e
  exact ⟨by rw [prJ_none e', t.eq]⟩
theorem PrS.next (s : PrS n G H i R W N) (hi : i < R.length) (t : PrT G H R W i (2 * G.length) R2 W2 l2) : PrS n G H (i + 1) R2 W2 (N ++ [l2]) := by
  refine ⟨by rw [prI, s.eq]; simp only [t.eq], fun i' h => ?_⟩
  rcases Nat.lt_or_ge i' i with h1 | h1
  · exact s.lt i' h1
  · have : i' = i := by omega
    subst this; rw [s.eq]; exact hi
theorem PrS.done (s : PrS n G H T R W N) (hT : R.length = T) : PrE n G H T := ⟨s.lt, by rw [s.eq]; exact hT⟩
theorem Reps.lim (h : PrtP n G H) (hR : Reps n G H R) (hnd : H.Nodup) (hF : EltsOk n G F) (hl : F.length < 1001 * H.length) : R.length ≤ 1000 := by
  have h1 := hR.few h hnd hF
  have hp := List.length_pos_of_mem h.one
  refine Nat.le_of_not_lt fun hlt => ?_
  have : 1001 * H.length ≤ R.length * H.length := Nat.mul_le_mul_right _ hlt
  omega
theorem pmap_some (hf : PMap n H R f) (hr : RowN n r) (hs : (f (nmP H r)).isSome = true) : ∃ k, fndP H R r = some k ∧ (f (nmP H r)).getD 0 = (k : Int) ∧ k < R.length := by
  have e := hf r hr
  cases e2 : fndP H R r with
  | none => rw [e, e2] at hs; cases hs
  | some k => exact ⟨k, rfl, by rw [e, e2]; rfl, (fnd_some e2).1⟩
theorem pmap_none (hf : PMap n H R f) (hr : RowN n r) (hs : ¬ (f (nmP H r)).isSome = true) : fndP H R r = none := by
  have e := hf r hr
  cases e2 : fndP H R r with
  | none => rfl
  | some k => rw [e, e2] at hs; exact absurd rfl hs
theorem dmap_some (hf : DMap n H R f) (hr : RowN n r) (hs : (f ((rankL r : Nat) : Int)).isSome = true) : ∃ k, fndP H R r = some k ∧ (f ((rankL r : Nat) : Int)).getD 0 = (k : Int) ∧ k < R.length := by
  have e := hf r hr
  cases e2 : fndP H R r with
  | none => rw [e, e2] at hs; cases hs
  | some k => exact ⟨k, rfl, by rw [e, e2]; rfl, (fnd_some e2).1⟩
theorem dmap_none (hf : DMap n H R f) (hr : RowN n r) (hs : ¬ (f ((rankL r : Nat) : Int)).isSome = true) : fndP H R r = none := by
  have e := hf r hr
  cases e2 : fndP H R r with
  | none => rfl
  | some k => rw [e, e2] at hs; exact absurd rfl hs
end
/-! ### The part of a row -/
def ofE (n : Nat) (H R : List (List Int)) (r : List Int) : Int := if rowMay r ≠ 0 then rowMay r else if r.length ≠ n then 1 else if (fndP H R r).isSome = true then 0 else 14
def ofK (n : Nat) (H R : List (List Int)) (r : List Int) : Nat := if ofE n H R r = 0 then (fndP H R r).getD 0 else 0
section
variable {n : Nat} {H R : List (List Int)} {r : List Int}
theorem ofE_may (h : rowMay r ≠ 0) : ofE n H R r = rowMay r ∧ ofK n H R r = 0 := by
  have e : ofE n H R r = rowMay r := if_pos h
  exact ⟨e, by unfold ofK; rw [e, if_neg h]⟩
theorem ofE_len (h : rowMay r = 0) (h2 : r.length ≠ n) : ofE n H R r = 1 ∧ ofK n H R r = 0 := by
  have e : ofE n H R r = 1 := by unfold ofE; rw [if_neg (fun h_ => h_ h), if_pos h2]
  exact ⟨e, by unfold ofK; rw [e]; rfl⟩
theorem ofE_no (h : rowMay r = 0) (h2 : r.length = n) (h3 : fndP H R r = none) : ofE n H R r = 14 ∧ ofK n H R r = 0 := by
  have e : ofE n H R r = 14 := by unfold ofE; rw [if_neg (fun h_ => h_ h), if_neg (fun h_ => h_ h2), h3]; rfl
  exact ⟨e, by unfold ofK; rw [e]; rfl⟩
theorem ofE_yes {k : Nat} (h : rowMay r = 0) (h2 : r.length = n) (h3 : fndP H R r = some k) : ofE n H R r = 0 ∧ ofK n H R r = k := by
  have e : ofE n H R r = 0 := by unfold ofE; rw [if_neg (fun h_ => h_ h), if_neg (fun h_ => h_ h2), h3]; rfl
  exact ⟨e, by unfold ofK; rw [if_pos e, h3]; rfl⟩
end
/-! ### What is made -/
noncomputable def mkC (n : Int) (gens subs : List (List Int)) : Int := by
  classical exact if gensMay n gens ≠ 0 then gensMay n gens else if gensMay n subs ≠ 0 then gensMay n subs else
    if ∃ x ∈ subs, ¬ Cl n.toNat (fun y => y ∈ gens) x then 14 else
    if 1000 < szTo n.toNat (fun y => y ∈ subs) n.toNat ∨ 1000 < szTo n.toNat (fun y => y ∈ gens) n.toNat / szTo n.toNat (fun y => y ∈ subs) n.toNat then 3 else 0
section
variable {n : Nat} {G S H F : List (List Int)} {c : Nat → Lev} {x : List Int}
theorem PrtP.of (hn : 1 ≤ n ∧ n ≤ 12) (hG : ∀ x ∈ G, RowN n x) (hS : ∀ x ∈ S, RowN n x) (hs : ∀ x ∈ S, Cl n (fun y => y ∈ G) x) (hE : EltsOk n S H) : PrtP n G H where
  hn := hn
  hG := hG
  row x hx := ((hE.mem x).1 hx).row hn hS
  one := (hE.mem _).2 .one
  mul x y hx hy := (hE.mem _).2 (((hE.mem x).1 hx).prod hn hS ((hE.mem y).1 hy))
  inv x hx := (hE.mem _).2 (((hE.mem x).1 hx).undo hn hS)
  sub x hx := ((hE.mem x).1 hx).sub hn hG hs
theorem lim_of {a b : Nat} (hb : 0 < b) (h : a / b ≤ 1000) : a < 1001 * b := by
  have := (Nat.div_lt_iff_lt_mul hb).1 (show a / b < 1001 by omega)
  exact this
theorem has_iff (hc : ChnOf n G c) (hx : RowN n x) : hasB n c x = true ↔ Cl n (fun y => y ∈ G) x := by
  rw [← hc.has hx]
  have h0 : fitsE n x = 0 := by
    unfold fitsE
    rw [if_neg (fun h => h (rowMay_ok.2 hx.row)), if_neg (fun h => h hx.len)]
  rw [hasB_yes h0, decide_eq_true_eq]; rfl
end
end Go.KL

/- Parts of a group: the law. -/
namespace Go.KL
open Go.RowKit
section
variable {n k m T T2 most : Nat} {G S H D R W N R2 W2 N2 F L V : List (List Int)} {r : List Int}
theorem PrS.congr (he : ∀ x, x ∈ D ↔ x ∈ H) (s : PrS n G D T R W N) : PrS n G H T R W N :=
  ⟨by rw [← prI_congr he]; exact s.eq, fun i hi => by rw [← prI_congr he]; exact s.lt i hi⟩
theorem PrS.same (s : PrS n G H T R W N) (h : R.length = T) (s2 : PrS n G H T2 R2 W2 N2) (h2 : R2.length = T2) : R = R2 ∧ W = W2 ∧ N = N2 := by
  have e := (s.done h).one (s2.done h2)
  subst e
  have := s.eq.symm.trans s2.eq
  simp only [Prod.mk.injEq] at this
  exact this
theorem prJ_words (hP : PrtP n G H) (hR : Reps n G H R) (hw : W.length = R.length) (hW : WordsB W) {i : Nat} (hi : i < R.length) : ∀ j, j ≤ 2 * G.length → WordsB (prJ G H R W i j).2.1
  | 0, _ => hW
  | j + 1, hj => by
    have ih := prJ_words hP hR hw hW hi j (by omega)
    have ok := prJ_ok hP hR hw hi j (by omega)
    cases e : fndP H (prJ G H R W i j).1 (byL ((prJ G H R W i j).1.getD i []) (ltr G j)) with
    | some k => rw [prJ_some e]; exact ih
    | none =>
      rw [prJ_none e]
      exact ih.new (by rw [ok.wl]; have := ok.len; omega)
theorem prI_words (hP : PrtP n G H) : ∀ i, (∀ i', i' < i → i' < (prI n G H i').1.length) → WordsB (prI n G H i).2.1 ∧ ∀ x ∈ (prI n G H i).2.2, x.length = 2 * G.length
  | 0, _ => ⟨wordsB_start, fun x hx => by cases hx⟩
  | i + 1, hl => by
    have ih := prI_words hP i fun i' hi' => hl i' (by omega)
    have ok := prI_ok hP i fun i' hi' => hl i' (by omega)
    rw [prI]
    refine ⟨prJ_words hP ok.reps ok.wl ih.1 (hl i (by omega)) _ (Nat.le_refl _), fun x hx => ?_⟩
    rcases List.mem_append.1 hx with hx | hx
    · exact ih.2 x hx
    · rw [List.mem_singleton.1 hx]
      exact (prJ_ok hP ok.reps ok.wl (hl i (by omega)) _ (Nat.le_refl _)).ll
theorem PrS.words (hP : PrtP n G H) (s : PrS n G H T R W N) : WordsB W ∧ ∀ x ∈ N, x.length = 2 * G.length := by
  have := prI_words hP T s.lt
  rw [s.eq] at this
  exact this
theorem wordsB_mem (h : WordsB W) : ∀ x ∈ W, x.length ≤ W.length := fun x hx => by
  obtain ⟨a, ha, rfl⟩ := List.getElem_of_mem hx
  have := h a ha
  rw [show W.getD a [] = W[a] by simp [ha]] at this
  omega
theorem ClosedP.full (hE : EltsOk n S H) (hl : H.length ≤ most) (hC : ClosedP n S most D V) : D.Nodup ∧ (∀ x, x ∈ D ↔ x ∈ H) ∧ D.length = H.length := by
  rcases hC with ⟨_, L, h1, h2, h3⟩ | ⟨h1, h2, h3, h4⟩
  · have := nd_sub h1 fun x hx => (hE.mem x).2 (h2 x hx)
    omega
  · have he : ∀ x, x ∈ D ↔ x ∈ H := fun x => by rw [h2, hE.mem]
    have a := nd_sub h1 fun x hx => (he x).1 hx
    have b := nd_sub hE.nd fun x hx => (he x).2 hx
    exact ⟨h1, he, by omega⟩
theorem PrtP.congr (he : ∀ x, x ∈ D ↔ x ∈ H) (h : PrtP n G H) : PrtP n G D where
  hn := h.hn
  hG := h.hG
  row x hx := h.row x ((he x).1 hx)
  one := (he _).2 h.one
  mul x y hx hy := (he _).2 (h.mul x y ((he x).1 hx) ((he y).1 hy))
  inv x hx := (he _).2 (h.inv x ((he x).1 hx))
  sub x hx := h.sub x ((he x).1 hx)
/-! ### The document's search -/
def fndN (D R : List (List Int)) (r : List Int) (k : Nat) : Option Nat := (List.range k).find? fun k => decide (byL r (undoL (R.getD k [])) ∈ D)
theorem fndN_all : fndN D R r R.length = fndP D R r := rfl
theorem fndN_succ (hP : PrtP n G D) (hR : Reps n G D R) (hr : RowN n r) (hk : k < R.length) : fndN D R r (k + 1) = if byL r (undoL (R.getD k [])) ∈ D then some k else fndN D R r k := by
  unfold fndN
  rw [List.range_succ, List.find?_append]
  by_cases hs : byL r (undoL (R.getD k [])) ∈ D
  · rw [if_pos hs]
    cases e : (List.range k).find? (fun k => decide (byL r (undoL (R.getD k [])) ∈ D)) with
    | none =>
      simp only [Option.none_or, List.find?_cons, decide_eq_true hs]
    | some j =>
      exfalso
      have h1 := List.mem_range.1 (List.mem_of_find?_eq_some e)
      have h2' := List.find?_some e
      have h2 : byL r (undoL (R.getD j [])) ∈ D := by simpa using h2'
      have hj := hR.rows hP (show j < R.length by omega)
      have := hR.dis j k (by omega) hk (hP.trans hj hr (hR.rows hP hk) (hP.sym hr hj h2) hs)
      omega
  · rw [if_neg hs]
    simp only [List.find?_cons, List.find?_nil, decide_eq_false hs, Option.or_none]
theorem ofE_fits : ofE n D R r = if fitsE n r ≠ 0 then fitsE n r else if (fndP D R r).isSome = true then 0 else 14 := by
  unfold ofE fitsE
  by_cases h1 : rowMay r ≠ 0
  · rw [if_pos h1, if_pos h1, if_pos h1]
  · rw [if_neg h1, if_neg h1]
    by_cases h2 : r.length ≠ n
    · rw [if_pos h2, if_pos h2]; rfl
    · rw [if_neg h2, if_neg h2]; rfl
theorem ofK_no (h : fitsE n r ≠ 0) : ofE n D R r = fitsE n r ∧ ofK n D R r = 0 := by
  have e : ofE n D R r = fitsE n r := by rw [ofE_fits, if_pos h]
  exact ⟨e, by unfold ofK; rw [e, if_neg h]⟩
theorem ofK_yes (h : fitsE n r = 0) : ofE n D R r = (if (fndP D R r).isSome = true then 0 else 14) ∧ ofK n D R r = (fndP D R r).getD 0 := by
  have e : ofE n D R r = if (fndP D R r).isSome = true then 0 else 14 := by rw [ofE_fits, if_neg (fun h_ => h_ h)]
  refine ⟨e, ?_⟩
  unfold ofK
  rw [e]
  cases fndP D R r <;> rfl
theorem of_congr (he : ∀ x, x ∈ D ↔ x ∈ H) : ofE n D R r = ofE n H R r ∧ ofK n D R r = ofK n H R r := by
  unfold ofK ofE
  rw [fnd_congr he]; exact ⟨rfl, rfl⟩
/-! ### Errors -/
theorem sz_app (hn : 1 ≤ n ∧ n ≤ 12) (hG : ∀ x ∈ G, RowN n x) (hS : ∀ x ∈ S, RowN n x) : szTo n (fun y => y ∈ G ++ S) n = szTo n (fun y => y ∈ G) n ↔ ∀ x ∈ S, Cl n (fun y => y ∈ G) x := by
  have hGS : ∀ x ∈ G ++ S, RowN n x := fun x hx => (List.mem_append.1 hx).elim (hG x) (hS x)
  have hup : ∀ r, Cl n (fun y => y ∈ G) r → Cl n (fun y => y ∈ G ++ S) r := fun r h => h.sub hn hGS fun x hx => Cl.gen (S := fun y => y ∈ G ++ S) hGS (List.mem_append_left _ hx)
  constructor
  · intro he x hx
    exact sz_same hn hGS hG hup he.symm x (Cl.gen (S := fun y => y ∈ G ++ S) hGS (List.mem_append_right _ hx))
  · intro h
    refine szTo_congr (fun r => ⟨fun hr => hr.sub hn hG fun x hx => ?_, hup r⟩) n
    rcases List.mem_append.1 hx with hx | hx
    · exact Cl.gen (S := fun y => y ∈ G) hG hx
    · exact h x hx
end
section
variable {n : Nat} {z : Int} {G S : List (List Int)}
theorem mkC_1 (h : gensMay z G ≠ 0) : mkC z G S = gensMay z G := by unfold mkC; rw [if_pos h]
theorem mkC_2 (h : gensMay z G = 0) (h2 : gensMay z S ≠ 0) : mkC z G S = gensMay z S := by unfold mkC; rw [if_neg (fun h_ => h_ h), if_pos h2]
theorem mkC_3 (h : gensMay (n : Int) G = 0) (h2 : gensMay (n : Int) S = 0) (h3 : ∃ x ∈ S, ¬ Cl n (fun y => y ∈ G) x) : mkC (n : Int) G S = 14 := by
  unfold mkC
  rw [if_neg (fun h_ => h_ h), if_neg (fun h_ => h_ h2), if_pos (by rw [Int.toNat_natCast]; exact h3)]
theorem mkC_4 (h : gensMay (n : Int) G = 0) (h2 : gensMay (n : Int) S = 0) (h3 : ∀ x ∈ S, Cl n (fun y => y ∈ G) x) : mkC (n : Int) G S = if 1000 < szTo n (fun y => y ∈ S) n ∨ 1000 < szTo n (fun y => y ∈ G) n / szTo n (fun y => y ∈ S) n then 3 else 0 := by
  unfold mkC
  rw [if_neg (fun h_ => h_ h), if_neg (fun h_ => h_ h2), if_neg (by rw [Int.toNat_natCast]; rintro ⟨x, hx, h4⟩; exact h4 (h3 x hx)), Int.toNat_natCast]
theorem may_nat (h : gensMay (n : Int) G = 0) : (1 ≤ n ∧ n ≤ 12) ∧ G.length ≤ 8 ∧ ∀ x ∈ G, RowN n x := by
  obtain ⟨⟨h1, h2, h3⟩, h4⟩ := gensMay_ok h
  refine ⟨by omega, h3, fun x hx => ?_⟩
  obtain ⟨a, ha, rfl⟩ := List.getElem_of_mem hx
  obtain ⟨h5, h6⟩ := h4 a ha
  rw [show G.getD a [] = G[a] by simp [ha]] at h5 h6
  exact ⟨h5, by omega⟩
theorem may_int (h : gensMay z G = 0) : ∃ m : Nat, z = (m : Int) := by
  obtain ⟨⟨h1, _, _⟩, _⟩ := gensMay_ok h
  exact ⟨z.toNat, by omega⟩
theorem mkC_ok (h : mkC (n : Int) G S = 0) : gensMay (n : Int) G = 0 ∧ gensMay (n : Int) S = 0 ∧ (∀ x ∈ S, Cl n (fun y => y ∈ G) x) ∧ szTo n (fun y => y ∈ S) n ≤ 1000 ∧ szTo n (fun y => y ∈ G) n / szTo n (fun y => y ∈ S) n ≤ 1000 := by
  have h1 : gensMay (n : Int) G = 0 := Classical.byContradiction fun hn => hn (by rw [← mkC_1 (S := S) hn]; exact h)
  have h2 : gensMay (n : Int) S = 0 := Classical.byContradiction fun hn => hn (by rw [← mkC_2 h1 hn]; exact h)
  have h3 : ∀ x ∈ S, Cl n (fun y => y ∈ G) x := fun x hx => Classical.byContradiction fun hn => by
    rw [mkC_3 h1 h2 ⟨x, hx, hn⟩] at h; cases h
  rw [mkC_4 h1 h2 h3] at h
  refine ⟨h1, h2, h3, ?_, ?_⟩ <;> (refine Nat.le_of_not_lt fun hlt => ?_)
  · rw [if_pos (.inl hlt)] at h; cases h
  · rw [if_pos (.inr hlt)] at h; cases h
end
theorem sz_bad {n : Nat} {G S : List (List Int)} (hn : 1 ≤ n ∧ n ≤ 12) (hG : ∀ x ∈ G, RowN n x) (hS : ∀ x ∈ S, RowN n x) (h : szTo n (fun y => y ∈ G ++ S) n ≠ szTo n (fun y => y ∈ G) n) : ∃ x ∈ S, ¬ Cl n (fun y => y ∈ G) x :=
  Classical.byContradiction fun hno => h ((sz_app hn hG hS).2 fun x hx => Classical.byContradiction fun hx2 => hno ⟨x, hx, hx2⟩)
end Go.KL

/- LAGRANGE: parts of a group, and where each letter leads. -/
namespace Go.KL
open Go.RowKit
/-! ### Words -/
def genL (G : List (List Int)) (k : Int) : List Int := if k < 0 then undoL (G.getD (-k - 1).toNat []) else G.getD (k - 1).toNat []
def badW (G : List (List Int)) (w : List Int) : Nat → Bool
  | 0 => false
  | j + 1 => badW G w j || decide (w.getD j 0 = 0 ∨ (G.length : Int) < w.getD j 0 ∨ w.getD j 0 < -(G.length : Int))
def sayT (n : Nat) (G : List (List Int)) (w : List Int) : Nat → List Int
  | 0 => roundsL n
  | j + 1 => byL (sayT n G w j) (genL G (w.getD j 0))
section
variable {n i j k T : Nat} {G H R W N R2 W2 F : List (List Int)} {w l2 r x y z : List Int}
theorem badW_succ (h : badW G w k = false) (h2 : ¬ (w.getD k 0 = 0 ∨ (G.length : Int) < w.getD k 0 ∨ w.getD k 0 < -(G.length : Int))) : badW G w (k + 1) = false := by rw [badW, h, Bool.false_or]; exact decide_eq_false h2
theorem gen_ltr (hj : j < 2 * G.length) : genL G (ltrN j) = ltr G j ∧ ltrN j ≠ 0 ∧ ltrN j ≤ G.length ∧ -(G.length : Int) ≤ ltrN j := by
  unfold genL ltrN ltr
  by_cases h : j % 2 = 1
  · rw [if_pos h, if_pos h, if_pos (by omega)]
    refine ⟨?_, by omega, by omega, by omega⟩
    rw [show (-(-((j / 2 + 1 : Nat) : Int)) - 1).toNat = j / 2 by omega]
  · rw [if_neg h, if_neg h, if_neg (by omega)]
    refine ⟨?_, by omega, by omega, by omega⟩
    rw [show (((j / 2 + 1 : Nat) : Int) - 1).toNat = j / 2 by omega]
theorem badW_app {b : Int} : ∀ {k : Nat}, k ≤ w.length → badW G (w ++ [b]) k = badW G w k
  | 0, _ => rfl
  | k + 1, h => by
    rw [badW, badW, badW_app (by omega)]
    have : (w ++ [b]).getD k 0 = w.getD k 0 := by simp [List.getD_eq_getElem?_getD, List.getElem?_append_left (show k < w.length by omega)]
    rw [this]
theorem sayT_app {b : Int} : ∀ {k : Nat}, k ≤ w.length → sayT n G (w ++ [b]) k = sayT n G w k
  | 0, _ => rfl
  | k + 1, h => by
    rw [sayT, sayT, sayT_app (by omega)]
    have : (w ++ [b]).getD k 0 = w.getD k 0 := by simp [List.getD_eq_getElem?_getD, List.getElem?_append_left (show k < w.length by omega)]
    rw [this]
structure WordP (n : Nat) (G : List (List Int)) (w r : List Int) : Prop where
  ok : badW G w w.length = false
  eq : sayT n G w w.length = r
theorem WordP.nil : WordP n G [] (roundsL n) := ⟨rfl, rfl⟩
theorem WordP.snoc (h : WordP n G w r) (hj : j < 2 * G.length) : WordP n G (w ++ [ltrN j]) (byL r (ltr G j)) := by
  obtain ⟨a, b, c, d⟩ := gen_ltr (G := G) hj
  have e : (w ++ [ltrN j]).getD w.length 0 = ltrN j := by simp [List.getD_eq_getElem?_getD]
  refine ⟨?_, ?_⟩
  · rw [List.length_append, List.length_singleton]
    refine badW_succ (by rw [badW_app (Nat.le_refl _)]; exact h.ok) ?_
    rw [e]; omega
  · rw [List.length_append, List.length_singleton, sayT, sayT_app (Nat.le_refl _), h.eq, e, a]
/-! ### What every step keeps -/
structure PrW (n : Nat) (G H R W : List (List Int)) (i : Nat) (S : List (List Int) × List (List Int) × List Int) : Prop where
  word : ∀ k, k < S.1.length → WordP n G (S.2.1.getD k []) (S.1.getD k [])
  old : ∀ k, k < R.length → S.1.getD k [] = R.getD k []
  fnd : ∀ r k, fndP H R r = some k → fndP H S.1 r = some k
  line : ∀ j, j < S.2.2.length → fndP H S.1 (byL (R.getD i []) (ltr G j)) = some (S.2.2.getD j 0).toNat
theorem prJ_w (hP : PrtP n G H) (hR : Reps n G H R) (hw : W.length = R.length) (hW : ∀ k, k < R.length → WordP n G (W.getD k []) (R.getD k [])) (hi : i < R.length) : ∀ j, j ≤ 2 * G.length → PrW n G H R W i (prJ G H R W i j)
  | 0, _ => ⟨hW, fun _ _ => rfl, fun _ _ h => h, fun j h => by simp [prJ] at h⟩
  | j + 1, hj => by
    have ih := prJ_w hP hR hw hW hi j (by omega)
    have ok := prJ_ok hP hR hw hi j (by omega)
    have hlen := ok.len
    have hll := ok.ll
    have hcur : (prJ G H R W i j).1.getD i [] = R.getD i [] := ih.old i hi
    cases e : fndP H (prJ G H R W i j).1 (byL ((prJ G H R W i j).1.getD i []) (ltr G j)) with
    | some k =>
      rw [prJ_some e]
      refine ⟨ih.word, ih.old, ih.fnd, fun j' hj' => ?_⟩
      have hj' : j' < ((prJ G H R W i j).2.2 ++ [(k : Int)]).length := hj'
      rw [List.length_append, List.length_singleton] at hj'
      show fndP H _ _ = some (((prJ G H R W i j).2.2 ++ [(k : Int)]).getD j' 0).toNat
      by_cases h : j' = j
      · subst h
        rw [hcur] at e
        rw [e]
        have : ((prJ G H R W i j').2.2 ++ [(k : Int)]).getD j' 0 = (k : Int) := by
          conv => lhs; rw [← hll]
          simp [List.getD_eq_getElem?_getD, hll]
        rw [this]; rfl
      · rw [ih.line j' (by omega)]
        have : ((prJ G H R W i j).2.2 ++ [(k : Int)]).getD j' 0 = (prJ G H R W i j).2.2.getD j' 0 := by simp [List.getD_eq_getElem?_getD, List.getElem?_append_left (show j' < (prJ G H R W i j).2.2.length by omega)]
        rw [this]
    | none =>
      rw [prJ_none e]
      have mono : ∀ r k, fndP H (prJ G H R W i j).1 r = some k → fndP H ((prJ G H R W i j).1 ++ [byL ((prJ G H R W i j).1.getD i []) (ltr G j)]) r = some k := fun r k h => by rw [fnd_snoc, h]
      refine ⟨fun k hk => ?_, fun k hk => ?_, fun r k h => mono r k (ih.fnd r k h), fun j' hj' => ?_⟩
      · have hk : k < ((prJ G H R W i j).1 ++ [byL ((prJ G H R W i j).1.getD i []) (ltr G j)]).length := hk
        rw [List.length_append, List.length_singleton] at hk
        show WordP n G (((prJ G H R W i j).2.1 ++ [(prJ G H R W i j).2.1.getD i [] ++ [ltrN j]]).getD k []) (((prJ G H R W i j).1 ++ [byL ((prJ G H R W i j).1.getD i []) (ltr G j)]).getD k [])
        by_cases h : k < (prJ G H R W i j).1.length
        · rw [getD_snoc h, getD_snoc (by rw [ok.wl]; exact h)]; exact ih.word k h
        · have ek : k = (prJ G H R W i j).1.length := by omega
          subst ek
          rw [getD_last]
          conv => arg 3; rw [← ok.wl]
          rw [getD_last]
          exact (ih.word i (by omega)).snoc (by omega)
      · show (_ ++ [_] : List (List Int)).getD k [] = _
        rw [getD_snoc (by omega)]; exact ih.old k hk
      · have hj' : j' < ((prJ G H R W i j).2.2 ++ [((prJ G H R W i j).1.length : Int)]).length := hj'
        rw [List.length_append, List.length_singleton] at hj'
        show fndP H _ _ = some (((prJ G H R W i j).2.2 ++ [((prJ G H R W i j).1.length : Int)]).getD j' 0).toNat
        by_cases h : j' = j
        · subst h
          have hrr : RowN n (byL (R.getD i []) (ltr G j')) := (hR.rows hP hi).by (ltr_row hP.hG (by omega)).1
          have : ((prJ G H R W i j').2.2 ++ [((prJ G H R W i j').1.length : Int)]).getD j' 0 = ((prJ G H R W i j').1.length : Int) := by
            conv => lhs; rw [← hll]
            simp [List.getD_eq_getElem?_getD, hll]
          rw [this, fnd_snoc]
          rw [hcur] at e ⊢
          rw [e]
          simp only [if_pos (hP.refl hrr)]; rfl
        · rw [mono _ _ (ih.line j' (by omega))]
          have : ((prJ G H R W i j).2.2 ++ [((prJ G H R W i j).1.length : Int)]).getD j' 0 = (prJ G H R W i j).2.2.getD j' 0 := by simp [List.getD_eq_getElem?_getD, List.getElem?_append_left (show j' < (prJ G H R W i j).2.2.length by omega)]
          rw [this]
structure PrV (n : Nat) (G H : List (List Int)) (S : List (List Int) × List (List Int) × List (List Int)) : Prop where
  word : ∀ k, k < S.1.length → WordP n G (S.2.1.getD k []) (S.1.getD k [])
  line : ∀ i, i < S.2.2.length → ∀ j, j < 2 * G.length → fndP H S.1 (byL (S.1.getD i []) (ltr G j)) = some ((S.2.2.getD i []).getD j 0).toNat
theorem prI_v (hP : PrtP n G H) : ∀ i, (∀ i', i' < i → i' < (prI n G H i').1.length) → PrV n G H (prI n G H i)
  | 0, _ => ⟨fun k hk => by
      have hk : k < [roundsL n].length := hk
      have : k = 0 := by simp at hk; omega
      subst this; exact WordP.nil, fun i hi => by simp [prI] at hi⟩
  | i + 1, hl => by
    have ih := prI_v hP i fun i' hi' => hl i' (by omega)
    have ok := prI_ok hP i fun i' hi' => hl i' (by omega)
    have hi := hl i (by omega)
    have w := prJ_w hP ok.reps ok.wl ih.word hi (2 * G.length) (Nat.le_refl _)
    have okj := prJ_ok hP ok.reps ok.wl hi (2 * G.length) (Nat.le_refl _)
    rw [prI]
    refine ⟨w.word, fun i' hi' j hj => ?_⟩
    have hi' : i' < ((prI n G H i).2.2 ++ [(prJ G H (prI n G H i).1 (prI n G H i).2.1 i (2 * G.length)).2.2]).length := hi'
    rw [List.length_append, List.length_singleton, ok.nl] at hi'
    show fndP H (prJ G H (prI n G H i).1 (prI n G H i).2.1 i (2 * G.length)).1 (byL ((prJ G H (prI n G H i).1 (prI n G H i).2.1 i (2 * G.length)).1.getD i' []) (ltr G j)) = some ((((prI n G H i).2.2 ++ [(prJ G H (prI n G H i).1 (prI n G H i).2.1 i (2 * G.length)).2.2]).getD i' []).getD j 0).toNat
    by_cases h : i' < i
    · rw [getD_snoc (by rw [ok.nl]; exact h), w.old i' (by omega)]
      exact w.fnd _ _ (ih.line i' (by rw [ok.nl]; exact h) j hj)
    · have e : i' = i := by omega
      subst e
      rw [w.old i' hi]
      have e2 : ((prI n G H i').2.2 ++ [(prJ G H (prI n G H i').1 (prI n G H i').2.1 i' (2 * G.length)).2.2]).getD i' [] = (prJ G H (prI n G H i').1 (prI n G H i').2.1 i' (2 * G.length)).2.2 := by
        have := getD_last (l := (prI n G H i').2.2) (a := (prJ G H (prI n G H i').1 (prI n G H i').2.1 i' (2 * G.length)).2.2)
        rwa [ok.nl] at this
      rw [e2]
      exact w.line j (by rw [okj.ll]; exact hj)
theorem PrS.v (hP : PrtP n G H) (s : PrS n G H T R W N) : PrV n G H (R, W, N) := by
  have := prI_v hP T s.lt
  rwa [s.eq] at this
/-! ### All of the group -/
end
end Go.KL

/- A call that only reads what is owned: it is shown sealed, and its answer hangs on no memory. -/
namespace Go.KL
open Go.RowKit
theorem int_any {i : Int} : ∀ (σ τ : GW) v, (Ty.int i).has σ v → (Ty.int i).has τ v := fun _ _ _ h => h
section
variable {P : Program} {d : Option Tmp} {ty : TypeId} {pos : String} {af : Array Edge} {g : Option (Nat × Bool)} {a : Act} {σ : GW}
theorem y_callp {f : FuncId} {fn : Func} {xs : Array Operand} {x : Operand} {tys : Array TypeId} {k : Nat} {v : Value} {T R : Ty} (args : Array Value) (hR : ∀ σ τ v, R.has σ v → R.has τ v) (hs0 : ∃ σ' : GW, σ'.w = σ.w ∧ Stp k σ σ' ∧ T.has σ' v) (hk : 2 ≤ k) (hx : a.eval x = v)
    (hf : P.funcs[f]? = some fn) (hn : (fn.name == "runtime.NumGoroutine") = false) (hb : fn.body.isNone = false) (hargs : xs.map a.eval = args) (hc : ∀ σ' : GW, σ.Le σ' → T.has σ' (a.eval x) → FnC P f args σ' R) :
    Yld P ⟨d, .call ⟨.value (.func f), xs, tys⟩, ty, pos, af, g⟩ a σ R.pr := by
  intro K Q hk'
  have hr : (execOp a.eval ⟨d, .call ⟨.value (.func f), xs, tys⟩, ty, pos, af, g⟩).run P σ.w = .ok (.enter f args) σ.w := by
    have hn' : ¬ fn.name = "runtime.NumGoroutine" := by simpa using hn
    have hb' : ¬ fn.body = none := by intro e; simp [e] at hb
    simp only [execOp, resolve, hargs]
    simp [Act.eval, Deferred.ofValue, invoke, callFunc, hf, hn', hb', program, Sem.run, Sem.run_bind]
  unfold Oper.wp
  rw [hr]
  obtain ⟨σ', hw, hs, hT⟩ := hs0
  have hcc := hc σ' (hs.le (by omega)) (by rw [hx]; exact hT)
  unfold FnC at hcc
  rw [hw] at hcc
  refine Calls.mono hcc ?_
  rintro e' w' ⟨v', τ, rfl, hs2, rfl, hRv⟩
  have hlt : ∀ b, b < σ.w.heap.size → b < τ.w.heap.size := fun b hb => Nat.lt_of_lt_of_le hb (by have := hs2.size; rw [hw] at this; exact this)
  let ρ : GW := ⟨τ.w, fun b => if b < σ.w.heap.size then σ.st b else τ.st b, fun b hb => by
    by_cases hb2 : b < σ.w.heap.size
    · exact hlt b hb2
    · simp only [hb2, if_false] at hb; exact τ.lt b hb⟩
  have hst : Stp 0 σ ρ := ⟨by rw [show ρ.w = τ.w from rfl, hs2.os, hw], by rw [show ρ.w = τ.w from rfl, hs2.tape, hw], by rw [show ρ.w = τ.w from rfl, hs2.output, hw], by have := hs2.dr; rw [hw] at this; exact this, by have := hs2.size; rw [hw] at this; exact this,
    fun b hb _ => by have := hs2.blk b (by rw [hw]; exact hb) (.inl rfl); rw [hw] at this; exact this, fun b hb _ => by show (if b < σ.w.heap.size then σ.st b else τ.st b) = σ.st b; rw [if_pos hb]⟩
  exact hk' v' ρ hst (hR _ _ _ hRv)
theorem y_nilnil {t u : TypeId} {x y : Operand} {e : TypeId} (ht : P.underlying t = some (.pointer e)) (hx : a.eval x = .pointer none) (hy : a.eval y = .pointer none) : Yld P ⟨d, .binOp .eql t x y u, ty, pos, af, g⟩ a σ (Ty.bool true).pr := by
  have hp : P.underlying t = some (.pointer (P.pointee t)) := by
    have : P.pointee t = e := by simp [Program.pointee, ht]
    rw [this]; exact ht
  have h1 := run_eql_pointer_nil (P := P) (w := σ.w) t none hp
  refine Yld.of_run (v := .bool true) ?_ rfl
  simp only [execOp, hx, hy]
  simp_all [eqGuard]
end
end Go.KL

/- A label that is jumped back to. -/
namespace Go.KL
section
variable {P : Program} {Q : Exit → Act → World → Prop} {N : Act → World → Prop} {J : Act → World → Prop} {a : Act} {w : World} {l : Nat}
theorem jn (h : Q .normal a w) : Exit.jump l J Q .normal a w := h
theorem jg (h : J a w) : Exit.jump l J Q (.goto l) a w := ⟨rfl, h⟩
theorem scope_loop {c X : Code} (l : Nat) (J : Nat → Act → World → Prop) (hf : findLabel c l = some (Code.seq .skip X))
    (pass : ∀ n a w, J n a w → X.wp P (Exit.jump l (fun a' w' => ∃ m, m < n ∧ J m a' w') Q) a w)
    (first : (∀ n a w, J n a w → X.wp P (Exit.jump l (fun a' w' => ∃ m, J m a' w') Q) a w) → c.wp P (Exit.jump l (fun a' w' => ∃ m, J m a' w') Q) a w) : (Code.scope c).wp P Q a w := by
  classical
  have key : ∀ (a : Act) (w : World), (∃ n, J n a w) → ∃ n, J n a w ∧ ∀ m, m < n → ¬ J m a w := by
    rintro a w ⟨n, hn⟩
    induction n using Nat.strongRecOn with
    | _ n ih =>
    by_cases h : ∃ m, m < n ∧ J m a w
    · obtain ⟨m, hm, hi⟩ := h; exact ih m hm hi
    · exact ⟨n, hn, fun m hm hi => h ⟨m, hm, hi⟩⟩
  refine wp_scope_jumps l (fun a w => ∃ n, J n a w) (fun a w => if h : ∃ n, J n a w then Classical.choose (key a w h) else 0) hf (first fun n a w h => Code.wp_mono (fun e a' w' hq => ?_) (pass n a w h)) fun a w hI => ?_
  · cases e <;> try exact hq
    obtain ⟨e1, m, _, hm⟩ := hq
    exact ⟨e1, m, hm⟩
  · have hs := Classical.choose_spec (key a w hI)
    refine wp_seq ?_
    refine wp_skip ?_
    refine tn ?_
    refine Code.wp_mono (fun e a' w' hq => ?_) (pass _ a w hs.1)
    cases e <;> try exact hq
    obtain ⟨e1, m, hm, hi⟩ := hq
    have hex : ∃ n, J n a' w' := ⟨m, hi⟩
    refine ⟨e1, hex, ?_⟩
    have hs' := Classical.choose_spec (key a' w' hex)
    simp only [dif_pos hex, dif_pos hI]
    refine Nat.lt_of_le_of_lt (Nat.le_of_not_lt fun hlt => hs'.2 m hlt hi) hm
end
end Go.KL

