/- A region in whatever order, of which one operation appends to what another one has made. -/
import Derived.Test.YtkjifbgofckfeaaCosetMadeK3
namespace Go.KL
open Go.RowKit
variable {P : Program}

/-! ### The operation that writes appends to what an operation of the region has made -/
structure Mid5 (p q d c N : Nat) (D : List Deferred) (W : List Nat) (A B : Pr) (ops : Array Oper) (Φ : Nat → Ty) (a0 : Act) (σ0 : GW) (L : Nat → Bool) (a : Act) (σ : GW) : Prop where
  stp : StpL W σ0 σ
  stp0 : L p = false → Stp 0 σ0 σ
  ok : Ok N D a
  done : ∀ j, L j = true → rd ops (fun i => (Φ i).pr) j a σ
  doneq : L q = true → L p = false → A.has σ (a.eval (.tmp d))
  donep : L p = true → B.has σ (a.eval (.tmp c))
  same : ∀ t, (∀ j, dstOf ops j = some t → L j = false) → a.eval (.tmp t) = a0.eval (.tmp t)

def OblS5 (P : Program) (N d : Nat) (D : List Deferred) (W : List Nat) (A B : Pr) (ops : Array Oper) (Φ : Nat → Ty) (a0 : Act) (σ0 : GW) (i : Nat) (o : Oper) : Prop :=
  ∀ a σ, Stp 0 σ0 σ → Ok N D a → (∀ t, free ops i t = true → a.eval (.tmp t) = a0.eval (.tmp t)) → A.has σ (a.eval (.tmp d)) → Deps ops (fun i => (Φ i).pr) a σ o.after.toList (YldL W P o a σ (fun v τ => B.has τ v))
def Obls5 (P : Program) (p q d c N : Nat) (D : List Deferred) (W : List Nat) (A B : Pr) (ops : Array Oper) (Φ : Nat → Ty) (a0 : Act) (σ0 : GW) : Nat → List Oper → Prop
  | _, [] => True
  | i, o :: l => (if i = p then OblS5 P N d D W A B ops Φ a0 σ0 i o else if i = q then OblQ P N D A ops Φ a0 σ0 i o else Obl3 P N D W ops Φ a0 σ0 i o) ∧ Obls5 P p q d c N D W A B ops Φ a0 σ0 (i + 1) l
theorem Obls5.get {p q d c N : Nat} {D : List Deferred} {W : List Nat} {A B : Pr} {ops : Array Oper} {Φ : Nat → Ty} {a0 : Act} {σ0 : GW} : ∀ (l : List Oper) (k : Nat), Obls5 P p q d c N D W A B ops Φ a0 σ0 k l → ∀ j o, l[j]? = some o →
    (if k + j = p then OblS5 P N d D W A B ops Φ a0 σ0 (k + j) o else if k + j = q then OblQ P N D A ops Φ a0 σ0 (k + j) o else Obl3 P N D W ops Φ a0 σ0 (k + j) o)
  | [], _, _, j, o, h => by simp at h
  | x :: l, k, h, 0, o, hj => by simp at hj; subst hj; exact h.1
  | x :: l, k, h, j + 1, o, hj => by
    have := Obls5.get l (k + 1) h.2 j o (by simpa using hj)
    rwa [show k + 1 + j = k + (j + 1) by omega] at this
theorem Obls5.up {p q d c N : Nat} {D : List Deferred} {W : List Nat} {A B : Pr} {ops : Array Oper} {Φ : Nat → Ty} {a0 : Act} {σ0 σ1 : GW} (hs : Stp 0 σ0 σ1) : ∀ (l : List Oper) (k : Nat), Obls5 P p q d c N D W A B ops Φ a0 σ0 k l → Obls5 P p q d c N D W A B ops Φ a0 σ1 k l
  | [], _, _ => trivial
  | x :: l, k, h => by
    refine ⟨?_, Obls5.up hs l (k + 1) h.2⟩
    have h1 := h.1
    split at h1
    · rename_i e; rw [if_pos e]; exact fun a σ hs' => h1 a σ (hs.trans hs')
    · rename_i e
      rw [if_neg e]
      split at h1
      · rename_i e; rw [if_pos e]; exact fun a σ hs' => h1 a σ (hs.trans hs')
      · rename_i e; rw [if_neg e]; exact fun a σ hs' => h1 a σ (hs.toL0.trans hs')

theorem Mid5.op {p q d c N : Nat} {D : List Deferred} {W : List Nat} {A B : Pr} {ops : Array Oper} {Φ : Nat → Ty} {a0 : Act} {σ0 : GW} {L : Nat → Bool} {a : Act} {σ : GW} {i : Nat} {o : Oper} {Q : Exit → Act → World → Prop} {K : Act → World → Prop}
    (hF : Form N ops) (h1 : 1 ∉ W) (hp : dstOf ops p = some c) (hq : dstOf ops q = some d) (hpq : p ≠ q) (hΦ : ∀ e v, (Φ q).has e v) (hΦp : ∀ e v, (Φ p).has e v) (hpg : ∀ o, ops[p]? = some o → o.guard = none ∧ ∃ e ∈ o.after, Region.binds .any e = true ∧ e.on = q) (hm : Mid5 p q d c N D W A B ops Φ a0 σ0 L a σ) (ho : ops[i]? = some o) (hL : L i = false)
    (hpo : ∃ o, ops[p]? = some o)
    (hob : if i = p then OblS5 P N d D W A B ops Φ a0 σ0 i o else if i = q then OblQ P N D A ops Φ a0 σ0 i o else Obl3 P N D W ops Φ a0 σ0 i o)
    (hall : ∀ e ∈ o.after, Region.binds .any e = true → L e.on = true) (hclosed : ∀ (j : Nat) oj, ops[j]? = some oj → L j = true → ∀ e ∈ oj.after, Region.binds .any e = true → L e.on = true)
    (hK : ∀ a' σ', Mid5 p q d c N D W A B ops Φ a0 σ0 (fun j => L j || j == i) a' σ' → K a' σ'.w) : wpOp P ops Q i K a σ.w := by
  have hdi : dstOf ops i = o.dst := by simp [dstOf, ho]
  have hsame : ∀ t, free ops i t = true → a.eval (.tmp t) = a0.eval (.tmp t) := by
    intro t ht
    refine hm.same t fun j hj => ?_
    cases hLj : L j with
    | false => rfl
    | true =>
      exfalso
      unfold dstOf at hj
      obtain ⟨oj, hoj, hd⟩ := Option.bind_eq_some_iff.1 hj
      unfold free at ht
      have := (List.all_eq_true.1 ht) oj (List.mem_of_getElem? hoj)
      simp only [hd, bne_self_eq_false, Bool.false_or, List.any_eq_true, Bool.and_eq_true, beq_iff_eq] at this
      obtain ⟨e, he, hb, hon⟩ := this
      have := hclosed j oj (by simpa using hoj) hLj e (by simpa using he) hb
      rw [hon, hL] at this
      cases this
  have hLpq : L p = true → L q = true := fun h => by
    obtain ⟨op, hop⟩ := hpo
    obtain ⟨_, e, he, hb, hon⟩ := hpg op hop
    rw [← hon]; exact hclosed p op hop h e he hb
  have hdeps : ∀ e ∈ o.after.toList, Region.binds .any e = true → rd ops (fun i => (Φ i).pr) e.on a σ := fun e he hb => hm.done e.on (hall e (by simpa using he) hb)
  have done' : ∀ v (τ : GW), σ.Le τ → ((Φ i).has τ v ∨ dstOf ops i = none) → ∀ j, (L j || j == i) = true → rd ops (fun i => (Φ i).pr) j (a.put o.dst v) τ := by
    intro v τ hle hv j hLj
    by_cases hji : j = i
    · subst hji
      unfold rd
      cases hd : dstOf ops j with
      | none => trivial
      | some d =>
        have : o.dst = some d := by rw [← hdi]; exact hd
        simp only [this]
        rw [eval_put_same hm.ok (hF.lt j d hd)]
        exact hv.resolve_right (by rw [hd]; simp)
    · have hLj' : L j = true := by simpa [hji] using hLj
      have h0 := hm.done j hLj'
      unfold rd at h0 ⊢
      cases hd : dstOf ops j with
      | none => trivial
      | some d =>
        rw [hd] at h0
        simp only at h0 ⊢
        rw [eval_put_ne (fun he => hji (hF.uniq j i d hd (by rw [hdi]; exact he)))]
        exact (Φ j).up hle h0
  have same' : ∀ v t, (∀ j, dstOf ops j = some t → (L j || j == i) = false) → (a.put o.dst v).eval (.tmp t) = a0.eval (.tmp t) := by
    intro v t ht
    have h1 : o.dst ≠ some t := fun he => by
      have := ht i (by rw [hdi]; exact he)
      simp at this
    rw [eval_put_ne h1]
    exact hm.same t fun j hj => by
      have := ht j hj
      simp at this
      exact this.1
  by_cases hip : i = p
  · subst hip
    rw [if_pos rfl] at hob
    obtain ⟨hg, e, he, hb, hon⟩ := hpg o ho
    have hLq : L q = true := by rw [← hon]; exact hall e he hb
    have hy := Deps.elim o.after.toList hdeps (hob a σ (hm.stp0 hL) hm.ok hsame (hm.doneq hLq hL))
    have hdn : o.dst = some c := by rw [← hdi]; exact hp
    unfold wpOp
    simp only [ho]
    have hw : Region.wanted o (yielded ops a.tmps) = true := by simp [Region.wanted, hg]
    rw [if_pos hw]
    refine .inl (hy K Q fun v τ hs hr => hK _ τ ⟨hm.stp.trans hs, fun h => (by simp at h), hm.ok.put _ _, done' v τ (hs.le h1) (.inl (hΦp _ _)), fun _ h => (by simp at h), fun _ => ?_, same' v⟩)
    rw [hdn, eval_put_same hm.ok (hF.lt i c hp)]
    exact hr
  · rw [if_neg hip] at hob
    by_cases hiq : i = q
    · subst hiq
      rw [if_pos rfl] at hob
      have hLp : L p = false := by
        cases h : L p with
        | false => rfl
        | true => rw [hLpq h] at hL; cases hL
      have hrun := Deps.elim o.after.toList hdeps (hob a σ (hm.stp0 hLp) hm.ok hsame)
      have next : ∀ v τ, Stp 0 σ τ → A.has τ v → K (a.put o.dst v) τ.w := by
        intro v τ hs hv
        refine hK _ τ ⟨hm.stp.trans hs.toL0, fun _ => (hm.stp0 hLp).trans hs, hm.ok.put _ _, done' v τ hs.le0 (.inl (hΦ _ _)), fun _ _ => ?_, fun h => ?_, same' v⟩
        · have : o.dst = some d := by rw [← hdi]; exact hq
          rw [this, eval_put_same hm.ok (hF.lt i d hq)]
          exact hv
        · rw [hLp] at h
          simp at h; exact absurd h hpq
      unfold wpOp
      simp only [ho]
      by_cases hw : Region.wanted o (yielded ops a.tmps) = true
      · rw [if_pos hw]
        exact .inl (hrun.1 hw K Q next)
      · rw [if_neg hw]
        exact next undef σ (Stp.refl _ _) (hrun.2 (by simpa using hw))
    · rw [if_neg hiq] at hob
      have hrun := Deps.elim o.after.toList hdeps (hob a σ hm.stp hm.ok hsame)
      have hne : o.dst ≠ some d := fun he => hiq (hF.uniq i q d (by rw [hdi]; exact he) hq)
      have hne2 : o.dst ≠ some c := fun he => hip (hF.uniq i p c (by rw [hdi]; exact he) hp)
      have next : ∀ v τ, Stp 0 σ τ → (Φ i).has τ v → K (a.put o.dst v) τ.w := by
        intro v τ hs hv
        refine hK _ τ ⟨hm.stp.trans hs.toL0, fun h => ?_, hm.ok.put _ _, done' v τ hs.le0 (.inl hv), fun h h2 => ?_, fun h => ?_, same' v⟩
        · simp at h; exact (hm.stp0 h.1).trans hs
        · have hLq : L q = true := by simpa [Ne.symm hiq] using h
          have hLp : L p = false := by simp at h2; exact h2.1
          rw [eval_put_ne hne]
          exact A.up hs (hm.doneq hLq hLp)
        · have hLp : L p = true := by simpa [Ne.symm hip] using h
          rw [eval_put_ne hne2]
          exact B.up hs (hm.donep hLp)
      unfold wpOp
      simp only [ho]
      by_cases hw : Region.wanted o (yielded ops a.tmps) = true
      · rw [if_pos hw]
        exact .inl (hrun.1 hw K Q next)
      · rw [if_neg hw]
        exact next undef σ (Stp.refl _ _) (hrun.2 (by simpa using hw))
end Go.KL

/- A region in whatever order, of which one operation appends to what another one has made (sealed at once), and a third one writes what was there. -/
namespace Go.KL
open Go.RowKit
variable {P : Program}

theorem StpL.wid {L L' : List Nat} {σ τ : GW} (h : StpL L σ τ) (hL : ∀ x ∈ L, x ∈ L') : StpL L' σ τ :=
  ⟨h.os, h.tape, h.output, h.dr, h.size, fun b hb hm => h.blk b hb fun hx => hm (hL _ hx), fun b hb hm => h.st b hb fun hx => hm (hL _ hx)⟩
/-! ### The operation that writes appends to what an operation of the region has made; another one writes; another one writes -/
structure Mid6 (p q r z d c y N : Nat) (D : List Deferred) (W V : List Nat) (Z A B : Pr) (ops : Array Oper) (Φ : Nat → Ty) (a0 : Act) (σ0 : GW) (L : Nat → Bool) (a : Act) (σ : GW) : Prop where
  stp : StpL (W ++ V) σ0 σ
  stp1 : L r = false → StpL W σ0 σ
  stp0 : L p = false → Stp 0 σ0 σ
  ok : Ok N D a
  done : ∀ j, L j = true → rd ops (fun i => (Φ i).pr) j a σ
  donez : L z = true → L q = false → Z.has σ (a.eval (.tmp y))
  doneq : L q = true → L p = false → A.has σ (a.eval (.tmp d))
  donep : L r = true → B.has σ (a.eval (.tmp c))
  same : ∀ t, (∀ j, dstOf ops j = some t → L j = false) → a.eval (.tmp t) = a0.eval (.tmp t)

def OblS6 (P : Program) (N d : Nat) (D : List Deferred) (W : List Nat) (A : Pr) (T : Ty) (ops : Array Oper) (Φ : Nat → Ty) (a0 : Act) (σ0 : GW) (i : Nat) (o : Oper) : Prop :=
  ∀ a σ, Stp 0 σ0 σ → Ok N D a → (∀ t, free ops i t = true → a.eval (.tmp t) = a0.eval (.tmp t)) → A.has σ (a.eval (.tmp d)) → Deps ops (fun i => (Φ i).pr) a σ o.after.toList (YldL W P o a σ (fun v τ => T.has τ v))
def OblQ2 (P : Program) (N y : Nat) (D : List Deferred) (Z A : Pr) (ops : Array Oper) (Φ : Nat → Ty) (a0 : Act) (σ0 : GW) (i : Nat) (o : Oper) : Prop :=
  ∀ a σ, Stp 0 σ0 σ → Ok N D a → (∀ t, free ops i t = true → a.eval (.tmp t) = a0.eval (.tmp t)) → Z.has σ (a.eval (.tmp y)) → Deps ops (fun i => (Φ i).pr) a σ o.after.toList (Run P ops o a σ A)
def OblV (P : Program) (N : Nat) (D : List Deferred) (W V : List Nat) (B : Pr) (ops : Array Oper) (Φ : Nat → Ty) (a0 : Act) (σ0 : GW) (i : Nat) (o : Oper) : Prop :=
  ∀ a σ, StpL W σ0 σ → Ok N D a → (∀ t, free ops i t = true → a.eval (.tmp t) = a0.eval (.tmp t)) → Deps ops (fun i => (Φ i).pr) a σ o.after.toList (YldL V P o a σ (fun v τ => B.has τ v))
def earlyB (r : Nat) (ops : Array Oper) (i : Nat) : Bool := ((ancs ops.toList []).getD r []).contains i
theorem early_spec {r : Nat} {ops : Array Oper} {i : Nat} {L : Nat → Bool} (h : earlyB r ops i = true) (hr : ∃ o, ops[r]? = some o)
    (hcl : ∀ (j : Nat) oj, ops[j]? = some oj → L j = true → ∀ e ∈ oj.after, Region.binds .any e = true → L e.on = true) (hL : L r = true) : L i = true := by
  have hcl' : ∀ (j : Nat) o, ops.toList[j]? = some o → L j = true → ∀ e ∈ edges o, L e = true := fun j o ho hj e he => by
    unfold edges at he
    obtain ⟨x, hx, rfl⟩ := List.mem_map.1 he
    obtain ⟨h1, h2⟩ := List.mem_filter.1 hx
    exact hcl j o (by simpa using ho) hj x (by simpa using h1) h2
  obtain ⟨o, ho⟩ := hr
  have ho' : ops.toList[r]? = some o := by simpa using ho
  have := ancs_spec (all := ops.toList) hcl' ops.toList [] (fun j => by simp) (by simp) (fun i o _ hi => by simp at hi) r o ho' (fun e he => hcl' r o ho' hL e he)
  unfold earlyB at h
  exact this i (List.contains_iff_mem.1 h)
def Obls6 (P : Program) (p q r z d c y N : Nat) (D : List Deferred) (W V : List Nat) (Z A B : Pr) (ops : Array Oper) (Φ : Nat → Ty) (a0 : Act) (σ0 : GW) : Nat → List Oper → Prop
  | _, [] => True
  | i, o :: l => (if i = p then OblS6 P N d D W A (Φ p) ops Φ a0 σ0 i o else if i = q then OblQ2 P N y D Z A ops Φ a0 σ0 i o else if i = z then OblQ P N D Z ops Φ a0 σ0 i o else if i = r then OblV P N D W V B ops Φ a0 σ0 i o else if earlyB r ops i = true then Obl3 P N D W ops Φ a0 σ0 i o else Obl3 P N D (W ++ V) ops Φ a0 σ0 i o) ∧ Obls6 P p q r z d c y N D W V Z A B ops Φ a0 σ0 (i + 1) l
theorem Obls6.get {p q r z d c y N : Nat} {D : List Deferred} {W V : List Nat} {Z A B : Pr} {ops : Array Oper} {Φ : Nat → Ty} {a0 : Act} {σ0 : GW} : ∀ (l : List Oper) (k : Nat), Obls6 P p q r z d c y N D W V Z A B ops Φ a0 σ0 k l → ∀ j o, l[j]? = some o →
    (if k + j = p then OblS6 P N d D W A (Φ p) ops Φ a0 σ0 (k + j) o else if k + j = q then OblQ2 P N y D Z A ops Φ a0 σ0 (k + j) o else if k + j = z then OblQ P N D Z ops Φ a0 σ0 (k + j) o else if k + j = r then OblV P N D W V B ops Φ a0 σ0 (k + j) o else if earlyB r ops (k + j) = true then Obl3 P N D W ops Φ a0 σ0 (k + j) o else Obl3 P N D (W ++ V) ops Φ a0 σ0 (k + j) o)
  | [], _, _, j, o, h => by simp at h
  | x :: l, k, h, 0, o, hj => by simp at hj; subst hj; exact h.1
  | x :: l, k, h, j + 1, o, hj => by
    have := Obls6.get l (k + 1) h.2 j o (by simpa using hj)
    rwa [show k + 1 + j = k + (j + 1) by omega] at this
theorem Obls6.up {p q r z d c y N : Nat} {D : List Deferred} {W V : List Nat} {Z A B : Pr} {ops : Array Oper} {Φ : Nat → Ty} {a0 : Act} {σ0 σ1 : GW} (hs : Stp 0 σ0 σ1) : ∀ (l : List Oper) (k : Nat), Obls6 P p q r z d c y N D W V Z A B ops Φ a0 σ0 k l → Obls6 P p q r z d c y N D W V Z A B ops Φ a0 σ1 k l
  | [], _, _ => trivial
  | x :: l, k, h => by
    refine ⟨?_, Obls6.up hs l (k + 1) h.2⟩
    have h1 := h.1
    split at h1
    · rename_i e; rw [if_pos e]; exact fun a σ hs' => h1 a σ (hs.trans hs')
    · rename_i e
      rw [if_neg e]
      split at h1
      · rename_i e; rw [if_pos e]; exact fun a σ hs' => h1 a σ (hs.trans hs')
      · rename_i e
        rw [if_neg e]
        split at h1
        · rename_i e; rw [if_pos e]; exact fun a σ hs' => h1 a σ (hs.trans hs')
        · rename_i e
          rw [if_neg e]
          split at h1
          · rename_i e; rw [if_pos e]; exact fun a σ hs' => h1 a σ (hs.toL0.trans hs')
          · rename_i e
            rw [if_neg e]
            split at h1
            · rename_i e; rw [if_pos e]; exact fun a σ hs' => h1 a σ (hs.toL0.trans hs')
            · rename_i e; rw [if_neg e]; exact fun a σ hs' => h1 a σ (hs.toL0.trans hs')

theorem Mid6.op {p q r t z d c y N : Nat} {D : List Deferred} {W V : List Nat} {Z A B : Pr} {ops : Array Oper} {Φ : Nat → Ty} {a0 : Act} {σ0 : GW} {L : Nat → Bool} {a : Act} {σ : GW} {i : Nat} {o : Oper} {Q : Exit → Act → World → Prop} {K : Act → World → Prop}
    (hF : Form N ops) (h1 : 1 ∉ W) (h1V : 1 ∉ V) (hr : dstOf ops r = some c) (hq : dstOf ops q = some d) (hpq : p ≠ q) (hrp : r ≠ p) (hrq : r ≠ q) (hzq : z ≠ q) (hzp : z ≠ p) (hzr : z ≠ r) (hz : dstOf ops z = some y) (hΦz : ∀ e v, (Φ z).has e v) (hqg : ∀ o, ops[q]? = some o → o.guard = none ∧ ∃ e ∈ o.after, Region.binds .any e = true ∧ e.on = z) (hqo : ∃ o, ops[q]? = some o) (hΦ : ∀ e v, (Φ q).has e v) (hΦr : ∀ e v, (Φ r).has e v) (hpg : ∀ o, ops[p]? = some o → o.guard = none ∧ ∃ e ∈ o.after, Region.binds .any e = true ∧ e.on = q) (hrg : ∀ o, ops[r]? = some o → o.guard = none) (hrs : ∀ o, ops[r]? = some o → ∃ e ∈ o.after, Region.binds .any e = true ∧ e.on = t) (hts : ∃ ot, ops[t]? = some ot ∧ ∃ e ∈ ot.after, Region.binds .any e = true ∧ e.on = p) (hro : ∃ o, ops[r]? = some o) (hm : Mid6 p q r z d c y N D W V Z A B ops Φ a0 σ0 L a σ) (ho : ops[i]? = some o) (hL : L i = false)
    (hpo : ∃ o, ops[p]? = some o)
    (hob : if i = p then OblS6 P N d D W A (Φ p) ops Φ a0 σ0 i o else if i = q then OblQ2 P N y D Z A ops Φ a0 σ0 i o else if i = z then OblQ P N D Z ops Φ a0 σ0 i o else if i = r then OblV P N D W V B ops Φ a0 σ0 i o else if earlyB r ops i = true then Obl3 P N D W ops Φ a0 σ0 i o else Obl3 P N D (W ++ V) ops Φ a0 σ0 i o)
    (hall : ∀ e ∈ o.after, Region.binds .any e = true → L e.on = true) (hclosed : ∀ (j : Nat) oj, ops[j]? = some oj → L j = true → ∀ e ∈ oj.after, Region.binds .any e = true → L e.on = true)
    (hK : ∀ a' σ', Mid6 p q r z d c y N D W V Z A B ops Φ a0 σ0 (fun j => L j || j == i) a' σ' → K a' σ'.w) : wpOp P ops Q i K a σ.w := by
  have hdi : dstOf ops i = o.dst := by simp [dstOf, ho]
  have hsame : ∀ u, free ops i u = true → a.eval (.tmp u) = a0.eval (.tmp u) := by
    intro u ht
    refine hm.same u fun j hj => ?_
    cases hLj : L j with
    | false => rfl
    | true =>
      exfalso
      unfold dstOf at hj
      obtain ⟨oj, hoj, hd⟩ := Option.bind_eq_some_iff.1 hj
      unfold free at ht
      have := (List.all_eq_true.1 ht) oj (List.mem_of_getElem? hoj)
      simp only [hd, bne_self_eq_false, Bool.false_or, List.any_eq_true, Bool.and_eq_true, beq_iff_eq] at this
      obtain ⟨e, he, hb, hon⟩ := this
      have := hclosed j oj (by simpa using hoj) hLj e (by simpa using he) hb
      rw [hon, hL] at this
      cases this
  have hLpq : L p = true → L q = true := fun h => by
    obtain ⟨op, hop⟩ := hpo
    obtain ⟨_, e, he, hb, hon⟩ := hpg op hop
    rw [← hon]; exact hclosed p op hop h e he hb
  have hLqz : L q = true → L z = true := fun h => by
    obtain ⟨op, hop⟩ := hqo
    obtain ⟨_, e, he, hb, hon⟩ := hqg op hop
    rw [← hon]; exact hclosed q op hop h e he hb
  have hLtp : L t = true → L p = true := fun h => by
    obtain ⟨ot, hot, e, he, hb, hon⟩ := hts
    rw [← hon]; exact hclosed t ot hot h e he hb
  have hLrp : L r = true → L p = true := fun h => by
    obtain ⟨o', ho'⟩ := hro
    obtain ⟨e, he, hb, hon⟩ := hrs o' ho'
    exact hLtp (by rw [← hon]; exact hclosed r o' ho' h e he hb)
  have hdeps : ∀ e ∈ o.after.toList, Region.binds .any e = true → rd ops (fun i => (Φ i).pr) e.on a σ := fun e he hb => hm.done e.on (hall e (by simpa using he) hb)
  have done' : ∀ v (τ : GW), σ.Le τ → ((Φ i).has τ v ∨ dstOf ops i = none) → ∀ j, (L j || j == i) = true → rd ops (fun i => (Φ i).pr) j (a.put o.dst v) τ := by
    intro v τ hle hv j hLj
    by_cases hji : j = i
    · subst hji
      unfold rd
      cases hd : dstOf ops j with
      | none => trivial
      | some d =>
        have : o.dst = some d := by rw [← hdi]; exact hd
        simp only [this]
        rw [eval_put_same hm.ok (hF.lt j d hd)]
        exact hv.resolve_right (by rw [hd]; simp)
    · have hLj' : L j = true := by simpa [hji] using hLj
      have h0 := hm.done j hLj'
      unfold rd at h0 ⊢
      cases hd : dstOf ops j with
      | none => trivial
      | some d =>
        rw [hd] at h0
        simp only at h0 ⊢
        rw [eval_put_ne (fun he => hji (hF.uniq j i d hd (by rw [hdi]; exact he)))]
        exact (Φ j).up hle h0
  have same' : ∀ v t, (∀ j, dstOf ops j = some t → (L j || j == i) = false) → (a.put o.dst v).eval (.tmp t) = a0.eval (.tmp t) := by
    intro v t ht
    have h1 : o.dst ≠ some t := fun he => by
      have := ht i (by rw [hdi]; exact he)
      simp at this
    rw [eval_put_ne h1]
    exact hm.same t fun j hj => by
      have := ht j hj
      simp at this
      exact this.1
  by_cases hip : i = p
  · subst hip
    rw [if_pos rfl] at hob
    obtain ⟨hg, e, he, hb, hon⟩ := hpg o ho
    have hLq : L q = true := by rw [← hon]; exact hall e he hb
    have hLr : L r = false := by
      cases h : L r with
      | false => rfl
      | true => rw [hLrp h] at hL; cases hL
    have hy := Deps.elim o.after.toList hdeps (hob a σ (hm.stp0 hL) hm.ok hsame (hm.doneq hLq hL))
    unfold wpOp
    simp only [ho]
    have hw : Region.wanted o (yielded ops a.tmps) = true := by simp [Region.wanted, hg]
    rw [if_pos hw]
    refine .inl (hy K Q fun v τ hs hv => hK _ τ ⟨hm.stp.trans (hs.wid fun x hx => List.mem_append_left _ hx), fun _ => (hm.stp1 hLr).trans hs, fun h => (by simp at h), hm.ok.put _ _, done' v τ (hs.le h1) (.inl hv), fun _ h => (by rw [hLq] at h; simp at h), fun _ h => (by simp at h), fun h => ?_, same' v⟩)
    rw [hLr] at h
    simp at h; exact absurd h hrp
  · rw [if_neg hip] at hob
    by_cases hiq : i = q
    · subst hiq
      rw [if_pos rfl] at hob
      have hLp : L p = false := by
        cases h : L p with
        | false => rfl
        | true => rw [hLpq h] at hL; cases hL
      have hLr : L r = false := by
        cases h : L r with
        | false => rfl
        | true => rw [hLrp h] at hLp; cases hLp
      obtain ⟨hg, e, he, hb, hon⟩ := hqg o ho
      have hLz : L z = true := by rw [← hon]; exact hall e he hb
      have hrun := Deps.elim o.after.toList hdeps (hob a σ (hm.stp0 hLp) hm.ok hsame (hm.donez hLz hL))
      have next : ∀ v τ, Stp 0 σ τ → A.has τ v → K (a.put o.dst v) τ.w := by
        intro v τ hs hv
        refine hK _ τ ⟨hm.stp.trans hs.toL0, fun _ => (hm.stp1 hLr).trans hs.toL0, fun _ => (hm.stp0 hLp).trans hs, hm.ok.put _ _, done' v τ hs.le0 (.inl (hΦ _ _)), fun _ h => (by simp at h), fun _ _ => ?_, fun h => ?_, same' v⟩
        · have : o.dst = some d := by rw [← hdi]; exact hq
          rw [this, eval_put_same hm.ok (hF.lt i d hq)]
          exact hv
        · rw [hLr] at h
          simp at h; exact absurd h hrq
      unfold wpOp
      simp only [ho]
      by_cases hw : Region.wanted o (yielded ops a.tmps) = true
      · rw [if_pos hw]
        exact .inl (hrun.1 hw K Q next)
      · rw [if_neg hw]
        exact next undef σ (Stp.refl _ _) (hrun.2 (by simpa using hw))
    · rw [if_neg hiq] at hob
      by_cases hiz : i = z
      · subst hiz
        rw [if_pos rfl] at hob
        have hLq : L q = false := by
          cases h : L q with
          | false => rfl
          | true => rw [hLqz h] at hL; cases hL
        have hLp : L p = false := by
          cases h : L p with
          | false => rfl
          | true => rw [hLpq h] at hLq; cases hLq
        have hLr : L r = false := by
          cases h : L r with
          | false => rfl
          | true => rw [hLrp h] at hLp; cases hLp
        have hrun := Deps.elim o.after.toList hdeps (hob a σ (hm.stp0 hLp) hm.ok hsame)
        have next : ∀ v τ, Stp 0 σ τ → Z.has τ v → K (a.put o.dst v) τ.w := by
          intro v τ hs hv
          refine hK _ τ ⟨hm.stp.trans hs.toL0, fun _ => (hm.stp1 hLr).trans hs.toL0, fun _ => (hm.stp0 hLp).trans hs, hm.ok.put _ _, done' v τ hs.le0 (.inl (hΦz _ _)), fun _ _ => ?_, fun h _ => ?_, fun h => ?_, same' v⟩
          · have : o.dst = some y := by rw [← hdi]; exact hz
            rw [this, eval_put_same hm.ok (hF.lt i y hz)]
            exact hv
          · rw [hLq] at h
            simp at h; exact absurd h.symm hzq
          · rw [hLr] at h
            simp at h; exact absurd h.symm hzr
        unfold wpOp
        simp only [ho]
        by_cases hw : Region.wanted o (yielded ops a.tmps) = true
        · rw [if_pos hw]
          exact .inl (hrun.1 hw K Q next)
        · rw [if_neg hw]
          exact next undef σ (Stp.refl _ _) (hrun.2 (by simpa using hw))
      · rw [if_neg hiz] at hob
        have hne0 : o.dst ≠ some y := fun he => hiz (hF.uniq i z y (by rw [hdi]; exact he) hz)
        have hne : o.dst ≠ some d := fun he => hiq (hF.uniq i q d (by rw [hdi]; exact he) hq)
        by_cases hir : i = r
        · subst hir
          rw [if_pos rfl] at hob
          have hg := hrg o ho
          have hLp : L p = true := by
            obtain ⟨e, he, hb, hon⟩ := hrs o ho
            exact hLtp (by rw [← hon]; exact hall e he hb)
          have hy := Deps.elim o.after.toList hdeps (hob a σ (hm.stp1 hL) hm.ok hsame)
          have hdn : o.dst = some c := by rw [← hdi]; exact hr
          unfold wpOp
          simp only [ho]
          have hw : Region.wanted o (yielded ops a.tmps) = true := by simp [Region.wanted, hg]
          rw [if_pos hw]
          refine .inl (hy K Q fun v τ hs hv => hK _ τ ⟨hm.stp.trans (hs.wid fun x hx => List.mem_append_right _ hx), fun h => (by simp at h), fun h => (by rw [hLp] at h; simp at h), hm.ok.put _ _, done' v τ (hs.le h1V) (.inl (hΦr _ _)), fun _ h => (by rw [hLpq hLp] at h; simp at h), fun _ h => (by rw [hLp] at h; simp at h), fun _ => ?_, same' v⟩)
          rw [hdn, eval_put_same hm.ok (hF.lt i c hr)]
          exact hv
        · rw [if_neg hir] at hob
          have hrun : Run P ops o a σ (Φ i).pr := by
            by_cases hea : earlyB r ops i = true
            · rw [if_pos hea] at hob
              have hLr : L r = false := by
                cases h : L r with
                | false => rfl
                | true => rw [early_spec hea hro hclosed h] at hL; cases hL
              exact Deps.elim o.after.toList hdeps (hob a σ (hm.stp1 hLr) hm.ok hsame)
            · rw [if_neg hea] at hob
              exact Deps.elim o.after.toList hdeps (hob a σ hm.stp hm.ok hsame)
          have hne2 : o.dst ≠ some c := fun he => hir (hF.uniq i r c (by rw [hdi]; exact he) hr)
          have next : ∀ v τ, Stp 0 σ τ → (Φ i).has τ v → K (a.put o.dst v) τ.w := by
            intro v τ hs hv
            refine hK _ τ ⟨hm.stp.trans hs.toL0, fun h => ?_, fun h => ?_, hm.ok.put _ _, done' v τ hs.le0 (.inl hv), fun h h2 => ?_, fun h h2 => ?_, fun h => ?_, same' v⟩
            · simp at h; exact (hm.stp1 h.1).trans hs.toL0
            · simp at h; exact (hm.stp0 h.1).trans hs
            · have hLz : L z = true := by simpa [Ne.symm hiz] using h
              have hLq : L q = false := by simp at h2; exact h2.1
              rw [eval_put_ne hne0]
              exact Z.up hs (hm.donez hLz hLq)
            · have hLq : L q = true := by simpa [Ne.symm hiq] using h
              have hLp : L p = false := by simp at h2; exact h2.1
              rw [eval_put_ne hne]
              exact A.up hs (hm.doneq hLq hLp)
            · have hLr : L r = true := by simpa [Ne.symm hir] using h
              rw [eval_put_ne hne2]
              exact B.up hs (hm.donep hLr)
          unfold wpOp
          simp only [ho]
          by_cases hw : Region.wanted o (yielded ops a.tmps) = true
          · rw [if_pos hw]
            exact .inl (hrun.1 hw K Q next)
          · rw [if_neg hw]
            exact next undef σ (Stp.refl _ _) (hrun.2 (by simpa using hw))
theorem reg6 {N : Nat} {D : List Deferred} {ops : Array Oper} {id : Nat} {draw : Bool} {Q : Exit → Act → World → Prop} {a : Act} {σ : GW} (hP : P.follows .mixedOrders = true) (m p q r t z d c y : Nat) (W V : List Nat) (h1 : 1 ∉ W) (h1V : 1 ∉ V) (Z A B : Pr) (Φ : Nat → Ty) (ok : Ok N D a) (hF : formB N ops = true) (hm : m ≤ ops.size) (hB : (!draw || forcedB m ops.toList) = true)
    (hpm : p < m) (hqm : q < m) (hrm : r < m) (hpq : p ≠ q) (hrp : r ≠ p) (hrq : r ≠ q) (hzq : z ≠ q) (hzp : z ≠ p) (hzr : z ≠ r) (hr : dstOf ops r = some c) (hq : dstOf ops q = some d) (hz : dstOf ops z = some y) (hΦz : ∀ e v, (Φ z).has e v) (hΦ : ∀ e v, (Φ q).has e v) (hΦr : ∀ e v, (Φ r).has e v) (hrg : (ops.toList[r]?).any (fun o => o.guard.isNone && o.after.toList.any (fun e => Region.binds .any e && e.on == t)) = true) (hqg : (ops.toList[q]?).any (fun o => o.guard.isNone && o.after.toList.any (fun e => Region.binds .any e && e.on == z)) = true) (htg : (ops.toList[t]?).any (fun o => o.after.toList.any (fun e => Region.binds .any e && e.on == p)) = true) (hpg : (ops.toList[p]?).any (fun o => o.guard.isNone && o.after.toList.any (fun e => Region.binds .any e && e.on == q)) = true) (hob : Obls6 P p q r z d c y N D W V Z A B ops Φ a σ 0 (ops.toList.take m))
    (hQ : ∀ a' σ', Half3 m c N D (W ++ V) B ops Φ a σ a' σ' → wpList P ops Q (ops.toList.drop m) a' σ'.w) : (Code.region id ops draw).wp P Q a σ.w := by
  have hF' := Form.of_B hF
  obtain ⟨op, hop, hpg⟩ : ∃ o, ops.toList[p]? = some o ∧ (o.guard.isNone && o.after.toList.any (fun e => Region.binds .any e && e.on == q)) = true := by
    cases h : ops.toList[p]? with
    | none => rw [h] at hpg; cases hpg
    | some o => rw [h] at hpg; exact ⟨o, rfl, hpg⟩
  have hop' : ops[p]? = some op := by simpa using hop
  have hpg' : ∀ o, ops[p]? = some o → o.guard = none ∧ ∃ e ∈ o.after, Region.binds .any e = true ∧ e.on = q := fun o ho => by
    rw [hop'] at ho; cases ho
    simp only [Bool.and_eq_true, Option.isNone_iff_eq_none, List.any_eq_true, beq_iff_eq] at hpg
    obtain ⟨h1, e, h2, h3, h4⟩ := hpg
    exact ⟨h1, e, by simpa using h2, h3, h4⟩
  obtain ⟨oq, hoq, hqg⟩ : ∃ o, ops.toList[q]? = some o ∧ (o.guard.isNone && o.after.toList.any (fun e => Region.binds .any e && e.on == z)) = true := by
    cases h : ops.toList[q]? with
    | none => rw [h] at hqg; cases hqg
    | some o => rw [h] at hqg; exact ⟨o, rfl, hqg⟩
  have hoq' : ops[q]? = some oq := by simpa using hoq
  have hqg' : ∀ o, ops[q]? = some o → o.guard = none ∧ ∃ e ∈ o.after, Region.binds .any e = true ∧ e.on = z := fun o ho => by
    rw [hoq'] at ho; cases ho
    simp only [Bool.and_eq_true, Option.isNone_iff_eq_none, List.any_eq_true, beq_iff_eq] at hqg
    obtain ⟨h1, e, h2, h3, h4⟩ := hqg
    exact ⟨h1, e, by simpa using h2, h3, h4⟩
  obtain ⟨or, hor, hrg⟩ : ∃ o, ops.toList[r]? = some o ∧ (o.guard.isNone && o.after.toList.any (fun e => Region.binds .any e && e.on == t)) = true := by
    cases h : ops.toList[r]? with
    | none => rw [h] at hrg; cases hrg
    | some o => rw [h] at hrg; exact ⟨o, rfl, hrg⟩
  have hor' : ops[r]? = some or := by simpa using hor
  simp only [Bool.and_eq_true, Option.isNone_iff_eq_none, List.any_eq_true, beq_iff_eq] at hrg
  obtain ⟨hrg1, er, her1, her2, her3⟩ := hrg
  have hrg' : ∀ o, ops[r]? = some o → o.guard = none := fun o ho => by rw [hor'] at ho; cases ho; exact hrg1
  have hrs' : ∀ o, ops[r]? = some o → ∃ e ∈ o.after, Region.binds .any e = true ∧ e.on = t := fun o ho => by rw [hor'] at ho; cases ho; exact ⟨er, by simpa using her1, her2, her3⟩
  have hts' : ∃ ot, ops[t]? = some ot ∧ ∃ e ∈ ot.after, Region.binds .any e = true ∧ e.on = p := by
    cases h : ops.toList[t]? with
    | none => rw [h] at htg; cases htg
    | some o =>
      rw [h] at htg
      have htg : (o.after.toList.any (fun e => Region.binds .any e && e.on == p)) = true := htg
      simp only [Bool.and_eq_true, List.any_eq_true, beq_iff_eq] at htg
      obtain ⟨e, he1, he2, he3⟩ := htg
      exact ⟨o, by simpa using h, e, by simpa using he1, he2, he3⟩
  have step : ∀ σ0, Stp 0 σ σ0 → ∀ (i : Nat) o (L : Nat → Bool) a' σ' (K : Act → World → Prop), ops[i]? = some o → i < m → Mid6 p q r z d c y N D W V Z A B ops Φ a σ0 L a' σ' → L i = false → (∀ e ∈ o.after, Region.binds .any e = true → L e.on = true) →
      (∀ (j : Nat) oj, ops[j]? = some oj → L j = true → ∀ e ∈ oj.after, Region.binds .any e = true → L e.on = true) → (∀ a' σ', Mid6 p q r z d c y N D W V Z A B ops Φ a σ0 (fun j => L j || j == i) a' σ' → K a' σ'.w) → wpOp P ops Q i K a' σ'.w :=
    fun σ0 hs i o L a' σ' K ho him hmid hL hall hcl hK => Mid6.op hF' h1 h1V hr hq hpq hrp hrq hzq hzp hzr hz hΦz hqg' ⟨oq, hoq'⟩ hΦ hΦr hpg' hrg' hrs' hts' ⟨or, hor'⟩ hmid ho hL ⟨op, hop'⟩
      (by simpa using Obls6.get (ops.toList.take m) 0 (Obls6.up hs _ _ hob) i o (by rw [List.getElem?_take, if_pos him]; simpa using ho)) hall hcl hK
  have start : ∀ σ0, Mid6 p q r z d c y N D W V Z A B ops Φ a σ0 (fun _ => false) a σ0 := fun σ0 => ⟨StpL.refl _ _, fun _ => StpL.refl _ _, fun _ => Stp.refl _ _, ok, fun _ h => (by cases h), fun h => (by cases h), fun h => (by cases h), fun h => (by cases h), fun _ _ => rfl⟩
  have half : ∀ σ0 a' σ', Mid6 p q r z d c y N D W V Z A B ops Φ a σ0 (fun j => decide (j < m)) a' σ' → Half3 m c N D (W ++ V) B ops Φ a σ0 a' σ' := fun σ0 a' σ' h => by
    refine ⟨h.stp, h.ok, fun j hj => h.done j (by simpa using hj), h.donep (by simpa using hrm), fun t ht => h.same t fun j hj => ?_⟩
    by_cases hjm : j < m
    · obtain ⟨o, ho, hd⟩ := Option.bind_eq_some_iff.1 hj
      have := (List.all_eq_true.1 ht) o (List.mem_of_getElem? (i := j) (by rw [List.getElem?_take, if_pos hjm]; exact ho))
      simp [hd] at this
    · simpa using hjm
  cases draw with
  | false =>
    refine wp_region ?_
    rw [List.range_eq_range']
    have := half_seq3 (Q := Q) hF' hm (Mid6 p q r z d c y N D W V Z A B ops Φ a σ) (step σ (Stp.refl _ _)) (fun a' σ' h => ?_) m 0 a σ (by simp) (by have := start σ; simpa using this)
    · rwa [show m + (ops.size - m) = ops.size by omega] at this
    · have := wpOps_eq_wpList (P := P) (ops := ops) (Q := Q) (ops.toList.drop m) m (fun j => by rw [List.getElem?_drop]; simp)
      rw [show (ops.toList.drop m).length = ops.size - m by simp] at this
      rw [this]
      exact hQ a' σ' (half _ _ _ h)
  | true =>
    refine wp_region_any hP ?_
    have hd := Stp.drew σ
    refine half_any3 hF' hm (by simpa using hB) (Mid6 p q r z d c y N D W V Z A B ops Φ a σ.drew) (step σ.drew hd) (fun a' σ' h => ?_) _ _ a σ.drew (by simp) (Nat.le_trans List.countP_le_length (by simp)) ?_ ?_ ?_
    · have h2 := half _ _ _ h
      exact hQ a' σ' ⟨hd.toL0.trans h2.stp, h2.ok, h2.done, h2.donep, h2.same⟩
    · intro j hj _; simp [hj]
    · intro j oj hj h
      have : j < ops.size := (Array.getElem?_eq_some_iff.1 hj).1
      simp [this] at h
    · have e : (fun j => decide (j < m) && (Array.replicate ops.size false).getD j true) = fun _ => false := by
        funext j; by_cases hj : j < ops.size
        · simp [hj]
        · simp; omega
      rw [e]; exact start σ.drew
theorem obR6w {i p q z r : Nat} {A B C E F : Prop} (h : i = p) (k : A) : if i = p then A else if i = q then B else if i = z then C else if i = r then E else F := by rw [if_pos h]; exact k
theorem obR6q {i p q z r : Nat} {A B C E F : Prop} (h : i ≠ p) (h2 : i = q) (k : B) : if i = p then A else if i = q then B else if i = z then C else if i = r then E else F := by rw [if_neg h, if_pos h2]; exact k
theorem obR6z {i p q z r : Nat} {A B C E F : Prop} (h : i ≠ p) (h2 : i ≠ q) (h3 : i = z) (k : C) : if i = p then A else if i = q then B else if i = z then C else if i = r then E else F := by rw [if_neg h, if_neg h2, if_pos h3]; exact k
theorem obR6r {i p q z r : Nat} {A B C E F : Prop} (h : i ≠ p) (h2 : i ≠ q) (h3 : i ≠ z) (h4 : i = r) (k : E) : if i = p then A else if i = q then B else if i = z then C else if i = r then E else F := by rw [if_neg h, if_neg h2, if_neg h3, if_pos h4]; exact k
theorem obR6 {i p q z r : Nat} {A B C E F G : Prop} {b : Bool} (h : i ≠ p) (h2 : i ≠ q) (h3 : i ≠ z) (h4 : i ≠ r) (h5 : b = false) (k : G) : if i = p then A else if i = q then B else if i = z then C else if i = r then E else if b = true then F else G := by rw [if_neg h, if_neg h2, if_neg h3, if_neg h4, if_neg (by rw [h5]; decide)]; exact k
theorem obR6e {i p q z r : Nat} {A B C E F G : Prop} {b : Bool} (h : i ≠ p) (h2 : i ≠ q) (h3 : i ≠ z) (h4 : i ≠ r) (h5 : b = true) (k : F) : if i = p then A else if i = q then B else if i = z then C else if i = r then E else if b = true then F else G := by rw [if_neg h, if_neg h2, if_neg h3, if_neg h4, if_pos h5]; exact k
theorem YldL.sealR {W : List Nat} {o : Oper} {a : Act} {σ : GW} {k : Nat} {e : TypeId} {c n n' : Nat} {ts ts' : List Ty} (hk : 2 ≤ k) (hW : k ∈ W) (h : YldL W P o a σ (fun v τ => Own τ k e c v n ts)) (hn : n = n') (ht : ts = ts') : YldL W P o a σ (fun v τ => (Ty.sl c n' ts').has τ v) := by
  intro K Q hk'
  refine h K Q fun v τ hs ho => ?_
  subst hn; subst ht
  obtain ⟨τ', e1, e2, e3⟩ := Own.seal ho hk
  rw [← e1]
  exact hk' v τ' (hs.trans (e2.toL hW)) e3
end Go.KL

