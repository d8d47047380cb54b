/- A region in whatever order, of which one operation appends to what another one has made. -/
import Derived.Test.YtfgkhpkbehhflaaDoorTopBookK2
import Derived.Test.YtfgkhpkbehhflaaDoorTopBookK1
import Derived.ProofKit
import Derived.JoinedCond
import Derived.SizedLaws
import Derived.Deep.Slices
import Derived.Deep.CondSized
import Derived.Stop.LaidErr
import Derived.LaidSub
import Derived.Lay
import Derived.MakeChecks
import Derived.Deep.DeepHandedRow
import Derived.Lib.LaidTab
namespace Go.KL
open Go.RowKit
variable {P : Program}

/-! ### The operation that writes appends to what an operation of the region has made -/
structure Mid5 (p q d c N : Nat) (D : List Deferred) (W : List Nat) (A B : Pr) (ops : Array Oper) (Φ : Nat → Ty) (a0 : Act) (σ0 : GW) (L : Nat → Bool) (a : Act) (σ : GW) : Prop where
  stp : StpL W σ0 σ
  stp0 : L p = false → Stp 0 σ0 σ
  ok : Ok N D a
  done : ∀ j, L j = true → rd ops (fun i => (Φ i).pr) j a σ
  doneq : L q = true → L p = false → A.has σ (a.eval (.tmp d))
  donep : L p = true → B.has σ (a.eval (.tmp c))
  same : ∀ t, (∀ j, dstOf ops j = some t → L j = false) → a.eval (.tmp t) = a0.eval (.tmp t)

def OblS5 (P : Program) (N d : Nat) (D : List Deferred) (W : List Nat) (A B : Pr) (ops : Array Oper) (Φ : Nat → Ty) (a0 : Act) (σ0 : GW) (i : Nat) (o : Oper) : Prop :=
  ∀ a σ, Stp 0 σ0 σ → Ok N D a → (∀ t, free ops i t = true → a.eval (.tmp t) = a0.eval (.tmp t)) → A.has σ (a.eval (.tmp d)) → Deps ops (fun i => (Φ i).pr) a σ o.after.toList (YldL W P o a σ (fun v τ => B.has τ v))
def Obls5 (P : Program) (p q d c N : Nat) (D : List Deferred) (W : List Nat) (A B : Pr) (ops : Array Oper) (Φ : Nat → Ty) (a0 : Act) (σ0 : GW) : Nat → List Oper → Prop
  | _, [] => True
  | i, o :: l => (if i = p then OblS5 P N d D W A B ops Φ a0 σ0 i o else if i = q then OblQ P N D A ops Φ a0 σ0 i o else Obl3 P N D W ops Φ a0 σ0 i o) ∧ Obls5 P p q d c N D W A B ops Φ a0 σ0 (i + 1) l
theorem Obls5.get {p q d c N : Nat} {D : List Deferred} {W : List Nat} {A B : Pr} {ops : Array Oper} {Φ : Nat → Ty} {a0 : Act} {σ0 : GW} : ∀ (l : List Oper) (k : Nat), Obls5 P p q d c N D W A B ops Φ a0 σ0 k l → ∀ j o, l[j]? = some o →
    (if k + j = p then OblS5 P N d D W A B ops Φ a0 σ0 (k + j) o else if k + j = q then OblQ P N D A ops Φ a0 σ0 (k + j) o else Obl3 P N D W ops Φ a0 σ0 (k + j) o)
  | [], _, _, j, o, h => by simp at h
  | x :: l, k, h, 0, o, hj => by simp at hj; subst hj; exact h.1
  | x :: l, k, h, j + 1, o, hj => by
    have := Obls5.get l (k + 1) h.2 j o (by simpa using hj)
    rwa [show k + 1 + j = k + (j + 1) by omega] at this
theorem Obls5.up {p q d c N : Nat} {D : List Deferred} {W : List Nat} {A B : Pr} {ops : Array Oper} {Φ : Nat → Ty} {a0 : Act} {σ0 σ1 : GW} (hs : Stp 0 σ0 σ1) : ∀ (l : List Oper) (k : Nat), Obls5 P p q d c N D W A B ops Φ a0 σ0 k l → Obls5 P p q d c N D W A B ops Φ a0 σ1 k l
  | [], _, _ => trivial
  | x :: l, k, h => by
    refine ⟨?_, Obls5.up hs l (k + 1) h.2⟩
    have h1 := h.1
    split at h1
    · rename_i e; rw [if_pos e]; exact fun a σ hs' => h1 a σ (hs.trans hs')
    · rename_i e
      rw [if_neg e]
      split at h1
      · rename_i e; rw [if_pos e]; exact fun a σ hs' => h1 a σ (hs.trans hs')
      · rename_i e; rw [if_neg e]; exact fun a σ hs' => h1 a σ (hs.toL0.trans hs')

theorem Mid5.op {p q d c N : Nat} {D : List Deferred} {W : List Nat} {A B : Pr} {ops : Array Oper} {Φ : Nat → Ty} {a0 : Act} {σ0 : GW} {L : Nat → Bool} {a : Act} {σ : GW} {i : Nat} {o : Oper} {Q : Exit → Act → World → Prop} {K : Act → World → Prop}
    (hF : Form N ops) (h1 : 1 ∉ W) (hp : dstOf ops p = some c) (hq : dstOf ops q = some d) (hpq : p ≠ q) (hΦ : ∀ e v, (Φ q).has e v) (hΦp : ∀ e v, (Φ p).has e v) (hpg : ∀ o, ops[p]? = some o → o.guard = none ∧ ∃ e ∈ o.after, Region.binds .any e = true ∧ e.on = q) (hm : Mid5 p q d c N D W A B ops Φ a0 σ0 L a σ) (ho : ops[i]? = some o) (hL : L i = false)
    (hpo : ∃ o, ops[p]? = some o)
    (hob : if i = p then OblS5 P N d D W A B ops Φ a0 σ0 i o else if i = q then OblQ P N D A ops Φ a0 σ0 i o else Obl3 P N D W ops Φ a0 σ0 i o)
    (hall : ∀ e ∈ o.after, Region.binds .any e = true → L e.on = true) (hclosed : ∀ (j : Nat) oj, ops[j]? = some oj → L j = true → ∀ e ∈ oj.after, Region.binds .any e = true → L e.on = true)
    (hK : ∀ a' σ', Mid5 p q d c N D W A B ops Φ a0 σ0 (fun j => L j || j == i) a' σ' → K a' σ'.w) : wpOp P ops Q i K a σ.w := by
  have hdi : dstOf ops i = o.dst := by simp [dstOf, ho]
  have hsame : ∀ t, free ops i t = true → a.eval (.tmp t) = a0.eval (.tmp t) := by
    intro t ht
    refine hm.same t fun j hj => ?_
    cases hLj : L j with
    | false => rfl
    | true =>
      exfalso
      unfold dstOf at hj
      obtain ⟨oj, hoj, hd⟩ := Option.bind_eq_some_iff.1 hj
      unfold free at ht
      have := (List.all_eq_true.1 ht) oj (List.mem_of_getElem? hoj)
      simp only [hd, bne_self_eq_false, Bool.false_or, List.any_eq_true, Bool.and_eq_true, beq_iff_eq] at this
      obtain ⟨e, he, hb, hon⟩ := this
      have := hclosed j oj (by simpa using hoj) hLj e (by simpa using he) hb
      rw [hon, hL] at this
      cases this
  have hLpq : L p = true → L q = true := fun h => by
    obtain ⟨op, hop⟩ := hpo
    obtain ⟨_, e, he, hb, hon⟩ := hpg op hop
    rw [← hon]; exact hclosed p op hop h e he hb
  have hdeps : ∀ e ∈ o.after.toList, Region.binds .any e = true → rd ops (fun i => (Φ i).pr) e.on a σ := fun e he hb => hm.done e.on (hall e (by simpa using he) hb)
  have done' : ∀ v (τ : GW), σ.Le τ → ((Φ i).has τ v ∨ dstOf ops i = none) → ∀ j, (L j || j == i) = true → rd ops (fun i => (Φ i).pr) j (a.put o.dst v) τ := by
    intro v τ hle hv j hLj
    by_cases hji : j = i
    · subst hji
      unfold rd
      cases hd : dstOf ops j with
      | none => trivial
      | some d =>
        have : o.dst = some d := by rw [← hdi]; exact hd
        simp only [this]
        rw [eval_put_same hm.ok (hF.lt j d hd)]
        exact hv.resolve_right (by rw [hd]; simp)
    · have hLj' : L j = true := by simpa [hji] using hLj
      have h0 := hm.done j hLj'
      unfold rd at h0 ⊢
      cases hd : dstOf ops j with
      | none => trivial
      | some d =>
        rw [hd] at h0
        simp only at h0 ⊢
        rw [eval_put_ne (fun he => hji (hF.uniq j i d hd (by rw [hdi]; exact he)))]
        exact (Φ j).up hle h0
  have same' : ∀ v t, (∀ j, dstOf ops j = some t → (L j || j == i) = false) → (a.put o.dst v).eval (.tmp t) = a0.eval (.tmp t) := by
    intro v t ht
    have h1 : o.dst ≠ some t := fun he => by
      have := ht i (by rw [hdi]; exact he)
      simp at this
    rw [eval_put_ne h1]
    exact hm.same t fun j hj => by
      have := ht j hj
      simp at this
      exact this.1
  by_cases hip : i = p
  · subst hip
    rw [if_pos rfl] at hob
    obtain ⟨hg, e, he, hb, hon⟩ := hpg o ho
    have hLq : L q = true := by rw [← hon]; exact hall e he hb
    have hy := Deps.elim o.after.toList hdeps (hob a σ (hm.stp0 hL) hm.ok hsame (hm.doneq hLq hL))
    have hdn : o.dst = some c := by rw [← hdi]; exact hp
    unfold wpOp
    simp only [ho]
    have hw : Region.wanted o (yielded ops a.tmps) = true := by simp [Region.wanted, hg]
    rw [if_pos hw]
    refine .inl (hy K Q fun v τ hs hr => hK _ τ ⟨hm.stp.trans hs, fun h => (by simp at h), hm.ok.put _ _, done' v τ (hs.le h1) (.inl (hΦp _ _)), fun _ h => (by simp at h), fun _ => ?_, same' v⟩)
    rw [hdn, eval_put_same hm.ok (hF.lt i c hp)]
    exact hr
  · rw [if_neg hip] at hob
    by_cases hiq : i = q
    · subst hiq
      rw [if_pos rfl] at hob
      have hLp : L p = false := by
        cases h : L p with
        | false => rfl
        | true => rw [hLpq h] at hL; cases hL
      have hrun := Deps.elim o.after.toList hdeps (hob a σ (hm.stp0 hLp) hm.ok hsame)
      have next : ∀ v τ, Stp 0 σ τ → A.has τ v → K (a.put o.dst v) τ.w := by
        intro v τ hs hv
        refine hK _ τ ⟨hm.stp.trans hs.toL0, fun _ => (hm.stp0 hLp).trans hs, hm.ok.put _ _, done' v τ hs.le0 (.inl (hΦ _ _)), fun _ _ => ?_, fun h => ?_, same' v⟩
        · have : o.dst = some d := by rw [← hdi]; exact hq
          rw [this, eval_put_same hm.ok (hF.lt i d hq)]
          exact hv
        · rw [hLp] at h
          simp at h; exact absurd h hpq
      unfold wpOp
      simp only [ho]
      by_cases hw : Region.wanted o (yielded ops a.tmps) = true
      · rw [if_pos hw]
        exact .inl (hrun.1 hw K Q next)
      · rw [if_neg hw]
        exact next undef σ (Stp.refl _ _) (hrun.2 (by simpa using hw))
    · rw [if_neg hiq] at hob
      have hrun := Deps.elim o.after.toList hdeps (hob a σ hm.stp hm.ok hsame)
      have hne : o.dst ≠ some d := fun he => hiq (hF.uniq i q d (by rw [hdi]; exact he) hq)
      have hne2 : o.dst ≠ some c := fun he => hip (hF.uniq i p c (by rw [hdi]; exact he) hp)
      have next : ∀ v τ, Stp 0 σ τ → (Φ i).has τ v → K (a.put o.dst v) τ.w := by
        intro v τ hs hv
        refine hK _ τ ⟨hm.stp.trans hs.toL0, fun h => ?_, hm.ok.put _ _, done' v τ hs.le0 (.inl hv), fun h h2 => ?_, fun h => ?_, same' v⟩
        · simp at h; exact (hm.stp0 h.1).trans hs
        · have hLq : L q = true := by simpa [Ne.symm hiq] using h
          have hLp : L p = false := by simp at h2; exact h2.1
          rw [eval_put_ne hne]
          exact A.up hs (hm.doneq hLq hLp)
        · have hLp : L p = true := by simpa [Ne.symm hip] using h
          rw [eval_put_ne hne2]
          exact B.up hs (hm.donep hLp)
      unfold wpOp
      simp only [ho]
      by_cases hw : Region.wanted o (yielded ops a.tmps) = true
      · rw [if_pos hw]
        exact .inl (hrun.1 hw K Q next)
      · rw [if_neg hw]
        exact next undef σ (Stp.refl _ _) (hrun.2 (by simpa using hw))
end Go.KL

/- A region in whatever order, of which one operation appends to what another one has made (sealed at once), and a third one writes what was there. -/
namespace Go.KL
open Go.RowKit
variable {P : Program}

theorem StpL.wid {L L' : List Nat} {σ τ : GW} (h : StpL L σ τ) (hL : ∀ x ∈ L, x ∈ L') : StpL L' σ τ :=
  ⟨h.os, h.tape, h.output, h.dr, h.size, fun b hb hm => h.blk b hb fun hx => hm (hL _ hx), fun b hb hm => h.st b hb fun hx => hm (hL _ hx)⟩
/-! ### The operation that writes appends to what an operation of the region has made; another one writes; another one writes -/
structure Mid6 (p q r z d c y N : Nat) (D : List Deferred) (W V : List Nat) (Z A B : Pr) (ops : Array Oper) (Φ : Nat → Ty) (a0 : Act) (σ0 : GW) (L : Nat → Bool) (a : Act) (σ : GW) : Prop where
  stp : StpL (W ++ V) σ0 σ
  stp1 : L r = false → StpL W σ0 σ
  stp0 : L p = false → Stp 0 σ0 σ
  ok : Ok N D a
  done : ∀ j, L j = true → rd ops (fun i => (Φ i).pr) j a σ
  donez : L z = true → L q = false → Z.has σ (a.eval (.tmp y))
  doneq : L q = true → L p = false → A.has σ (a.eval (.tmp d))
  donep : L r = true → B.has σ (a.eval (.tmp c))
  same : ∀ t, (∀ j, dstOf ops j = some t → L j = false) → a.eval (.tmp t) = a0.eval (.tmp t)

def OblS6 (P : Program) (N d : Nat) (D : List Deferred) (W : List Nat) (A : Pr) (T : Ty) (ops : Array Oper) (Φ : Nat → Ty) (a0 : Act) (σ0 : GW) (i : Nat) (o : Oper) : Prop :=
  ∀ a σ, Stp 0 σ0 σ → Ok N D a → (∀ t, free ops i t = true → a.eval (.tmp t) = a0.eval (.tmp t)) → A.has σ (a.eval (.tmp d)) → Deps ops (fun i => (Φ i).pr) a σ o.after.toList (YldL W P o a σ (fun v τ => T.has τ v))
def OblQ2 (P : Program) (N y : Nat) (D : List Deferred) (Z A : Pr) (ops : Array Oper) (Φ : Nat → Ty) (a0 : Act) (σ0 : GW) (i : Nat) (o : Oper) : Prop :=
  ∀ a σ, Stp 0 σ0 σ → Ok N D a → (∀ t, free ops i t = true → a.eval (.tmp t) = a0.eval (.tmp t)) → Z.has σ (a.eval (.tmp y)) → Deps ops (fun i => (Φ i).pr) a σ o.after.toList (Run P ops o a σ A)
def OblV (P : Program) (N : Nat) (D : List Deferred) (W V : List Nat) (B : Pr) (ops : Array Oper) (Φ : Nat → Ty) (a0 : Act) (σ0 : GW) (i : Nat) (o : Oper) : Prop :=
  ∀ a σ, StpL W σ0 σ → Ok N D a → (∀ t, free ops i t = true → a.eval (.tmp t) = a0.eval (.tmp t)) → Deps ops (fun i => (Φ i).pr) a σ o.after.toList (YldL V P o a σ (fun v τ => B.has τ v))
def earlyB (r : Nat) (ops : Array Oper) (i : Nat) : Bool := ((ancs ops.toList []).getD r []).contains i
theorem early_spec {r : Nat} {ops : Array Oper} {i : Nat} {L : Nat → Bool} (h : earlyB r ops i = true) (hr : ∃ o, ops[r]? = some o)
    (hcl : ∀ (j : Nat) oj, ops[j]? = some oj → L j = true → ∀ e ∈ oj.after, Region.binds .any e = true → L e.on = true) (hL : L r = true) : L i = true := by
  have hcl' : ∀ (j : Nat) o, ops.toList[j]? = some o → L j = true → ∀ e ∈ edges o, L e = true := fun j o ho hj e he => by
    unfold edges at he
    obtain ⟨x, hx, rfl⟩ := List.mem_map.1 he
    obtain ⟨h1, h2⟩ := List.mem_filter.1 hx
    exact hcl j o (by simpa using ho) hj x (by simpa using h1) h2
  obtain ⟨o, ho⟩ := hr
  have ho' : ops.toList[r]? = some o := by simpa using ho
  have := ancs_spec (all := ops.toList) hcl' ops.toList [] (fun j => by simp) (by simp) (fun i o _ hi => by simp at hi) r o ho' (fun e he => hcl' r o ho' hL e he)
  unfold earlyB at h
  exact this i (List.contains_iff_mem.1 h)
def Obls6 (P : Program) (p q r z d c y N : Nat) (D : List Deferred) (W V : List Nat) (Z A B : Pr) (ops : Array Oper) (Φ : Nat → Ty) (a0 : Act) (σ0 : GW) : Nat → List Oper → Prop
  | _, [] => True
  | i, o :: l => (if i = p then OblS6 P N d D W A (Φ p) ops Φ a0 σ0 i o else if i = q then OblQ2 P N y D Z A ops Φ a0 σ0 i o else if i = z then OblQ P N D Z ops Φ a0 σ0 i o else if i = r then OblV P N D W V B ops Φ a0 σ0 i o else if earlyB r ops i = true then Obl3 P N D W ops Φ a0 σ0 i o else Obl3 P N D (W ++ V) ops Φ a0 σ0 i o) ∧ Obls6 P p q r z d c y N D W V Z A B ops Φ a0 σ0 (i + 1) l
theorem Obls6.get {p q r z d c y N : Nat} {D : List Deferred} {W V : List Nat} {Z A B : Pr} {ops : Array Oper} {Φ : Nat → Ty} {a0 : Act} {σ0 : GW} : ∀ (l : List Oper) (k : Nat), Obls6 P p q r z d c y N D W V Z A B ops Φ a0 σ0 k l → ∀ j o, l[j]? = some o →
    (if k + j = p then OblS6 P N d D W A (Φ p) ops Φ a0 σ0 (k + j) o else if k + j = q then OblQ2 P N y D Z A ops Φ a0 σ0 (k + j) o else if k + j = z then OblQ P N D Z ops Φ a0 σ0 (k + j) o else if k + j = r then OblV P N D W V B ops Φ a0 σ0 (k + j) o else if earlyB r ops (k + j) = true then Obl3 P N D W ops Φ a0 σ0 (k + j) o else Obl3 P N D (W ++ V) ops Φ a0 σ0 (k + j) o)
  | [], _, _, j, o, h => by simp at h
  | x :: l, k, h, 0, o, hj => by simp at hj; subst hj; exact h.1
  | x :: l, k, h, j + 1, o, hj => by
    have := Obls6.get l (k + 1) h.2 j o (by simpa using hj)
    rwa [show k + 1 + j = k + (j + 1) by omega] at this
theorem Obls6.up {p q r z d c y N : Nat} {D : List Deferred} {W V : List Nat} {Z A B : Pr} {ops : Array Oper} {Φ : Nat → Ty} {a0 : Act} {σ0 σ1 : GW} (hs : Stp 0 σ0 σ1) : ∀ (l : List Oper) (k : Nat), Obls6 P p q r z d c y N D W V Z A B ops Φ a0 σ0 k l → Obls6 P p q r z d c y N D W V Z A B ops Φ a0 σ1 k l
  | [], _, _ => trivial
  | x :: l, k, h => by
    refine ⟨?_, Obls6.up hs l (k + 1) h.2⟩
    have h1 := h.1
    split at h1
    · rename_i e; rw [if_pos e]; exact fun a σ hs' => h1 a σ (hs.trans hs')
    · rename_i e
      rw [if_neg e]
      split at h1
      · rename_i e; rw [if_pos e]; exact fun a σ hs' => h1 a σ (hs.trans hs')
      · rename_i e
        rw [if_neg e]
        split at h1
        · rename_i e; rw [if_pos e]; exact fun a σ hs' => h1 a σ (hs.trans hs')
        · rename_i e
          rw [if_neg e]
          split at h1
          · rename_i e; rw [if_pos e]; exact fun a σ hs' => h1 a σ (hs.toL0.trans hs')
          · rename_i e
            rw [if_neg e]
            split at h1
            · rename_i e; rw [if_pos e]; exact fun a σ hs' => h1 a σ (hs.toL0.trans hs')
            · rename_i e; rw [if_neg e]; exact fun a σ hs' => h1 a σ (hs.toL0.trans hs')

theorem Mid6.op {p q r t z d c y N : Nat} {D : List Deferred} {W V : List Nat} {Z A B : Pr} {ops : Array Oper} {Φ : Nat → Ty} {a0 : Act} {σ0 : GW} {L : Nat → Bool} {a : Act} {σ : GW} {i : Nat} {o : Oper} {Q : Exit → Act → World → Prop} {K : Act → World → Prop}
    (hF : Form N ops) (h1 : 1 ∉ W) (h1V : 1 ∉ V) (hr : dstOf ops r = some c) (hq : dstOf ops q = some d) (hpq : p ≠ q) (hrp : r ≠ p) (hrq : r ≠ q) (hzq : z ≠ q) (hzp : z ≠ p) (hzr : z ≠ r) (hz : dstOf ops z = some y) (hΦz : ∀ e v, (Φ z).has e v) (hqg : ∀ o, ops[q]? = some o → o.guard = none ∧ ∃ e ∈ o.after, Region.binds .any e = true ∧ e.on = z) (hqo : ∃ o, ops[q]? = some o) (hΦ : ∀ e v, (Φ q).has e v) (hΦr : ∀ e v, (Φ r).has e v) (hpg : ∀ o, ops[p]? = some o → o.guard = none ∧ ∃ e ∈ o.after, Region.binds .any e = true ∧ e.on = q) (hrg : ∀ o, ops[r]? = some o → o.guard = none) (hrs : ∀ o, ops[r]? = some o → ∃ e ∈ o.after, Region.binds .any e = true ∧ e.on = t) (hts : ∃ ot, ops[t]? = some ot ∧ ∃ e ∈ ot.after, Region.binds .any e = true ∧ e.on = p) (hro : ∃ o, ops[r]? = some o) (hm : Mid6 p q r z d c y N D W V Z A B ops Φ a0 σ0 L a σ) (ho : ops[i]? = some o) (hL : L i = false)
    (hpo : ∃ o, ops[p]? = some o)
    (hob : if i = p then OblS6 P N d D W A (Φ p) ops Φ a0 σ0 i o else if i = q then OblQ2 P N y D Z A ops Φ a0 σ0 i o else if i = z then OblQ P N D Z ops Φ a0 σ0 i o else if i = r then OblV P N D W V B ops Φ a0 σ0 i o else if earlyB r ops i = true then Obl3 P N D W ops Φ a0 σ0 i o else Obl3 P N D (W ++ V) ops Φ a0 σ0 i o)
    (hall : ∀ e ∈ o.after, Region.binds .any e = true → L e.on = true) (hclosed : ∀ (j : Nat) oj, ops[j]? = some oj → L j = true → ∀ e ∈ oj.after, Region.binds .any e = true → L e.on = true)
    (hK : ∀ a' σ', Mid6 p q r z d c y N D W V Z A B ops Φ a0 σ0 (fun j => L j || j == i) a' σ' → K a' σ'.w) : wpOp P ops Q i K a σ.w := by
  have hdi : dstOf ops i = o.dst := by simp [dstOf, ho]
  have hsame : ∀ u, free ops i u = true → a.eval (.tmp u) = a0.eval (.tmp u) := by
    intro u ht
    refine hm.same u fun j hj => ?_
    cases hLj : L j with
    | false => rfl
    | true =>
      exfalso
      unfold dstOf at hj
      obtain ⟨oj, hoj, hd⟩ := Option.bind_eq_some_iff.1 hj
      unfold free at ht
      have := (List.all_eq_true.1 ht) oj (List.mem_of_getElem? hoj)
      simp only [hd, bne_self_eq_false, Bool.false_or, List.any_eq_true, Bool.and_eq_true, beq_iff_eq] at this
      obtain ⟨e, he, hb, hon⟩ := this
      have := hclosed j oj (by simpa using hoj) hLj e (by simpa using he) hb
      rw [hon, hL] at this
      cases this
  have hLpq : L p = true → L q = true := fun h => by
    obtain ⟨op, hop⟩ := hpo
    obtain ⟨_, e, he, hb, hon⟩ := hpg op hop
    rw [← hon]; exact hclosed p op hop h e he hb
  have hLqz : L q = true → L z = true := fun h => by
    obtain ⟨op, hop⟩ := hqo
    obtain ⟨_, e, he, hb, hon⟩ := hqg op hop
    rw [← hon]; exact hclosed q op hop h e he hb
  have hLtp : L t = true → L p = true := fun h => by
    obtain ⟨ot, hot, e, he, hb, hon⟩ := hts
    rw [← hon]; exact hclosed t ot hot h e he hb
  have hLrp : L r = true → L p = true := fun h => by
    obtain ⟨o', ho'⟩ := hro
    obtain ⟨e, he, hb, hon⟩ := hrs o' ho'
    exact hLtp (by rw [← hon]; exact hclosed r o' ho' h e he hb)
  have hdeps : ∀ e ∈ o.after.toList, Region.binds .any e = true → rd ops (fun i => (Φ i).pr) e.on a σ := fun e he hb => hm.done e.on (hall e (by simpa using he) hb)
  have done' : ∀ v (τ : GW), σ.Le τ → ((Φ i).has τ v ∨ dstOf ops i = none) → ∀ j, (L j || j == i) = true → rd ops (fun i => (Φ i).pr) j (a.put o.dst v) τ := by
    intro v τ hle hv j hLj
    by_cases hji : j = i
    · subst hji
      unfold rd
      cases hd : dstOf ops j with
      | none => trivial
      | some d =>
        have : o.dst = some d := by rw [← hdi]; exact hd
        simp only [this]
        rw [eval_put_same hm.ok (hF.lt j d hd)]
        exact hv.resolve_right (by rw [hd]; simp)
    · have hLj' : L j = true := by simpa [hji] using hLj
      have h0 := hm.done j hLj'
      unfold rd at h0 ⊢
      cases hd : dstOf ops j with
      | none => trivial
      | some d =>
        rw [hd] at h0
        simp only at h0 ⊢
        rw [eval_put_ne (fun he => hji (hF.uniq j i d hd (by rw [hdi]; exact he)))]
        exact (Φ j).up hle h0
  have same' : ∀ v t, (∀ j, dstOf ops j = some t → (L j || j == i) = false) → (a.put o.dst v).eval (.tmp t) = a0.eval (.tmp t) := by
    intro v t ht
    have h1 : o.dst ≠ some t := fun he => by
      have := ht i (by rw [hdi]; exact he)
      simp at this
    rw [eval_put_ne h1]
    exact hm.same t fun j hj => by
      have := ht j hj
      simp at this
      exact this.1
  by_cases hip : i = p
  · subst hip
    rw [if_pos rfl] at hob
    obtain ⟨hg, e, he, hb, hon⟩ := hpg o ho
    have hLq : L q = true := by rw [← hon]; exact hall e he hb
    have hLr : L r = false := by
      cases h : L r with
      | false => rfl
      | true => rw [hLrp h] at hL; cases hL
    have hy := Deps.elim o.after.toList hdeps (hob a σ (hm.stp0 hL) hm.ok hsame (hm.doneq hLq hL))
    unfold wpOp
    simp only [ho]
    have hw : Region.wanted o (yielded ops a.tmps) = true := by simp [Region.wanted, hg]
    rw [if_pos hw]
    refine .inl (hy K Q fun v τ hs hv => hK _ τ ⟨hm.stp.trans (hs.wid fun x hx => List.mem_append_left _ hx), fun _ => (hm.stp1 hLr).trans hs, fun h => (by simp at h), hm.ok.put _ _, done' v τ (hs.le h1) (.inl hv), fun _ h => (by rw [hLq] at h; simp at h), fun _ h => (by simp at h), fun h => ?_, same' v⟩)
    rw [hLr] at h
    simp at h; exact absurd h hrp
  · rw [if_neg hip] at hob
    by_cases hiq : i = q
    · subst hiq
      rw [if_pos rfl] at hob
      have hLp : L p = false := by
        cases h : L p with
        | false => rfl
        | true => rw [hLpq h] at hL; cases hL
      have hLr : L r = false := by
        cases h : L r with
        | false => rfl
        | true => rw [hLrp h] at hLp; cases hLp
      obtain ⟨hg, e, he, hb, hon⟩ := hqg o ho
      have hLz : L z = true := by rw [← hon]; exact hall e he hb
      have hrun := Deps.elim o.after.toList hdeps (hob a σ (hm.stp0 hLp) hm.ok hsame (hm.donez hLz hL))
      have next : ∀ v τ, Stp 0 σ τ → A.has τ v → K (a.put o.dst v) τ.w := by
        intro v τ hs hv
        refine hK _ τ ⟨hm.stp.trans hs.toL0, fun _ => (hm.stp1 hLr).trans hs.toL0, fun _ => (hm.stp0 hLp).trans hs, hm.ok.put _ _, done' v τ hs.le0 (.inl (hΦ _ _)), fun _ h => (by simp at h), fun _ _ => ?_, fun h => ?_, same' v⟩
        · have : o.dst = some d := by rw [← hdi]; exact hq
          rw [this, eval_put_same hm.ok (hF.lt i d hq)]
          exact hv
        · rw [hLr] at h
          simp at h; exact absurd h hrq
      unfold wpOp
      simp only [ho]
      by_cases hw : Region.wanted o (yielded ops a.tmps) = true
      · rw [if_pos hw]
        exact .inl (hrun.1 hw K Q next)
      · rw [if_neg hw]
        exact next undef σ (Stp.refl _ _) (hrun.2 (by simpa using hw))
    · rw [if_neg hiq] at hob
      by_cases hiz : i = z
      · subst hiz
        rw [if_pos rfl] at hob
        have hLq : L q = false := by
          cases h : L q with
          | false => rfl
          | true => rw [hLqz h] at hL; cases hL
        have hLp : L p = false := by
          cases h : L p with
          | false => rfl
          | true => rw [hLpq h] at hLq; cases hLq
        have hLr : L r = false := by
          cases h : L r with
          | false => rfl
          | true => rw [hLrp h] at hLp; cases hLp
        have hrun := Deps.elim o.after.toList hdeps (hob a σ (hm.stp0 hLp) hm.ok hsame)
        have next : ∀ v τ, Stp 0 σ τ → Z.has τ v → K (a.put o.dst v) τ.w := by
          intro v τ hs hv
          refine hK _ τ ⟨hm.stp.trans hs.toL0, fun _ => (hm.stp1 hLr).trans hs.toL0, fun _ => (hm.stp0 hLp).trans hs, hm.ok.put _ _, done' v τ hs.le0 (.inl (hΦz _ _)), fun _ _ => ?_, fun h _ => ?_, fun h => ?_, same' v⟩
          · have : o.dst = some y := by rw [← hdi]; exact hz
            rw [this, eval_put_same hm.ok (hF.lt i y hz)]
            exact hv
          · rw [hLq] at h
            simp at h; exact absurd h.symm hzq
          · rw [hLr] at h
            simp at h; exact absurd h.symm hzr
        unfold wpOp
        simp only [ho]
        by_cases hw : Region.wanted o (yielded ops a.tmps) = true
        · rw [if_pos hw]
          exact .inl (hrun.1 hw K Q next)
        · rw [if_neg hw]
          exact next undef σ (Stp.refl _ _) (hrun.2 (by simpa using hw))
      · rw [if_neg hiz] at hob
        have hne0 : o.dst ≠ some y := fun he => hiz (hF.uniq i z y (by rw [hdi]; exact he) hz)
        have hne : o.dst ≠ some d := fun he => hiq (hF.uniq i q d (by rw [hdi]; exact he) hq)
        by_cases hir : i = r
        · subst hir
          rw [if_pos rfl] at hob
          have hg := hrg o ho
          have hLp : L p = true := by
            obtain ⟨e, he, hb, hon⟩ := hrs o ho
            exact hLtp (by rw [← hon]; exact hall e he hb)
          have hy := Deps.elim o.after.toList hdeps (hob a σ (hm.stp1 hL) hm.ok hsame)
          have hdn : o.dst = some c := by rw [← hdi]; exact hr
          unfold wpOp
          simp only [ho]
          have hw : Region.wanted o (yielded ops a.tmps) = true := by simp [Region.wanted, hg]
          rw [if_pos hw]
          refine .inl (hy K Q fun v τ hs hv => hK _ τ ⟨hm.stp.trans (hs.wid fun x hx => List.mem_append_right _ hx), fun h => (by simp at h), fun h => (by rw [hLp] at h; simp at h), hm.ok.put _ _, done' v τ (hs.le h1V) (.inl (hΦr _ _)), fun _ h => (by rw [hLpq hLp] at h; simp at h), fun _ h => (by rw [hLp] at h; simp at h), fun _ => ?_, same' v⟩)
          rw [hdn, eval_put_same hm.ok (hF.lt i c hr)]
          exact hv
        · rw [if_neg hir] at hob
          have hrun : Run P ops o a σ (Φ i).pr := by
            by_cases hea : earlyB r ops i = true
            · rw [if_pos hea] at hob
              have hLr : L r = false := by
                cases h : L r with
                | false => rfl
                | true => rw [early_spec hea hro hclosed h] at hL; cases hL
              exact Deps.elim o.after.toList hdeps (hob a σ (hm.stp1 hLr) hm.ok hsame)
            · rw [if_neg hea] at hob
              exact Deps.elim o.after.toList hdeps (hob a σ hm.stp hm.ok hsame)
          have hne2 : o.dst ≠ some c := fun he => hir (hF.uniq i r c (by rw [hdi]; exact he) hr)
          have next : ∀ v τ, Stp 0 σ τ → (Φ i).has τ v → K (a.put o.dst v) τ.w := by
            intro v τ hs hv
            refine hK _ τ ⟨hm.stp.trans hs.toL0, fun h => ?_, fun h => ?_, hm.ok.put _ _, done' v τ hs.le0 (.inl hv), fun h h2 => ?_, fun h h2 => ?_, fun h => ?_, same' v⟩
            · simp at h; exact (hm.stp1 h.1).trans hs.toL0
            · simp at h; exact (hm.stp0 h.1).trans hs
            · have hLz : L z = true := by simpa [Ne.symm hiz] using h
              have hLq : L q = false := by simp at h2; exact h2.1
              rw [eval_put_ne hne0]
              exact Z.up hs (hm.donez hLz hLq)
            · have hLq : L q = true := by simpa [Ne.symm hiq] using h
              have hLp : L p = false := by simp at h2; exact h2.1
              rw [eval_put_ne hne]
              exact A.up hs (hm.doneq hLq hLp)
            · have hLr : L r = true := by simpa [Ne.symm hir] using h
              rw [eval_put_ne hne2]
              exact B.up hs (hm.donep hLr)
          unfold wpOp
          simp only [ho]
          by_cases hw : Region.wanted o (yielded ops a.tmps) = true
          · rw [if_pos hw]
            exact .inl (hrun.1 hw K Q next)
          · rw [if_neg hw]
            exact next undef σ (Stp.refl _ _) (hrun.2 (by simpa using hw))
end Go.KL

/- A region in whatever order, one operation of which stores: the others neither read nor write what it writes. -/
namespace Go.KL
open Go.RowKit
variable {P : Program}
structure Mid7 (p N : Nat) (D : List Deferred) (W : List Nat) (B : Pr) (ops : Array Oper) (Φ : Nat → Ty) (a0 : Act) (σ0 : GW) (L : Nat → Bool) (a : Act) (σ : GW) : Prop where
  stp : StpL W σ0 σ
  stp0 : L p = false → Stp 0 σ0 σ
  ok : Ok N D a
  done : ∀ j, L j = true → j ≠ p → rd ops (fun i => (Φ i).pr) j a σ
  donep : L p = true → B.has σ undef
  same : ∀ t, (∀ j, dstOf ops j = some t → L j = false) → a.eval (.tmp t) = a0.eval (.tmp t)

def OblW7 (P : Program) (N : Nat) (D : List Deferred) (W : List Nat) (B : Pr) (ops : Array Oper) (Φ : Nat → Ty) (a0 : Act) (σ0 : GW) (i : Nat) (o : Oper) : Prop :=
  ∀ a σ, Stp 0 σ0 σ → Ok N D a → (∀ t, free ops i t = true → a.eval (.tmp t) = a0.eval (.tmp t)) → Deps ops (fun i => (Φ i).pr) a σ o.after.toList (YldL W P o a σ (fun _ τ => B.has τ undef))
def Obls7 (P : Program) (p N : Nat) (D : List Deferred) (W : List Nat) (B : Pr) (ops : Array Oper) (Φ : Nat → Ty) (a0 : Act) (σ0 : GW) : Nat → List Oper → Prop
  | _, [] => True
  | i, o :: l => (if i = p then OblW7 P N D W B ops Φ a0 σ0 i o else Obl3 P N D W ops Φ a0 σ0 i o) ∧ Obls7 P p N D W B ops Φ a0 σ0 (i + 1) l
theorem Obls7.get {p N : Nat} {D : List Deferred} {W : List Nat} {B : Pr} {ops : Array Oper} {Φ : Nat → Ty} {a0 : Act} {σ0 : GW} : ∀ (l : List Oper) (k : Nat), Obls7 P p N D W B ops Φ a0 σ0 k l → ∀ j o, l[j]? = some o → (if k + j = p then OblW7 P N D W B ops Φ a0 σ0 (k + j) o else Obl3 P N D W ops Φ a0 σ0 (k + j) o)
  | [], _, _, j, o, h => by simp at h
  | x :: l, k, h, 0, o, hj => by simp at hj; subst hj; exact h.1
  | x :: l, k, h, j + 1, o, hj => by
    have := Obls7.get l (k + 1) h.2 j o (by simpa using hj)
    rwa [show k + 1 + j = k + (j + 1) by omega] at this
theorem Obls7.up {p N : Nat} {D : List Deferred} {W : List Nat} {B : Pr} {ops : Array Oper} {Φ : Nat → Ty} {a0 : Act} {σ0 σ1 : GW} (hs : Stp 0 σ0 σ1) : ∀ (l : List Oper) (k : Nat), Obls7 P p N D W B ops Φ a0 σ0 k l → Obls7 P p N D W B ops Φ a0 σ1 k l
  | [], _, _ => trivial
  | x :: l, k, h => by
    refine ⟨?_, Obls7.up hs l (k + 1) h.2⟩
    have h1 := h.1
    split at h1
    · rename_i e; rw [if_pos e]; exact fun a σ hs' => h1 a σ (hs.trans hs')
    · rename_i e; rw [if_neg e]; exact fun a σ hs' => h1 a σ (hs.toL0.trans hs')

theorem Mid7.op {p N : Nat} {D : List Deferred} {W : List Nat} {B : Pr} {ops : Array Oper} {Φ : Nat → Ty} {a0 : Act} {σ0 : GW} {L : Nat → Bool} {a : Act} {σ : GW} {i : Nat} {o : Oper} {Q : Exit → Act → World → Prop} {K : Act → World → Prop}
    (hF : Form N ops) (h1 : 1 ∉ W) (hp : dstOf ops p = none) (hpg : ∀ o, ops[p]? = some o → o.guard = none) (hm : Mid7 p N D W B ops Φ a0 σ0 L a σ) (ho : ops[i]? = some o) (hL : L i = false)
    (hob : if i = p then OblW7 P N D W B ops Φ a0 σ0 i o else Obl3 P N D W ops Φ a0 σ0 i o)
    (hall : ∀ e ∈ o.after, Region.binds .any e = true → L e.on = true) (hclosed : ∀ (j : Nat) oj, ops[j]? = some oj → L j = true → ∀ e ∈ oj.after, Region.binds .any e = true → L e.on = true)
    (hK : ∀ a' σ', Mid7 p N D W B ops Φ a0 σ0 (fun j => L j || j == i) a' σ' → K a' σ'.w) : wpOp P ops Q i K a σ.w := by
  have hdi : dstOf ops i = o.dst := by simp [dstOf, ho]
  have hsame : ∀ t, free ops i t = true → a.eval (.tmp t) = a0.eval (.tmp t) := by
    intro t ht
    refine hm.same t fun j hj => ?_
    cases hLj : L j with
    | false => rfl
    | true =>
      exfalso
      unfold dstOf at hj
      obtain ⟨oj, hoj, hd⟩ := Option.bind_eq_some_iff.1 hj
      unfold free at ht
      have := (List.all_eq_true.1 ht) oj (List.mem_of_getElem? hoj)
      simp only [hd, bne_self_eq_false, Bool.false_or, List.any_eq_true, Bool.and_eq_true, beq_iff_eq] at this
      obtain ⟨e, he, hb, hon⟩ := this
      have := hclosed j oj (by simpa using hoj) hLj e (by simpa using he) hb
      rw [hon, hL] at this
      cases this
  have hdeps : ∀ e ∈ o.after.toList, Region.binds .any e = true → rd ops (fun i => (Φ i).pr) e.on a σ := fun e he hb => by
    by_cases hep : e.on = p
    · rw [hep]; unfold rd; rw [hp]; trivial
    · exact hm.done e.on (hall e (by simpa using he) hb) hep
  -- whatever step of whichever kind: what holds behind it
  have done' : ∀ v (τ : GW), σ.Le τ → (i ≠ p → (Φ i).has τ v) → ∀ j, (L j || j == i) = true → j ≠ p → rd ops (fun i => (Φ i).pr) j (a.put o.dst v) τ := by
    intro v τ hle hv j hLj hjp
    by_cases hji : j = i
    · subst hji
      unfold rd
      cases hd : dstOf ops j with
      | none => trivial
      | some d =>
        have : o.dst = some d := by rw [← hdi]; exact hd
        simp only [this]
        rw [eval_put_same hm.ok (hF.lt j d hd)]
        exact hv hjp
    · have hLj' : L j = true := by simpa [hji] using hLj
      have h0 := hm.done j hLj' hjp
      unfold rd at h0 ⊢
      cases hd : dstOf ops j with
      | none => trivial
      | some d =>
        rw [hd] at h0
        simp only at h0 ⊢
        rw [eval_put_ne (fun he => hji (hF.uniq j i d hd (by rw [hdi]; exact he)))]
        exact (Φ j).up hle h0
  have same' : ∀ v t, (∀ j, dstOf ops j = some t → (L j || j == i) = false) → (a.put o.dst v).eval (.tmp t) = a0.eval (.tmp t) := by
    intro v t ht
    have h1 : o.dst ≠ some t := fun he => by
      have := ht i (by rw [hdi]; exact he)
      simp at this
    rw [eval_put_ne h1]
    exact hm.same t fun j hj => by
      have := ht j hj
      simp at this
      exact this.1
  by_cases hip : i = p
  · subst hip
    rw [if_pos rfl] at hob
    have hy := Deps.elim o.after.toList hdeps (hob a σ (hm.stp0 hL) hm.ok hsame)
    unfold wpOp
    simp only [ho]
    have hw : Region.wanted o (yielded ops a.tmps) = true := by simp [Region.wanted, hpg o ho]
    rw [if_pos hw]
    refine .inl (hy K Q fun v τ hs hr => hK _ τ ⟨hm.stp.trans hs, fun h => (by simp at h), hm.ok.put _ _, done' v τ (hs.le h1) (fun h => absurd rfl h), fun _ => ?_, same' v⟩)
    exact hr
  · rw [if_neg hip] at hob
    have hrun := Deps.elim o.after.toList hdeps (hob a σ hm.stp hm.ok hsame)
    have next : ∀ v τ, Stp 0 σ τ → (Φ i).has τ v → K (a.put o.dst v) τ.w := by
      intro v τ hs hv
      refine hK _ τ ⟨hm.stp.trans hs.toL0, fun h => ?_, hm.ok.put _ _, done' v τ hs.le0 (fun _ => hv), fun h => ?_, same' v⟩
      · simp at h; exact (hm.stp0 h.1).trans hs
      · have hLp : L p = true := by simpa [Ne.symm hip] using h
        exact B.up hs (hm.donep hLp)
    unfold wpOp
    simp only [ho]
    by_cases hw : Region.wanted o (yielded ops a.tmps) = true
    · rw [if_pos hw]
      exact .inl (hrun.1 hw K Q next)
    · rw [if_neg hw]
      exact next undef σ (Stp.refl _ _) (hrun.2 (by simpa using hw))

structure Half7 (m N : Nat) (D : List Deferred) (W : List Nat) (B : Pr) (ops : Array Oper) (Φ : Nat → Ty) (a0 : Act) (σ0 : GW) (a : Act) (σ : GW) : Prop where
  stp : StpL W σ0 σ
  ok : Ok N D a
  done : ∀ j, j < m → rd ops (fun i => (Φ i).pr) j a σ
  donep : B.has σ undef
  same : ∀ t, ((ops.toList.take m).all fun o => o.dst != some t) = true → a.eval (.tmp t) = a0.eval (.tmp t)

theorem Mid7.half {m p N : Nat} {D : List Deferred} {W : List Nat} {B : Pr} {ops : Array Oper} {Φ : Nat → Ty} {a0 : Act} {σ0 : GW} {a : Act} {σ : GW} (h : Mid7 p N D W B ops Φ a0 σ0 (fun j => decide (j < m)) a σ) (hpm : p < m) (hp : dstOf ops p = none) : Half7 m N D W B ops Φ a0 σ0 a σ := by
  refine ⟨h.stp, h.ok, fun j hj => ?_, h.donep (by simpa using hpm), fun t ht => h.same t fun j hj => ?_⟩
  · by_cases hjp : j = p
    · rw [hjp]; unfold rd; rw [hp]; trivial
    · exact h.done j (by simpa using hj) hjp
  · by_cases hjm : j < m
    · obtain ⟨o, ho, hd⟩ := Option.bind_eq_some_iff.1 hj
      have := (List.all_eq_true.1 ht) o (List.mem_of_getElem? (i := j) (by rw [List.getElem?_take, if_pos hjm]; exact ho))
      simp [hd] at this
    · simpa using hjm

theorem Half7.kt {m N : Nat} {D : List Deferred} {W : List Nat} {B : Pr} {ops : Array Oper} {Φ : Nat → Ty} {a0 a : Act} {σ0 σ : GW} {T : Ty} {t : Nat} (h : Half7 m N D W B ops Φ a0 σ0 a σ) (h1 : 1 ∉ W) (k : T.has σ0 (a0.eval (.tmp t))) (ht : ((ops.toList.take m).all fun o => o.dst != some t) = true) : T.has σ (a.eval (.tmp t)) := by
  rw [h.same t ht]; exact T.up (h.stp.le h1) k
def Pr.st (k : Nat) (e : TypeId) (c : Nat) (v : Value) (n : Nat) (ts : List Ty) : Pr := ⟨fun σ _ => Own σ k e c v n ts, fun hs h => h.keep hs (by decide) (.inl rfl)⟩
end Go.KL

/- A region in whatever order, one operation of which stores; what it waits for may read what it writes. -/
namespace Go.KL
open Go.RowKit
variable {P : Program}
def OblE (P : Program) (N : Nat) (D : List Deferred) (ops : Array Oper) (Φ : Nat → Ty) (a0 : Act) (σ0 : GW) (i : Nat) (o : Oper) : Prop :=
  ∀ a σ, Stp 0 σ0 σ → Ok N D a → (∀ t, free ops i t = true → a.eval (.tmp t) = a0.eval (.tmp t)) → Deps ops (fun i => (Φ i).pr) a σ o.after.toList (Run P ops o a σ (Φ i).pr)
def Obls9 (P : Program) (p N : Nat) (D : List Deferred) (W : List Nat) (B : Pr) (ops : Array Oper) (Φ : Nat → Ty) (a0 : Act) (σ0 : GW) : Nat → List Oper → Prop
  | _, [] => True
  | i, o :: l => (if i = p then OblW7 P N D W B ops Φ a0 σ0 i o else if earlyB p ops i = true then OblE P N D ops Φ a0 σ0 i o else Obl3 P N D W ops Φ a0 σ0 i o) ∧ Obls9 P p N D W B ops Φ a0 σ0 (i + 1) l
theorem Obls9.get {p N : Nat} {D : List Deferred} {W : List Nat} {B : Pr} {ops : Array Oper} {Φ : Nat → Ty} {a0 : Act} {σ0 : GW} : ∀ (l : List Oper) (k : Nat), Obls9 P p N D W B ops Φ a0 σ0 k l → ∀ j o, l[j]? = some o → (if k + j = p then OblW7 P N D W B ops Φ a0 σ0 (k + j) o else if earlyB p ops (k + j) = true then OblE P N D ops Φ a0 σ0 (k + j) o else Obl3 P N D W ops Φ a0 σ0 (k + j) o)
  | [], _, _, j, o, h => by simp at h
  | x :: l, k, h, 0, o, hj => by simp at hj; subst hj; exact h.1
  | x :: l, k, h, j + 1, o, hj => by
    have := Obls9.get l (k + 1) h.2 j o (by simpa using hj)
    rwa [show k + 1 + j = k + (j + 1) by omega] at this
theorem Obls9.up {p N : Nat} {D : List Deferred} {W : List Nat} {B : Pr} {ops : Array Oper} {Φ : Nat → Ty} {a0 : Act} {σ0 σ1 : GW} (hs : Stp 0 σ0 σ1) : ∀ (l : List Oper) (k : Nat), Obls9 P p N D W B ops Φ a0 σ0 k l → Obls9 P p N D W B ops Φ a0 σ1 k l
  | [], _, _ => trivial
  | x :: l, k, h => by
    refine ⟨?_, Obls9.up hs l (k + 1) h.2⟩
    have h1 := h.1
    split at h1
    · rename_i e; rw [if_pos e]; exact fun a σ hs' => h1 a σ (hs.trans hs')
    · rename_i e
      rw [if_neg e]
      split at h1
      · rename_i e2; rw [if_pos e2]; exact fun a σ hs' => h1 a σ (hs.trans hs')
      · rename_i e2; rw [if_neg e2]; exact fun a σ hs' => h1 a σ (hs.toL0.trans hs')

end Go.KL

/- Calls of a function value that has captured nothing; halves (never beside KlKnd). -/
namespace Go.KL
open Go.RowKit
variable {P : Program} {d : Option Tmp} {ty : TypeId} {pos : String} {af : Array Edge} {g : Option (Nat × Bool)} {a : Act} {σ : GW}
end Go.KL

/- From a row's reading of its arguments to semantic types, and from a law's contract back to the row. -/
namespace Go.KL
open Go.ChangeShapes Go.WideShapes Go.ChangeAt Go.RowKit Go.Deep
variable {P : Program}

def GW.all (W : World) : GW := ⟨W, fun b => if b < W.heap.size then 1 else 0, fun b h => by
  by_cases hb : b < W.heap.size
  · exact hb
  · simp [hb] at h⟩

structure Bulk {H : Type} (B : DataW H → Nat) (BA : List (DataW H) → Nat) : Prop where
  one : ∀ d, 1 ≤ B d
  str : ∀ l, B (.lit (.string l)) = l.length + 1
  slice : ∀ es sp, B (.slice es sp) = BA es + BA sp + 1
  agg : ∀ ps, B (.agg ps) = BA ps + 1
  nil : BA [] = 0
  cons : ∀ d r, BA (d :: r) = B d + BA r

def Rd (P : Program) (t : TypeId) {α : Type} (cells : α → List Ty) (wf : α → Prop) (sz : α → Nat) (rc : α → Prop) : Prop :=
  ∀ (H : Type) (enc : TypeId × Value → H) (B : DataW H → Nat) (BA : List (DataW H) → Nat), Bulk B BA → ∀ (W : World) (fuel : Nat) (cs : List Value) (d : DataW H) (ps : List MemPlace),
    DataW.trod enc P W 0 (fun _ => true) true fuel t cs = some (d, ps) → ∃ x : α, wf x ∧ sz x ≤ B d ∧ ((d.weights P t).all (· ≤ reachBytes) = true → rc x) ∧ cs.length = (cells x).length ∧
      ∀ (j : Nat) (T : Ty) (u : Value), (cells x)[j]? = some T → cs[j]? = some u → T.has (GW.all W) u

theorem one_cell {T : Ty} {v : Value} {σ : GW} (h : T.has σ v) : ∀ (j : Nat) (U : Ty) (u : Value), [T][j]? = some U → [v][j]? = some u → U.has σ u := by
  intro j U u h1 h2
  match j with
  | 0 => simp at h1 h2; subst h1; subst h2; exact h
  | j + 1 => simp at h1

theorem rd_int {t : TypeId} {k : IntKind} (ht : P.underlying t = some (.int k)) : Rd P t (fun n : Int => [Ty.val (.int k n)]) (fun n => (Lit.int k n).wf = true) (fun _ => 1) (fun _ => True) := by
  intro H enc B BA hB W fuel cs d ps h
  obtain ⟨n, rfl, e, hw⟩ := DataW.trod_int ht h
  obtain ⟨rfl, rfl⟩ := Prod.mk.inj e
  exact ⟨n, hw, hB.one _, fun _ => trivial, rfl, one_cell rfl⟩
theorem BA_map {H : Type} {B : DataW H → Nat} {BA : List (DataW H) → Nat} (hB : Bulk B BA) {α : Type} (sz : α → Nat) : ∀ (xs : List α) (D : List (DataW H)), xs.length = D.length → (∀ (i : Nat) x d, xs[i]? = some x → D[i]? = some d → sz x ≤ B d) → (xs.map sz).sum ≤ BA D
  | [], [], _, _ => by simp
  | x :: xs, d :: D, hl, h => by
    rw [hB.cons, List.map_cons, List.sum_cons]
    have h0 := h 0 x d rfl rfl
    have := BA_map hB sz xs D (by simpa using hl) (fun i y e hy he => h (i + 1) y e (by simpa using hy) (by simpa using he))
    omega

theorem weightsAll_mem {H : Type} {e : TypeId} : ∀ {D : List (DataW H)} {d : DataW H}, d ∈ D → ∀ n, n ∈ d.weights P e → n ∈ DataW.weightsAll P e D
  | x :: D, d, h, n, hn => by
    simp only [DataW.weightsAll, List.mem_append]
    rcases List.mem_cons.1 h with rfl | h
    · exact .inl hn
    · exact .inr (weightsAll_mem h n hn)

theorem spot_none {w : World} {a : Addr} {v : Value} (h : w.cell? a = some v) : a.spot = none := by
  unfold World.cell? at h
  split at h
  · split at h
    · cases h
    · rename_i hs; simpa using hs
  · cases h

theorem rd_slice {t e c : TypeId} {α : Type} {cells : α → List Ty} {wf : α → Prop} {sz : α → Nat} {rc : α → Prop} (ht : P.underlying t = some (.slice e)) (hc : P.cellsOf e = c) (hc0 : 0 < c) (he : Rd P e cells wf sz rc) (hcl : ∀ x, wf x → (cells x).length = c) :
    Rd P t (fun xs : List α => [Ty.sl c xs.length (xs.flatMap cells)]) (fun xs => xs.length ≤ maxLen ∧ ∀ x ∈ xs, wf x) (fun xs => (xs.map sz).sum + 1) (fun xs => xs.length * P.bytesOf e ≤ reachBytes ∧ ∀ x ∈ xs, rc x) := by
  intro H enc B BA hB W fuel cs d ps h
  rcases open_slice ht h with ⟨rfl, e1⟩ | ⟨a, len, cap, m, n, D, Pl, rfl, _, hlen, hcap, hm, e1, hel⟩
  · obtain ⟨rfl, rfl⟩ := Prod.mk.inj e1
    exact ⟨[], ⟨Nat.zero_le _, fun x h => by cases h⟩, by simpa using hB.one _, fun _ => ⟨by simp, fun x h => by cases h⟩, rfl, one_cell ⟨none, 0, 0, 0, rfl, ⟨Nat.le_refl _, by decide⟩, by simp, .inl rfl, fun j T hj => by simp at hj⟩⟩
  · obtain ⟨rfl, rfl⟩ := Prod.mk.inj e1
    subst hc
    simp only [if_true] at hm
    subst hm
    have hx : ∀ i : Fin len, ∃ x : α, ∃ cs' : List Value, W.cells? 0 (a.add (i * P.cellsOf e)) (P.cellsOf e) = some cs' ∧ wf x ∧ sz x ≤ B (D i) ∧ (((D i).weights P e).all (· ≤ reachBytes) = true → rc x) ∧ cs'.length = (cells x).length ∧
        ∀ (j : Nat) (T : Ty) (u : Value), (cells x)[j]? = some T → cs'[j]? = some u → T.has (GW.all W) u := by
      intro i
      obtain ⟨cs', h1, h2⟩ := hel i (by omega)
      obtain ⟨x, hx⟩ := he H enc B BA hB W n cs' _ _ h2
      exact ⟨x, cs', h1, hx⟩
    let f : Fin len → α := fun i => Classical.choose (hx i)
    have hf : ∀ i : Fin len, ∃ cs' : List Value, W.cells? 0 (a.add (i * P.cellsOf e)) (P.cellsOf e) = some cs' ∧ wf (f i) ∧ sz (f i) ≤ B (D i) ∧ (((D i).weights P e).all (· ≤ reachBytes) = true → rc (f i)) ∧ cs'.length = (cells (f i)).length ∧
        ∀ (j : Nat) (T : Ty) (u : Value), (cells (f i))[j]? = some T → cs'[j]? = some u → T.has (GW.all W) u := fun i => Classical.choose_spec (hx i)
    have hlf : (List.ofFn f).length = len := by simp
    have hget : ∀ (i : Nat) (x : α), (List.ofFn f)[i]? = some x → ∃ hi : i < len, x = f ⟨i, hi⟩ := fun i x h => by
      have hi : i < len := by have := (List.getElem?_eq_some_iff.1 h).1; simpa using this
      refine ⟨hi, ?_⟩
      rw [List.getElem?_ofFn] at h
      simp [hi] at h
      exact h.symm
    have hmem : ∀ x ∈ List.ofFn f, ∃ i : Fin len, x = f i := fun x h => by
      obtain ⟨i, hi⟩ := List.mem_iff_getElem?.1 h
      obtain ⟨hi', rfl⟩ := hget i x hi
      exact ⟨⟨i, hi'⟩, rfl⟩
    have hwf : ∀ x ∈ List.ofFn f, wf x := fun x h => by
      obtain ⟨i, rfl⟩ := hmem x h
      obtain ⟨_, _, h1, _⟩ := hf i
      exact h1
    have hflat : ∀ (xs : List α), (∀ x ∈ xs, wf x) → (xs.flatMap cells).length = xs.length * P.cellsOf e := fun xs h => by
      induction xs with
      | nil => simp
      | cons x xs ih =>
        rw [List.flatMap_cons, List.length_append, hcl x (h x (by simp)), ih (fun y hy => h y (by simp [hy])), List.length_cons, Nat.succ_mul]; omega
    refine ⟨List.ofFn f, ⟨by rw [hlf]; omega, hwf⟩, ?_, fun hr => ⟨?_, fun x h => ?_⟩, rfl, one_cell ?_⟩
    · rw [hB.slice]
      have := BA_map hB sz (List.ofFn f) ((List.range len).map D) (by simp) (fun i x d hx hd => by
        obtain ⟨hi, rfl⟩ := hget i x hx
        obtain ⟨_, _, _, h2, _⟩ := hf ⟨i, hi⟩
        rw [List.getElem?_map, List.getElem?_range hi] at hd
        simp at hd; subst hd; exact h2)
      show (List.map sz (List.ofFn f)).sum + 1 ≤ _
      omega
    · rw [hlf]
      have : (((List.range len).map D).length + ((List.range (m - len)).map fun j => D (len + j)).length) * P.bytesOf e ≤ reachBytes := by
        have := List.all_eq_true.1 hr _ (by simp only [DataW.weights, ht]; exact List.mem_cons_self)
        simpa using this
      refine Nat.le_trans (Nat.mul_le_mul_right _ ?_) this
      simp
    · obtain ⟨i, rfl⟩ := hmem x h
      obtain ⟨_, _, _, _, h3, _⟩ := hf i
      refine h3 (List.all_eq_true.2 fun k hk => ?_)
      refine List.all_eq_true.1 hr k ?_
      simp only [DataW.weights, ht]
      refine List.mem_cons_of_mem _ (List.mem_append.2 (.inl (weightsAll_mem (D := List.map D (List.range len)) (d := D i.val) (List.mem_map.2 ⟨i.val, List.mem_range.2 i.2, rfl⟩) k hk)))
    · -- the cells
      by_cases h0 : len = 0
      · have e0 : List.ofFn f = [] := List.eq_nil_of_length_eq_zero (by rw [hlf, h0])
        rw [e0, h0]
        exact ⟨some a, m, 0, 0, rfl, ⟨Nat.zero_le _, hcap⟩, by simp, .inl rfl, fun j T hj => by simp at hj⟩
      · have hcell : ∀ (i : Fin len) (k : Nat) (T : Ty), (cells (f i))[k]? = some T → ∃ u, W.cell? ((a.add (i * P.cellsOf e)).add k) = some u ∧ T.has (GW.all W) u := fun i k T hT => by
          obtain ⟨cs', h1, h2, _, _, h5, h6⟩ := hf i
          have hk : k < cs'.length := by rw [h5]; exact (List.getElem?_eq_some_iff.1 hT).1
          refine ⟨cs'[k], ?_, h6 k T _ hT (by simp [hk])⟩
          have hkc : k < P.cellsOf e := by rw [← hcl _ h2, ← h5]; exact hk
          unfold World.cells? at h1
          rw [if_pos (Nat.zero_le _)] at h1
          have := mapM_some_get h1 k k (by rw [List.getElem?_range hkc])
          rw [this]; simp [hk]
        have hspot : a.spot = none := by
          obtain ⟨cs', h1, h2, _, _, h5, h6⟩ := hf ⟨0, by omega⟩
          have h7 : 0 < (cells (f ⟨0, by omega⟩)).length := by rw [hcl _ h2]; exact hc0
          obtain ⟨u, hu, _⟩ := hcell ⟨0, by omega⟩ 0 _ (List.getElem?_eq_getElem h7)
          simp [Addr.add] at hu
          exact spot_none hu
        obtain ⟨ab, ao, asp⟩ := a
        simp only at hspot
        subst hspot
        have hlt : ab < W.heap.size := by
          obtain ⟨cs', h1, h2, _, _, h5, h6⟩ := hf ⟨0, by omega⟩
          have h7 : 0 < (cells (f ⟨0, by omega⟩)).length := by rw [hcl _ h2]; exact hc0
          obtain ⟨u, hu, _⟩ := hcell ⟨0, by omega⟩ 0 _ (List.getElem?_eq_getElem h7)
          simp [Addr.add] at hu
          exact World.block_lt_of_cell? _ _ hu
        refine ⟨some ⟨ab, ao, none⟩, m, ab, ao, by rw [hlf], ⟨by omega, hcap⟩, hflat _ hwf, .inr ⟨rfl, by simp [GW.all, hlt]⟩, fun j T hj => ?_⟩
        -- cell j is cell j % c of element j / c
        have key : ∀ (xs : List α) (o : Nat), (∀ x ∈ xs, wf x) → (∀ (i : Nat) x, xs[i]? = some x → ∀ (k : Nat) (T : Ty), (cells x)[k]? = some T → ∃ u, W.cell? ⟨ab, o + i * P.cellsOf e + k, none⟩ = some u ∧ T.has (GW.all W) u) →
            ∀ (j : Nat) (T : Ty), (xs.flatMap cells)[j]? = some T → ∃ u, W.cell? ⟨ab, o + j, none⟩ = some u ∧ T.has (GW.all W) u := by
          intro xs
          induction xs with
          | nil => intro o _ _ j T hj; simp at hj
          | cons x xs ih =>
            intro o hw hc j T hj
            rw [List.flatMap_cons] at hj
            have hlx := hcl x (hw x (by simp))
            by_cases hjl : j < (cells x).length
            · rw [List.getElem?_append_left hjl] at hj
              have := hc 0 x rfl j T hj
              simpa using this
            · rw [List.getElem?_append_right (by omega)] at hj
              have := ih (o + P.cellsOf e) (fun y hy => hw y (by simp [hy])) (fun i y hy k T hT => by
                have := hc (i + 1) y (by simpa using hy) k T hT
                rw [Nat.succ_mul] at this
                rw [show o + P.cellsOf e + i * P.cellsOf e + k = o + (i * P.cellsOf e + P.cellsOf e) + k by omega]
                exact this) _ T hj
              rw [hlx] at this hjl
              rwa [show o + P.cellsOf e + (j - P.cellsOf e) = o + j by omega] at this
        refine key (List.ofFn f) ao hwf (fun i x hx k T hT => ?_) j T hj
        obtain ⟨hi, rfl⟩ := hget i x hx
        have := hcell ⟨i, hi⟩ k T hT
        simp only [Addr.add_lit] at this
        exact this

theorem Rd.conv {t : TypeId} {α β : Type} {cells : α → List Ty} {wf : α → Prop} {sz : α → Nat} {rc : α → Prop} {cells' : β → List Ty} {wf' : β → Prop} {sz' : β → Nat} {rc' : β → Prop} (h : Rd P t cells wf sz rc) (g : α → β)
    (hg : ∀ x, wf x → wf' (g x) ∧ sz' (g x) ≤ sz x ∧ (rc x → rc' (g x)) ∧ cells' (g x) = cells x) : Rd P t cells' wf' sz' rc' := by
  intro H enc B BA hB W fuel cs d ps ht
  obtain ⟨x, h1, h2, h3, h4, h5⟩ := h H enc B BA hB W fuel cs d ps ht
  obtain ⟨g1, g2, g3, g4⟩ := hg x h1
  exact ⟨g x, g1, Nat.le_trans g2 h2, fun h => g3 (h3 h), by rw [g4]; exact h4, by rw [g4]; exact h5⟩

theorem flatMap_one {α : Type} (f : α → Ty) (xs : List α) : xs.flatMap (fun x => [f x]) = xs.map f := by
  induction xs with
  | nil => rfl
  | cons x xs ih => simp [ih]

theorem rd_lst {t e : TypeId} {α : Type} {f : α → Ty} {wf : α → Prop} {sz : α → Nat} {rc : α → Prop} (ht : P.underlying t = some (.slice e)) (hc : P.cellsOf e = 1) (he : Rd P e (fun x => [f x]) wf sz rc) :
    Rd P t (fun xs : List α => [Ty.lst f xs]) (fun xs => xs.length ≤ maxLen ∧ ∀ x ∈ xs, wf x) (fun xs => (xs.map sz).sum + 1) (fun xs => xs.length * P.bytesOf e ≤ reachBytes ∧ ∀ x ∈ xs, rc x) :=
  (rd_slice ht hc (by decide) he (fun _ _ => rfl)).conv id fun x h => ⟨h, Nat.le_refl _, id, by simp [flatMap_one, Ty.lst]⟩

/-! ### Back to the row -/
theorem trodAll_stays {H : Type} {enc : TypeId × Value → H} (hl : laidOutB P = true) {W W' : World} (hb : Below W.heap.size W W') : ∀ {ts : List TypeId} {vs : List Value} {ds : List (DataW H)} {ps : List MemPlace},
    DataW.TrodAll enc P W 0 (fun _ => true) true ts vs ds ps → (ts.all fun t => P.readableRec t && decide (t < P.types.size)) = true → (∀ x ∈ ps, x.block < W.heap.size) → DataW.TrodAll enc P W' 0 (fun b => decide (b < W.heap.size)) true ts vs ds ps
  | [], [], [], ps, h, _, _ => h
  | t :: ts, v :: vs, d :: ds, ps, h, ha, hp => by
    obtain ⟨p, q, h1, h2, rfl⟩ := h
    simp only [List.all_cons, Bool.and_eq_true, decide_eq_true_eq] at ha
    exact ⟨p, q, Below.trod hl ha.1.1 ha.1.2 h1 hb (fun x hx => hp x (List.mem_append.2 (.inl hx))), trodAll_stays hl hb h2 ha.2 (fun x hx => hp x (List.mem_append.2 (.inr hx))), rfl⟩
  | [], [], _ :: _, _, h, _, _ => h.elim
  | [], _ :: _, _, _, h, _, _ => h.elim
  | _ :: _, [], _, _, h, _, _ => h.elim
  | _ :: _, _ :: _, [], _, h, _, _ => h.elim

theorem law_post {H : Type} {enc : TypeId × Value → H} {fn : Func} {f : FuncId} {s : ChangeSpec} {W : World} {args : Array Value} {ds gs : List (DataW H)} {before : List MemPlace} {tb : TypeId}
    (hres : fn.resultTypes = #[tb]) (hb : P.underlying tb = some .bool) (hl : laidOutB P = true) (hr : (fn.params.toList.all fun t => P.readableRec t && decide (t < P.types.size)) = true)
    (hW : DataW.Whole enc P fn.params.toList s.vars false W args.toList ds gs before) (hv : s.vars = []) (hs : s.fn H (ds ++ gs) = { results := [.lit (.bool true)], args := ds })
    (hc : FnC P f args (GW.all W) (Ty.bool true)) : Calls P f args W fun e W' => ∃ v, e = .returned v ∧ s.post enc P fn false true false false W args v W' := by
  refine Calls.mono hc ?_
  rintro e W' ⟨v, τ, rfl, hstp, rfl, hvv⟩
  have hbel : Below W.heap.size W τ.w := ⟨hstp.os, hstp.tape, hstp.output, hstp.size, fun k hk => hstp.blk k hk (.inl rfl)⟩
  have hW' := hW
  obtain ⟨p, q, hA, hV, rfl, _, _⟩ := hW
  have hq : q = [] := by
    rw [hv] at hV
    cases gs with
    | nil => exact hV
    | cons _ _ => exact hV.elim
  subst hq
  have hgs : gs = [] := by
    rw [hv] at hV
    cases gs with
    | nil => rfl
    | cons _ _ => exact hV.elim
  subst hgs
  have hvv' : v = .bool true := hvv
  subst hvv'
  refine ⟨_, rfl, ds, [], _, [], p, [], hW', ?_, ?_, ?_, hbel.frame _, fun h => by cases h⟩
  · rw [hs, hres]
    exact trodAll_mk1 (shut_bool hb true)
  · rw [hs]
    exact trodAll_stays hl hbel hA hr (fun x hx => hW'.lt x (List.mem_append.2 (.inl hx)))
  · rw [hs, hv]; rfl

theorem arg_one {H : Type} {enc : TypeId × Value → H} {B : DataW H → Nat} {BA : List (DataW H) → Nat} (hB : Bulk B BA) {W : World} {t : TypeId} {v : Value} {d : DataW H} {ps : List MemPlace} {α : Type} {T : α → Ty} {wf : α → Prop} {sz : α → Nat} {rc : α → Prop}
    (h : Rd P t (fun x => [T x]) wf sz rc) (hone : v.cells = #[v]) (ht : DataW.Trod enc P W 0 (fun _ => true) true t v d ps) : ∃ x : α, wf x ∧ sz x ≤ B d ∧ ((d.weights P t).all (· ≤ reachBytes) = true → rc x) ∧ (T x).has (GW.all W) v := by
  obtain ⟨fuel, hf⟩ := ht
  rw [hone] at hf
  obtain ⟨x, h1, h2, h3, _, h5⟩ := h H enc B BA hB W fuel _ d ps hf
  exact ⟨x, h1, h2, h3, h5 0 _ _ rfl rfl⟩
theorem one_slice {e : TypeId} {w : World} {r : Reach} {base : Nat} {t : TypeId} {v : Value} (ht : P.underlying t = some (.slice e)) (h : Value.okWide P w r base t v) : v.cells = #[v] := by
  obtain ⟨a, l, c, rfl⟩ := okWide_slice ht h; rfl
theorem one_int {k : IntKind} {w : World} {r : Reach} {base : Nat} {t : TypeId} {v : Value} (ht : P.underlying t = some (.int k)) (h : Value.okWide P w r base t v) : v.cells = #[v] := by
  obtain ⟨s, rfl⟩ := okWide_int ht h; rfl
theorem weightsEach_cons {H : Type} {t : TypeId} {ts : List TypeId} {d : DataW H} {ds : List (DataW H)} (h : (DataW.weightsEach P (t :: ts) (d :: ds)).all (· ≤ reachBytes) = true) : (d.weights P t).all (· ≤ reachBytes) = true ∧ (DataW.weightsEach P ts ds).all (· ≤ reachBytes) = true := by
  simpa [DataW.weightsEach, List.all_append] using h
theorem i64_bd {n : Int} (h : (Lit.int .i64 n).wf = true) : -9223372036854775808 ≤ n ∧ n ≤ 9223372036854775807 := by
  simp [Lit.wf, IntKind.min, IntKind.max, IntKind.signed, IntKind.bits] at h
  omega
end Go.KL

/- A listed global, as a row's cell says: it is there. -/
namespace Go.KL
open Go.RowKit
variable {P : Program}
theorem glb_laid {laid : List (String × DataW Unit)} {n nm : String} {text : List UInt8} {W : World} {g : Nat} {ti tp te ts : TypeId} {ms : Array (String × TypeId)} {f : Field}
    (h : laidMetH P laid W) (hl : (laid.filter fun x => x.2.handleName?.isNone).filter (fun x => x.1 == n) = [(n, .iface nm (.ptr (.agg [.lit (.string text)])))])
    (hg : P.globalNamed n = some g) (ht : (P.globals[g]?).map (·.type) = some ti) (hi : P.underlying ti = some (.interface ms)) (hrow : ∀ u, P.typeName? 3 u = some nm → u = tp)
    (hp : P.underlying tp = some (.pointer te)) (he : P.underlying te = some (.struct #[f])) (hft : f.type = ts) (hfo : f.offset = 0) (hs : P.underlying ts = some .string) (hc : P.cellsOf te = 1) (hcs : P.cellsOf ts = 1) :
    Glb g (GW.all W) := by
  have h1 := (laidMetH_iff.1 h).1.filter (fun x => x.1 == n)
  rw [hl] at h1
  obtain ⟨a, s, hv, _⟩ := laid_sentinel h1 hg ht hi hrow hp he hft hfo hs hc hcs
  have hcell : W.cell? ⟨g, 0, none⟩ = some (.iface tp (.pointer (some a))) := by simpa using World.var?_cell hg hv 0
  have hlt : g < W.heap.size := by
    unfold World.cell? at hcell
    by_cases hx : g < W.heap.size
    · exact hx
    · rw [Array.getElem?_eq_none (show W.heap.size ≤ g by omega)] at hcell
      cases hcell
  exact ⟨by simp [GW.all, hlt], _, hcell, .inr ⟨_, _, rfl⟩⟩
theorem laidH_all {os : Os} {laid : List (String × DataW Unit)} (args : Array Value) (hn : (laid.all fun x => x.2.handleName?.isNone) = true)
    (hf : (World.holding P os ⟨#[], #[], []⟩).layFits P laid [] = true) (hi : (World.holding P os ⟨#[], #[], []⟩).layIfaces P laid (World.laidAll P os laid) = true) :
    laidMetH P laid ((World.laidAll P os laid).forCall (fun _ _ => 0) ⟨#[], args, []⟩).memory := by
  rw [MakeChecks.laidMetH_plain _ _ _ hn]; exact laidMet_laidAll _ hf hi
theorem witness_row_sh {H : Type} {enc : TypeId × Value → H} {C : Checked} {os : Os} {f : FuncId} {fn : Func} {s : OpenSpec} {conds : List PathCond} {apart : Bool} {laid : List (String × DataW Unit)} (w0 : World) (args : Array Value) (hos : w0.os = os)
    (hsh : (w0.forCall (fun _ _ => 0) ⟨#[], args, []⟩).Shaped C.prog)
    (hok : Input.okWideB C.prog (w0.forCall (fun _ _ => 0) ⟨#[], args, []⟩) f ⟨#[], args, []⟩ = true)
    (hrow : s.preRow enc C.prog fn conds apart laid (w0.forCall (fun _ _ => 0) ⟨#[], args, []⟩).memory args) :
    ∃ (w : World) (tape : Tape) (i : Input), w.os = os ∧ (w.forCall tape i).Shaped C.prog ∧ i.vars = [] ∧ Input.okWide C.prog (w.forCall tape i) .any w.heap.size f i ∧
      s.preRow enc C.prog fn conds apart laid (w.forCall tape i).memory i.args ∧ ({} : Assume).holds C.prog (lone (Frame.enter C.prog f i.args .normal) [] (w.forCall tape i)) :=
  ⟨w0, fun _ _ => 0, ⟨#[], args, []⟩, hos, hsh, (Input.okWide_of_okWideB (base := 0) hok).1, (Input.okWide_of_okWideB hok).2, hrow, by
    simp only [Assume.holds]
    exact ⟨by simp, by simp, fun _ => Modest.zero, by simp, by simp⟩⟩
end Go.KL

/- Listed variables that a book reads; '[]byte' as an argument. -/
namespace Go.KL
open Go.RowKit
variable {P : Program}
theorem tab_laid {laid : List (String × DataW Unit)} {n : String} {k : IntKind} {zs : List Int} {W : World} {g : Nat} {t e : TypeId} {m : Nat}
    (h : laidMetH P laid W) (hl : (laid.filter fun x => x.2.handleName?.isNone).filter (fun x => x.1 == n) = [(n, Lib.tabData k zs)])
    (hg : P.globalNamed n = some g) (hty : (P.globals[g]?).map (·.type) = some t) (ht : P.underlying t = some (.array m e)) (he : P.underlying e = some (.int k)) (hce : P.cellsOf e = 1) (hct : P.cellsOf t = m) (hz : 0 < zs.length) :
    Tab P n k zs (GW.all W) := by
  have h1 := (laidMetH_iff.1 h).1.filter (fun x => x.1 == n)
  rw [hl] at h1
  have h2 := Lib.tabIs_of_head hg hty ht he hce hct h1
  have hcell := h2.cell hg 0 hz
  have hlt : g < W.heap.size := by
    unfold World.cell? at hcell
    by_cases hx : g < W.heap.size
    · exact hx
    · rw [Array.getElem?_eq_none (show W.heap.size ≤ g by omega)] at hcell
      cases hcell
  exact ⟨g, hg, by simp [GW.all, hlt], h2⟩
end Go.KL

