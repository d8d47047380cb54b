/- A region in whatever order, one operation of which writes: the others neither read nor write what it writes. -/
import Derived.Test.YtkjifbgofckfeaaExtentSaysK2
import Derived.Lib.AppendStr
import Derived.Laws.BitsLemmas
import Derived.Lib.IndexLaws
import Derived.Below
import Derived.Test.YtkjifbgofckfeaaExtentSaysK1
import Derived.Maps.RangeRun
import Derived.Shelf.GgSortFunc.Insertion
import Derived.Shelf.SlSortCmp.Whole1
import Derived.ProofKit
import Derived.JoinedCond
import Derived.SizedLaws
import Derived.Deep.Slices
import Derived.Deep.CondSized
namespace Go.KL
open Go.RowKit
variable {P : Program}

theorem half_any3 {m N : Nat} {ops : Array Oper} {Q : Exit → Act → World → Prop} (hF : Form N ops) (hm : m ≤ ops.size) (hB : forcedB m ops.toList = true) (M : (Nat → Bool) → Act → GW → Prop)
    (hstep : ∀ (i : Nat) o (L : Nat → Bool) a σ (K : Act → World → Prop), ops[i]? = some o → i < m → M L a σ → L i = false → (∀ e ∈ o.after, Region.binds .any e = true → L e.on = true) →
      (∀ (j : Nat) oj, ops[j]? = some oj → L j = true → ∀ e ∈ oj.after, Region.binds .any e = true → L e.on = true) → (∀ a' σ', M (fun j => L j || j == i) a' σ' → K a' σ'.w) → wpOp P ops Q i K a σ.w)
    (hQ : ∀ a σ, M (fun j => decide (j < m)) a σ → wpList P ops Q (ops.toList.drop m) a σ.w) : ∀ (f : Nat) (L : Array Bool) (a : Act) (σ : GW), L.size = ops.size → left ops.size L ≤ f → (∀ j, j < ops.size → m ≤ j → L.getD j true = false) →
    (∀ (j : Nat) oj, ops[j]? = some oj → L.getD j true = true → ∀ e ∈ oj.after, Region.binds .any e = true → L.getD e.on true = true) → M (fun j => decide (j < m) && L.getD j true) a σ → wpAny P .any ops Q f L a σ.w := by
  intro f
  induction f with
  | zero =>
    intro L a σ hs hf hLm hcl hmid
    have hnone : ∀ j, j < ops.size → L.getD j true = true := fun j hj => by
      cases h : L.getD j true with
      | true => rfl
      | false => have := left_set hs hj h; omega
    have hmm : m = ops.size := by
      rcases Nat.lt_or_ge m ops.size with h | h
      · have := hnone m h; rw [hLm m h (Nat.le_refl _)] at this; cases this
      · omega
    have e : (fun j => decide (j < m) && L.getD j true) = (fun j => decide (j < m)) := by
      funext j
      by_cases h : j < m
      · rw [hnone j (by omega)]; simp
      · simp [h]
    rw [e] at hmid
    exact tail_any hF hB 0 m 0 L a σ.w (by omega) (Nat.le_refl _) hs (Nat.le_refl _) (fun j hj => by rw [hnone j hj]; simp; omega) (hQ a σ hmid)
  | succ f ih =>
    intro L a σ hs hf hLm hcl hmid
    by_cases hdone : ∀ j, j < m → L.getD j true = true
    · have hL : ∀ j, j < ops.size → L.getD j true = decide (j < m) := fun j hj => by
        by_cases h : j < m
        · rw [hdone j h]; simp [h]
        · rw [hLm j hj (by omega)]; simp [h]
      have e : (fun j => decide (j < m) && L.getD j true) = (fun j => decide (j < m)) := by
        funext j
        by_cases h : j < m
        · rw [hdone j h]; simp
        · simp [h]
      rw [e] at hmid
      refine tail_any hF hB (ops.size - m) m (f + 1) L a σ.w (by omega) (Nat.le_refl _) hs ?_ hL (hQ a σ hmid)
      refine Nat.le_trans ?_ hf
      unfold left
      have : (List.range ops.size).countP (fun i => !L.getD i true) = (List.range ops.size).countP (fun i => decide (m ≤ i)) := List.countP_congr fun i hi => by rw [hL i (List.mem_range.1 hi)]; simp
      rw [this]
      have hcnt : ∀ n, (List.range n).countP (fun i => decide (m ≤ i)) = n - m := fun n => by
        induction n with
        | zero => simp
        | succ n ihn =>
          rw [List.range_succ, List.countP_append, ihn]
          by_cases h : m ≤ n <;> simp [h] <;> omega
      rw [hcnt]
      exact Nat.le_refl _
    · have hsome : ∃ j, j < m ∧ L.getD j true = false := by
        refine Classical.byContradiction fun hn => hdone fun j hj => ?_
        cases h : L.getD j true with
        | true => rfl
        | false => exact absurd ⟨j, hj, h⟩ hn
      have up : ∀ k, L.getD k false = true → L.getD k true = true := fun k h => by
        by_cases hk : k < L.size
        · simp [hk] at h ⊢; exact h
        · simp [hk] at h
      refine ⟨fun hr => ?_, fun i hi => ?_⟩
      · exfalso
        have key : ∀ j, j < m → L.getD j true = true := by
          intro j
          induction j using Nat.strongRecOn with
          | _ j ihj =>
          intro hj
          cases hL : L.getD j true with
          | true => rfl
          | false =>
            exfalso
            obtain ⟨o, ho⟩ : ∃ o, ops[j]? = some o := ⟨ops[j]'(by omega), by simp⟩
            have : j ∈ Region.ready .any ops L := mem_ready.2 ⟨hL, o, ho, fun e he hb => by
              have hlt := hF.back j o ho e he hb
              have := ihj e.on hlt (Nat.lt_trans hlt hj)
              have hsz : e.on < L.size := by rw [hs]; omega
              simp [hsz] at this ⊢; exact this⟩
            rw [hr] at this; cases this
        exact hdone key
      · obtain ⟨h0, o, ho, hall⟩ := mem_ready.1 hi
        have hi' : i < ops.size := (Array.getElem?_eq_some_iff.1 ho).1
        have him : i < m := by
          rcases Nat.lt_or_ge i m with h | h
          · exact h
          · exfalso
            obtain ⟨j, hj, hjL⟩ := hsome
            have := forced_spec (L := fun j => decide (j < ops.size) && L.getD j true) hB (fun j oj hj hLj e he hb => by
              simp only [Bool.and_eq_true, decide_eq_true_eq] at hLj ⊢
              exact ⟨by have := hF.back j oj hj e he hb; omega, hcl j oj hj hLj.2 e he hb⟩) ho h (fun e he hb => by
              simp only [Bool.and_eq_true, decide_eq_true_eq]
              exact ⟨by have := hF.back i o ho e he hb; omega, up _ (hall e he hb)⟩) j (by omega)
            simp only [Bool.and_eq_true] at this
            rw [hjL] at this; cases this.2
        refine hstep i o _ a σ _ ho him hmid (by simp [h0]) (fun e he hb => ?_) (fun j oj hj hLj e he hb => ?_) fun a' σ' hm' => ih _ a' σ' (by simpa using hs) (by have := left_set hs hi' h0; omega) (fun j hj hmj => ?_) ?_ ?_
        · have := hF.back i o ho e he hb
          simp only [up _ (hall e he hb), Bool.and_true, decide_eq_true_eq]; omega
        · simp only [Bool.and_eq_true, decide_eq_true_eq] at hLj ⊢
          exact ⟨by have := hF.back j oj hj e he hb; omega, hcl j oj hj hLj.2 e he hb⟩
        · rw [getD_set_ne true (by omega)]; exact hLm j hj hmj
        · intro j oj hj hLj e he hb
          by_cases hji : j = i
          · subst hji
            rw [ho] at hj; cases hj
            have hne := hF.back j o ho e he hb
            rw [getD_set_ne true (by omega)]
            exact up _ (hall e he hb)
          · rw [getD_set_ne true (Ne.symm hji)] at hLj
            have := hcl j oj hj hLj e he hb
            by_cases hei : e.on = i
            · rw [hei, h0] at this; cases this
            · rw [getD_set_ne true (Ne.symm hei)]; exact this
        · have : (fun j => (decide (j < m) && L.getD j true) || j == i) = (fun j => decide (j < m) && (L.setIfInBounds i true).getD j true) := by
            funext j
            by_cases hji : j = i
            · subst hji; simp [him, hs, hi']
            · rw [getD_set_ne true (Ne.symm hji)]; simp [hji]
          rwa [this] at hm'

theorem half_seq3 {m N : Nat} {ops : Array Oper} {Q : Exit → Act → World → Prop} (hF : Form N ops) (hm : m ≤ ops.size) (M : (Nat → Bool) → Act → GW → Prop)
    (hstep : ∀ (i : Nat) o (L : Nat → Bool) a σ (K : Act → World → Prop), ops[i]? = some o → i < m → M L a σ → L i = false → (∀ e ∈ o.after, Region.binds .any e = true → L e.on = true) →
      (∀ (j : Nat) oj, ops[j]? = some oj → L j = true → ∀ e ∈ oj.after, Region.binds .any e = true → L e.on = true) → (∀ a' σ', M (fun j => L j || j == i) a' σ' → K a' σ'.w) → wpOp P ops Q i K a σ.w)
    (hQ : ∀ a σ, M (fun j => decide (j < m)) a σ → wpOps P ops Q (List.range' m (ops.size - m)) a σ.w) : ∀ (n k : Nat) (a : Act) (σ : GW), k + n = m → M (fun j => decide (j < k)) a σ → wpOps P ops Q (List.range' k (n + (ops.size - m))) a σ.w
  | 0, k, a, σ, hk, hmid => by
    obtain rfl : k = m := by omega
    rw [Nat.zero_add]
    exact hQ a σ hmid
  | n + 1, k, a, σ, hk, hmid => by
    rw [show n + 1 + (ops.size - m) = (n + (ops.size - m)) + 1 by omega, List.range'_succ, wpOps_cons]
    obtain ⟨o, ho⟩ : ∃ o, ops[k]? = some o := ⟨ops[k]'(by omega), by simp⟩
    refine hstep k o _ a σ _ ho (by omega) hmid (by simp) (fun e he hbi => by simpa using hF.back k o ho e he hbi)
      (fun j oj hj hlt e he hbi => by have := hF.back j oj hj e he hbi; simp at hlt ⊢; omega) fun a' σ' hm' => half_seq3 hF hm M hstep hQ n (k + 1) a' σ' (by omega) ?_
    have : (fun j => decide (j < k) || j == k) = (fun j => decide (j < k + 1)) := by
      funext j; rw [Bool.eq_iff_iff]; simp; omega
    rwa [this] at hm'

def Ty.any : Ty := ⟨fun _ _ => True, fun _ h => h⟩

structure Mid3 (p d N : Nat) (D : List Deferred) (W : List Nat) (B : Pr) (ops : Array Oper) (Φ : Nat → Ty) (a0 : Act) (σ0 : GW) (L : Nat → Bool) (a : Act) (σ : GW) : Prop where
  stp : StpL W σ0 σ
  stp0 : L p = false → Stp 0 σ0 σ
  ok : Ok N D a
  done : ∀ j, L j = true → j ≠ p → rd ops (fun i => (Φ i).pr) j a σ
  donep : L p = true → B.has σ (a.eval (.tmp d))
  same : ∀ t, (∀ j, dstOf ops j = some t → L j = false) → a.eval (.tmp t) = a0.eval (.tmp t)

def Obl3 (P : Program) (N : Nat) (D : List Deferred) (W : List Nat) (ops : Array Oper) (Φ : Nat → Ty) (a0 : Act) (σ0 : GW) (i : Nat) (o : Oper) : Prop :=
  ∀ a σ, StpL W σ0 σ → Ok N D a → (∀ t, free ops i t = true → a.eval (.tmp t) = a0.eval (.tmp t)) → Deps ops (fun i => (Φ i).pr) a σ o.after.toList (Run P ops o a σ (Φ i).pr)
def OblW (P : Program) (N : Nat) (D : List Deferred) (W : List Nat) (B : Pr) (ops : Array Oper) (Φ : Nat → Ty) (a0 : Act) (σ0 : GW) (i : Nat) (o : Oper) : Prop :=
  ∀ a σ, Stp 0 σ0 σ → Ok N D a → (∀ t, free ops i t = true → a.eval (.tmp t) = a0.eval (.tmp t)) → Deps ops (fun i => (Φ i).pr) a σ o.after.toList (YldL W P o a σ (fun v τ => B.has τ v))
def Obls3 (P : Program) (p N : Nat) (D : List Deferred) (W : List Nat) (B : Pr) (ops : Array Oper) (Φ : Nat → Ty) (a0 : Act) (σ0 : GW) : Nat → List Oper → Prop
  | _, [] => True
  | i, o :: l => (if i = p then OblW P N D W B ops Φ a0 σ0 i o else Obl3 P N D W ops Φ a0 σ0 i o) ∧ Obls3 P p N D W B ops Φ a0 σ0 (i + 1) l
theorem Obls3.get {p N : Nat} {D : List Deferred} {W : List Nat} {B : Pr} {ops : Array Oper} {Φ : Nat → Ty} {a0 : Act} {σ0 : GW} : ∀ (l : List Oper) (k : Nat), Obls3 P p N D W B ops Φ a0 σ0 k l → ∀ j o, l[j]? = some o → (if k + j = p then OblW P N D W B ops Φ a0 σ0 (k + j) o else Obl3 P N D W ops Φ a0 σ0 (k + j) o)
  | [], _, _, j, o, h => by simp at h
  | x :: l, k, h, 0, o, hj => by simp at hj; subst hj; exact h.1
  | x :: l, k, h, j + 1, o, hj => by
    have := Obls3.get l (k + 1) h.2 j o (by simpa using hj)
    rwa [show k + 1 + j = k + (j + 1) by omega] at this
theorem Obls3.up {p N : Nat} {D : List Deferred} {W : List Nat} {B : Pr} {ops : Array Oper} {Φ : Nat → Ty} {a0 : Act} {σ0 σ1 : GW} (hs : Stp 0 σ0 σ1) : ∀ (l : List Oper) (k : Nat), Obls3 P p N D W B ops Φ a0 σ0 k l → Obls3 P p N D W B ops Φ a0 σ1 k l
  | [], _, _ => trivial
  | x :: l, k, h => by
    refine ⟨?_, Obls3.up hs l (k + 1) h.2⟩
    have h1 := h.1
    split at h1
    · rename_i e; rw [if_pos e]; exact fun a σ hs' => h1 a σ (hs.trans hs')
    · rename_i e; rw [if_neg e]; exact fun a σ hs' => h1 a σ (hs.toL0.trans hs')

theorem Mid3.op {p d N : Nat} {D : List Deferred} {W : List Nat} {B : Pr} {ops : Array Oper} {Φ : Nat → Ty} {a0 : Act} {σ0 : GW} {L : Nat → Bool} {a : Act} {σ : GW} {i : Nat} {o : Oper} {Q : Exit → Act → World → Prop} {K : Act → World → Prop}
    (hF : Form N ops) (h1 : 1 ∉ W) (hp : dstOf ops p = some d) (hΦ : ∀ e v, (Φ p).has e v) (hpg : ∀ o, ops[p]? = some o → o.guard = none) (hm : Mid3 p d N D W B ops Φ a0 σ0 L a σ) (ho : ops[i]? = some o) (hL : L i = false)
    (hob : if i = p then OblW P N D W B ops Φ a0 σ0 i o else Obl3 P N D W ops Φ a0 σ0 i o)
    (hall : ∀ e ∈ o.after, Region.binds .any e = true → L e.on = true) (hclosed : ∀ (j : Nat) oj, ops[j]? = some oj → L j = true → ∀ e ∈ oj.after, Region.binds .any e = true → L e.on = true)
    (hK : ∀ a' σ', Mid3 p d N D W B ops Φ a0 σ0 (fun j => L j || j == i) a' σ' → K a' σ'.w) : wpOp P ops Q i K a σ.w := by
  have hdi : dstOf ops i = o.dst := by simp [dstOf, ho]
  have hsame : ∀ t, free ops i t = true → a.eval (.tmp t) = a0.eval (.tmp t) := by
    intro t ht
    refine hm.same t fun j hj => ?_
    cases hLj : L j with
    | false => rfl
    | true =>
      exfalso
      unfold dstOf at hj
      obtain ⟨oj, hoj, hd⟩ := Option.bind_eq_some_iff.1 hj
      unfold free at ht
      have := (List.all_eq_true.1 ht) oj (List.mem_of_getElem? hoj)
      simp only [hd, bne_self_eq_false, Bool.false_or, List.any_eq_true, Bool.and_eq_true, beq_iff_eq] at this
      obtain ⟨e, he, hb, hon⟩ := this
      have := hclosed j oj (by simpa using hoj) hLj e (by simpa using he) hb
      rw [hon, hL] at this
      cases this
  have hdeps : ∀ e ∈ o.after.toList, Region.binds .any e = true → rd ops (fun i => (Φ i).pr) e.on a σ := fun e he hb => by
    by_cases hep : e.on = p
    · rw [hep]; unfold rd; rw [hp]; exact hΦ _ _
    · exact hm.done e.on (hall e (by simpa using he) hb) hep
  -- whatever step of whichever kind: what holds behind it
  have done' : ∀ v (τ : GW), σ.Le τ → (i ≠ p → (Φ i).has τ v) → ∀ j, (L j || j == i) = true → j ≠ p → rd ops (fun i => (Φ i).pr) j (a.put o.dst v) τ := by
    intro v τ hle hv j hLj hjp
    by_cases hji : j = i
    · subst hji
      unfold rd
      cases hd : dstOf ops j with
      | none => trivial
      | some d =>
        have : o.dst = some d := by rw [← hdi]; exact hd
        simp only [this]
        rw [eval_put_same hm.ok (hF.lt j d hd)]
        exact hv hjp
    · have hLj' : L j = true := by simpa [hji] using hLj
      have h0 := hm.done j hLj' hjp
      unfold rd at h0 ⊢
      cases hd : dstOf ops j with
      | none => trivial
      | some d =>
        rw [hd] at h0
        simp only at h0 ⊢
        rw [eval_put_ne (fun he => hji (hF.uniq j i d hd (by rw [hdi]; exact he)))]
        exact (Φ j).up hle h0
  have same' : ∀ v t, (∀ j, dstOf ops j = some t → (L j || j == i) = false) → (a.put o.dst v).eval (.tmp t) = a0.eval (.tmp t) := by
    intro v t ht
    have h1 : o.dst ≠ some t := fun he => by
      have := ht i (by rw [hdi]; exact he)
      simp at this
    rw [eval_put_ne h1]
    exact hm.same t fun j hj => by
      have := ht j hj
      simp at this
      exact this.1
  by_cases hip : i = p
  · subst hip
    rw [if_pos rfl] at hob
    have hy := Deps.elim o.after.toList hdeps (hob a σ (hm.stp0 hL) hm.ok hsame)
    unfold wpOp
    simp only [ho]
    have hw : Region.wanted o (yielded ops a.tmps) = true := by simp [Region.wanted, hpg o ho]
    rw [if_pos hw]
    refine .inl (hy K Q fun v τ hs hr => hK _ τ ⟨hm.stp.trans hs, fun h => (by simp at h), hm.ok.put _ _, done' v τ (hs.le h1) (fun h => absurd rfl h), fun _ => ?_, same' v⟩)
    have : o.dst = some d := by rw [← hdi]; exact hp
    rw [this, eval_put_same hm.ok (hF.lt i d hp)]
    exact hr
  · rw [if_neg hip] at hob
    have hrun := Deps.elim o.after.toList hdeps (hob a σ hm.stp hm.ok hsame)
    have next : ∀ v τ, Stp 0 σ τ → (Φ i).has τ v → K (a.put o.dst v) τ.w := by
      intro v τ hs hv
      refine hK _ τ ⟨hm.stp.trans hs.toL0, fun h => ?_, hm.ok.put _ _, done' v τ hs.le0 (fun _ => hv), fun h => ?_, same' v⟩
      · simp at h; exact (hm.stp0 h.1).trans hs
      · have hLp : L p = true := by simpa [Ne.symm hip] using h
        rw [eval_put_ne (fun he => hip (hF.uniq i p d (by rw [hdi]; exact he) hp))]
        exact B.up hs (hm.donep hLp)
    unfold wpOp
    simp only [ho]
    by_cases hw : Region.wanted o (yielded ops a.tmps) = true
    · rw [if_pos hw]
      exact .inl (hrun.1 hw K Q next)
    · rw [if_neg hw]
      exact next undef σ (Stp.refl _ _) (hrun.2 (by simpa using hw))

theorem obR3 {i p : Nat} {A B : Prop} (h : i ≠ p) (k : B) : if i = p then A else B := by rw [if_neg h]; exact k
theorem obR3w {i p : Nat} {A B : Prop} (h : i = p) (k : A) : if i = p then A else B := by rw [if_pos h]; exact k

structure Half3 (m d N : Nat) (D : List Deferred) (W : List Nat) (B : Pr) (ops : Array Oper) (Φ : Nat → Ty) (a0 : Act) (σ0 : GW) (a : Act) (σ : GW) : Prop where
  stp : StpL W σ0 σ
  ok : Ok N D a
  done : ∀ j, j < m → rd ops (fun i => (Φ i).pr) j a σ
  donep : B.has σ (a.eval (.tmp d))
  same : ∀ t, ((ops.toList.take m).all fun o => o.dst != some t) = true → a.eval (.tmp t) = a0.eval (.tmp t)

theorem Mid3.half {m p d N : Nat} {D : List Deferred} {W : List Nat} {B : Pr} {ops : Array Oper} {Φ : Nat → Ty} {a0 : Act} {σ0 : GW} {a : Act} {σ : GW} (h : Mid3 p d N D W B ops Φ a0 σ0 (fun j => decide (j < m)) a σ) (hpm : p < m) (hp : dstOf ops p = some d) (hΦ : ∀ e v, (Φ p).has e v) : Half3 m d N D W B ops Φ a0 σ0 a σ := by
  refine ⟨h.stp, h.ok, fun j hj => ?_, h.donep (by simpa using hpm), fun t ht => h.same t fun j hj => ?_⟩
  · by_cases hjp : j = p
    · rw [hjp]; unfold rd; rw [hp]; exact hΦ _ _
    · exact h.done j (by simpa using hj) hjp
  · by_cases hjm : j < m
    · obtain ⟨o, ho, hd⟩ := Option.bind_eq_some_iff.1 hj
      have := (List.all_eq_true.1 ht) o (List.mem_of_getElem? (i := j) (by rw [List.getElem?_take, if_pos hjm]; exact ho))
      simp [hd] at this
    · simpa using hjm

theorem reg3 {N : Nat} {D : List Deferred} {ops : Array Oper} {id : Nat} {draw : Bool} {Q : Exit → Act → World → Prop} {a : Act} {σ : GW} (hP : P.follows .mixedOrders = true) (m p d : Nat) (W : List Nat) (h1 : 1 ∉ W) (B : Pr) (Φ : Nat → Ty) (ok : Ok N D a) (hF : formB N ops = true) (hm : m ≤ ops.size) (hB : (!draw || forcedB m ops.toList) = true)
    (hpm : p < m) (hp : dstOf ops p = some d) (hΦ : ∀ e v, (Φ p).has e v) (hpg : (ops.toList[p]?).all (fun o => o.guard.isNone) = true) (hob : Obls3 P p N D W B ops Φ a σ 0 (ops.toList.take m))
    (hQ : ∀ a' σ', Half3 m d N D W B ops Φ a σ a' σ' → wpList P ops Q (ops.toList.drop m) a' σ'.w) : (Code.region id ops draw).wp P Q a σ.w := by
  have hF' := Form.of_B hF
  have hpg' : ∀ o, ops[p]? = some o → o.guard = none := fun o ho => by
    rw [show ops.toList[p]? = some o by simpa using ho] at hpg
    simpa using hpg
  have step : ∀ σ0, Stp 0 σ σ0 → ∀ (i : Nat) o (L : Nat → Bool) a' σ' (K : Act → World → Prop), ops[i]? = some o → i < m → Mid3 p d N D W B ops Φ a σ0 L a' σ' → L i = false → (∀ e ∈ o.after, Region.binds .any e = true → L e.on = true) →
      (∀ (j : Nat) oj, ops[j]? = some oj → L j = true → ∀ e ∈ oj.after, Region.binds .any e = true → L e.on = true) → (∀ a' σ', Mid3 p d N D W B ops Φ a σ0 (fun j => L j || j == i) a' σ' → K a' σ'.w) → wpOp P ops Q i K a' σ'.w :=
    fun σ0 hs i o L a' σ' K ho him hmid hL hall hcl hK => Mid3.op hF' h1 hp hΦ hpg' hmid ho hL
      (by simpa using Obls3.get (ops.toList.take m) 0 (Obls3.up hs _ _ hob) i o (by rw [List.getElem?_take, if_pos him]; simpa using ho)) hall hcl hK
  have start : ∀ σ0, Mid3 p d N D W B ops Φ a σ0 (fun _ => false) a σ0 := fun σ0 => ⟨StpL.refl _ _, fun _ => Stp.refl _ _, ok, fun _ h => (by cases h), fun h => (by cases h), fun _ _ => rfl⟩
  cases draw with
  | false =>
    refine wp_region ?_
    rw [List.range_eq_range']
    have := half_seq3 (Q := Q) hF' hm (Mid3 p d N D W B ops Φ a σ) (step σ (Stp.refl _ _)) (fun a' σ' h => ?_) m 0 a σ (by simp) (by have := start σ; simpa using this)
    · rwa [show m + (ops.size - m) = ops.size by omega] at this
    · have := wpOps_eq_wpList (P := P) (ops := ops) (Q := Q) (ops.toList.drop m) m (fun j => by rw [List.getElem?_drop]; simp)
      rw [show (ops.toList.drop m).length = ops.size - m by simp] at this
      rw [this]
      exact hQ a' σ' (h.half hpm hp hΦ)
  | true =>
    refine wp_region_any hP ?_
    have hd := Stp.drew σ
    refine half_any3 hF' hm (by simpa using hB) (Mid3 p d N D W B ops Φ a σ.drew) (step σ.drew hd) (fun a' σ' h => ?_) _ _ a σ.drew (by simp) (Nat.le_trans List.countP_le_length (by simp)) ?_ ?_ ?_
    · have h2 := h.half hpm hp hΦ
      exact hQ a' σ' ⟨hd.toL0.trans h2.stp, h2.ok, h2.done, h2.donep, h2.same⟩
    · intro j hj _; simp [hj]
    · intro j oj hj h
      have : j < ops.size := (Array.getElem?_eq_some_iff.1 hj).1
      simp [this] at h
    · have e : (fun j => decide (j < m) && (Array.replicate ops.size false).getD j true) = fun _ => false := by
        funext j; by_cases hj : j < ops.size
        · simp [hj]
        · simp; omega
      rw [e]; exact start σ.drew
theorem Half3.kt {m d N : Nat} {D : List Deferred} {W : List Nat} {B : Pr} {ops : Array Oper} {Φ : Nat → Ty} {a0 a : Act} {σ0 σ : GW} {T : Ty} {t : Nat} (h : Half3 m d N D W B ops Φ a0 σ0 a σ) (h1 : 1 ∉ W) (k : T.has σ0 (a0.eval (.tmp t))) (ht : ((ops.toList.take m).all fun o => o.dst != some t) = true) : T.has σ (a.eval (.tmp t)) := by
  rw [h.same t ht]; exact T.up (h.stp.le h1) k
end Go.KL

/- A region in whatever order, of which one operation stores into what another one has made. -/
namespace Go.KL
open Go.RowKit
variable {P : Program}

/-! ### The operation that writes is a store into what an operation of the region has made -/
structure Mid4 (p q d N : Nat) (D : List Deferred) (W : List Nat) (A B : Pr) (ops : Array Oper) (Φ : Nat → Ty) (a0 : Act) (σ0 : GW) (L : Nat → Bool) (a : Act) (σ : GW) : Prop where
  stp : StpL W σ0 σ
  stp0 : L p = false → Stp 0 σ0 σ
  ok : Ok N D a
  done : ∀ j, L j = true → rd ops (fun i => (Φ i).pr) j a σ
  doneq : L q = true → L p = false → A.has σ (a.eval (.tmp d))
  donep : L p = true → B.has σ (a.eval (.tmp d))
  same : ∀ t, (∀ j, dstOf ops j = some t → L j = false) → a.eval (.tmp t) = a0.eval (.tmp t)

def OblQ (P : Program) (N : Nat) (D : List Deferred) (A : Pr) (ops : Array Oper) (Φ : Nat → Ty) (a0 : Act) (σ0 : GW) (i : Nat) (o : Oper) : Prop :=
  ∀ a σ, Stp 0 σ0 σ → Ok N D a → (∀ t, free ops i t = true → a.eval (.tmp t) = a0.eval (.tmp t)) → Deps ops (fun i => (Φ i).pr) a σ o.after.toList (Run P ops o a σ A)
def OblS (P : Program) (N d : Nat) (D : List Deferred) (W : List Nat) (A B : Pr) (ops : Array Oper) (Φ : Nat → Ty) (a0 : Act) (σ0 : GW) (i : Nat) (o : Oper) : Prop :=
  ∀ a σ, Stp 0 σ0 σ → Ok N D a → (∀ t, free ops i t = true → a.eval (.tmp t) = a0.eval (.tmp t)) → A.has σ (a.eval (.tmp d)) → Deps ops (fun i => (Φ i).pr) a σ o.after.toList (YldL W P o a σ (fun _ τ => B.has τ (a.eval (.tmp d))))
def Obls4 (P : Program) (p q d N : Nat) (D : List Deferred) (W : List Nat) (A B : Pr) (ops : Array Oper) (Φ : Nat → Ty) (a0 : Act) (σ0 : GW) : Nat → List Oper → Prop
  | _, [] => True
  | i, o :: l => (if i = p then OblS P N d D W A B ops Φ a0 σ0 i o else if i = q then OblQ P N D A ops Φ a0 σ0 i o else Obl3 P N D W ops Φ a0 σ0 i o) ∧ Obls4 P p q d N D W A B ops Φ a0 σ0 (i + 1) l
theorem Obls4.get {p q d N : Nat} {D : List Deferred} {W : List Nat} {A B : Pr} {ops : Array Oper} {Φ : Nat → Ty} {a0 : Act} {σ0 : GW} : ∀ (l : List Oper) (k : Nat), Obls4 P p q d N D W A B ops Φ a0 σ0 k l → ∀ j o, l[j]? = some o →
    (if k + j = p then OblS P N d D W A B ops Φ a0 σ0 (k + j) o else if k + j = q then OblQ P N D A ops Φ a0 σ0 (k + j) o else Obl3 P N D W ops Φ a0 σ0 (k + j) o)
  | [], _, _, j, o, h => by simp at h
  | x :: l, k, h, 0, o, hj => by simp at hj; subst hj; exact h.1
  | x :: l, k, h, j + 1, o, hj => by
    have := Obls4.get l (k + 1) h.2 j o (by simpa using hj)
    rwa [show k + 1 + j = k + (j + 1) by omega] at this
theorem Obls4.up {p q d N : Nat} {D : List Deferred} {W : List Nat} {A B : Pr} {ops : Array Oper} {Φ : Nat → Ty} {a0 : Act} {σ0 σ1 : GW} (hs : Stp 0 σ0 σ1) : ∀ (l : List Oper) (k : Nat), Obls4 P p q d N D W A B ops Φ a0 σ0 k l → Obls4 P p q d N D W A B ops Φ a0 σ1 k l
  | [], _, _ => trivial
  | x :: l, k, h => by
    refine ⟨?_, Obls4.up hs l (k + 1) h.2⟩
    have h1 := h.1
    split at h1
    · rename_i e; rw [if_pos e]; exact fun a σ hs' => h1 a σ (hs.trans hs')
    · rename_i e
      rw [if_neg e]
      split at h1
      · rename_i e; rw [if_pos e]; exact fun a σ hs' => h1 a σ (hs.trans hs')
      · rename_i e; rw [if_neg e]; exact fun a σ hs' => h1 a σ (hs.toL0.trans hs')

theorem Mid4.op {p q d N : Nat} {D : List Deferred} {W : List Nat} {A B : Pr} {ops : Array Oper} {Φ : Nat → Ty} {a0 : Act} {σ0 : GW} {L : Nat → Bool} {a : Act} {σ : GW} {i : Nat} {o : Oper} {Q : Exit → Act → World → Prop} {K : Act → World → Prop}
    (hF : Form N ops) (h1 : 1 ∉ W) (hp : dstOf ops p = none) (hq : dstOf ops q = some d) (hpq : p ≠ q) (hΦ : ∀ e v, (Φ q).has e v) (hpg : ∀ o, ops[p]? = some o → o.guard = none ∧ ∃ e ∈ o.after, Region.binds .any e = true ∧ e.on = q) (hm : Mid4 p q d N D W A B ops Φ a0 σ0 L a σ) (ho : ops[i]? = some o) (hL : L i = false)
    (hpo : ∃ o, ops[p]? = some o)
    (hob : if i = p then OblS P N d D W A B ops Φ a0 σ0 i o else if i = q then OblQ P N D A ops Φ a0 σ0 i o else Obl3 P N D W ops Φ a0 σ0 i o)
    (hall : ∀ e ∈ o.after, Region.binds .any e = true → L e.on = true) (hclosed : ∀ (j : Nat) oj, ops[j]? = some oj → L j = true → ∀ e ∈ oj.after, Region.binds .any e = true → L e.on = true)
    (hK : ∀ a' σ', Mid4 p q d N D W A B ops Φ a0 σ0 (fun j => L j || j == i) a' σ' → K a' σ'.w) : wpOp P ops Q i K a σ.w := by
  have hdi : dstOf ops i = o.dst := by simp [dstOf, ho]
  have hsame : ∀ t, free ops i t = true → a.eval (.tmp t) = a0.eval (.tmp t) := by
    intro t ht
    refine hm.same t fun j hj => ?_
    cases hLj : L j with
    | false => rfl
    | true =>
      exfalso
      unfold dstOf at hj
      obtain ⟨oj, hoj, hd⟩ := Option.bind_eq_some_iff.1 hj
      unfold free at ht
      have := (List.all_eq_true.1 ht) oj (List.mem_of_getElem? hoj)
      simp only [hd, bne_self_eq_false, Bool.false_or, List.any_eq_true, Bool.and_eq_true, beq_iff_eq] at this
      obtain ⟨e, he, hb, hon⟩ := this
      have := hclosed j oj (by simpa using hoj) hLj e (by simpa using he) hb
      rw [hon, hL] at this
      cases this
  have hLpq : L p = true → L q = true := fun h => by
    obtain ⟨op, hop⟩ := hpo
    obtain ⟨_, e, he, hb, hon⟩ := hpg op hop
    rw [← hon]; exact hclosed p op hop h e he hb
  have hdeps : ∀ e ∈ o.after.toList, Region.binds .any e = true → rd ops (fun i => (Φ i).pr) e.on a σ := fun e he hb => hm.done e.on (hall e (by simpa using he) hb)
  have done' : ∀ v (τ : GW), σ.Le τ → ((Φ i).has τ v ∨ dstOf ops i = none) → ∀ j, (L j || j == i) = true → rd ops (fun i => (Φ i).pr) j (a.put o.dst v) τ := by
    intro v τ hle hv j hLj
    by_cases hji : j = i
    · subst hji
      unfold rd
      cases hd : dstOf ops j with
      | none => trivial
      | some d =>
        have : o.dst = some d := by rw [← hdi]; exact hd
        simp only [this]
        rw [eval_put_same hm.ok (hF.lt j d hd)]
        exact hv.resolve_right (by rw [hd]; simp)
    · have hLj' : L j = true := by simpa [hji] using hLj
      have h0 := hm.done j hLj'
      unfold rd at h0 ⊢
      cases hd : dstOf ops j with
      | none => trivial
      | some d =>
        rw [hd] at h0
        simp only at h0 ⊢
        rw [eval_put_ne (fun he => hji (hF.uniq j i d hd (by rw [hdi]; exact he)))]
        exact (Φ j).up hle h0
  have same' : ∀ v t, (∀ j, dstOf ops j = some t → (L j || j == i) = false) → (a.put o.dst v).eval (.tmp t) = a0.eval (.tmp t) := by
    intro v t ht
    have h1 : o.dst ≠ some t := fun he => by
      have := ht i (by rw [hdi]; exact he)
      simp at this
    rw [eval_put_ne h1]
    exact hm.same t fun j hj => by
      have := ht j hj
      simp at this
      exact this.1
  by_cases hip : i = p
  · subst hip
    rw [if_pos rfl] at hob
    obtain ⟨hg, e, he, hb, hon⟩ := hpg o ho
    have hLq : L q = true := by rw [← hon]; exact hall e he hb
    have hy := Deps.elim o.after.toList hdeps (hob a σ (hm.stp0 hL) hm.ok hsame (hm.doneq hLq hL))
    have hdn : o.dst = none := by rw [← hdi]; exact hp
    unfold wpOp
    simp only [ho]
    have hw : Region.wanted o (yielded ops a.tmps) = true := by simp [Region.wanted, hg]
    rw [if_pos hw]
    refine .inl (hy K Q fun v τ hs hr => hK _ τ ⟨hm.stp.trans hs, fun h => (by simp at h), hm.ok.put _ _, done' v τ (hs.le h1) (.inr hp), fun _ h => (by simp at h), fun _ => ?_, same' v⟩)
    rw [hdn]
    exact hr
  · rw [if_neg hip] at hob
    by_cases hiq : i = q
    · subst hiq
      rw [if_pos rfl] at hob
      have hLp : L p = false := by
        cases h : L p with
        | false => rfl
        | true => rw [hLpq h] at hL; cases hL
      have hrun := Deps.elim o.after.toList hdeps (hob a σ (hm.stp0 hLp) hm.ok hsame)
      have next : ∀ v τ, Stp 0 σ τ → A.has τ v → K (a.put o.dst v) τ.w := by
        intro v τ hs hv
        refine hK _ τ ⟨hm.stp.trans hs.toL0, fun _ => (hm.stp0 hLp).trans hs, hm.ok.put _ _, done' v τ hs.le0 (.inl (hΦ _ _)), fun _ _ => ?_, fun h => ?_, same' v⟩
        · have : o.dst = some d := by rw [← hdi]; exact hq
          rw [this, eval_put_same hm.ok (hF.lt i d hq)]
          exact hv
        · rw [hLp] at h
          simp at h; exact absurd h hpq
      unfold wpOp
      simp only [ho]
      by_cases hw : Region.wanted o (yielded ops a.tmps) = true
      · rw [if_pos hw]
        exact .inl (hrun.1 hw K Q next)
      · rw [if_neg hw]
        exact next undef σ (Stp.refl _ _) (hrun.2 (by simpa using hw))
    · rw [if_neg hiq] at hob
      have hrun := Deps.elim o.after.toList hdeps (hob a σ hm.stp hm.ok hsame)
      have hne : o.dst ≠ some d := fun he => hiq (hF.uniq i q d (by rw [hdi]; exact he) hq)
      have next : ∀ v τ, Stp 0 σ τ → (Φ i).has τ v → K (a.put o.dst v) τ.w := by
        intro v τ hs hv
        refine hK _ τ ⟨hm.stp.trans hs.toL0, fun h => ?_, hm.ok.put _ _, done' v τ hs.le0 (.inl hv), fun h h2 => ?_, fun h => ?_, same' v⟩
        · simp at h; exact (hm.stp0 h.1).trans hs
        · have hLq : L q = true := by simpa [Ne.symm hiq] using h
          have hLp : L p = false := by simp at h2; exact h2.1
          rw [eval_put_ne hne]
          exact A.up hs (hm.doneq hLq hLp)
        · have hLp : L p = true := by simpa [Ne.symm hip] using h
          rw [eval_put_ne hne]
          exact B.up hs (hm.donep hLp)
      unfold wpOp
      simp only [ho]
      by_cases hw : Region.wanted o (yielded ops a.tmps) = true
      · rw [if_pos hw]
        exact .inl (hrun.1 hw K Q next)
      · rw [if_neg hw]
        exact next undef σ (Stp.refl _ _) (hrun.2 (by simpa using hw))
end Go.KL

/- Touches that are read. -/
namespace Go.KL
abbrev sgOf (cs : List BCall) : List Int := cs.map (·.1)
structure NumP where
  err : Int
  n : Int
  some : Bool
  rest : List Int
def numR : Int → Bool → List Int → NumP
  | n, b, [] => ⟨0, n, b, []⟩
  | n, b, c :: r => if 48 ≤ c ∧ c ≤ 57 then (if n * 10 + c - 48 = 0 ∨ 99 < n * 10 + c - 48 then ⟨12, 0, true, r⟩ else numR (n * 10 + c - 48) true r) else ⟨0, n, b, c :: r⟩
structure ItP where
  err : Int
  out : List Int
  rest : List Int
def repL (n : Nat) (one : List Int) : List Int := (List.replicate n one).flatten
def rpM (n : Int) (one r : List Int) : ItP := if 400 < n * one.length then ⟨3, [], []⟩ else ⟨0, repL n.toNat one, r⟩
def oneM (sg : List Int) (F : Nat → List Int → List Int → ItP) (deep : Nat) (r : List Int) : ItP :=
  if r.getD 0 0 = 40 then
    (if deep = 6 then ⟨13, [], []⟩ else if (F (deep + 1) [] (r.drop 1)).err ≠ 0 then ⟨(F (deep + 1) [] (r.drop 1)).err, [], []⟩
    else if (F (deep + 1) [] (r.drop 1)).rest = [] then ⟨5, [], []⟩ else if (F (deep + 1) [] (r.drop 1)).out = [] then ⟨4, [], []⟩
    else ⟨0, (F (deep + 1) [] (r.drop 1)).out, (F (deep + 1) [] (r.drop 1)).rest.drop 1⟩)
  else if r.getD 0 0 ∉ sg ∨ r.getD 0 0 < 0 then ⟨4, [], []⟩ else ⟨0, [indexL sg (r.getD 0 0)], r.drop 1⟩
def timesM (x : NumP) : Int := if x.some = true then x.n else 1
def itemM (sg : List Int) (F : Nat → List Int → List Int → ItP) (deep : Nat) (rest : List Int) : ItP :=
  if (numR 0 false rest).err ≠ 0 then ⟨12, [], []⟩ else if (numR 0 false rest).rest = [] then ⟨5, [], []⟩
  else if (oneM sg F deep (numR 0 false rest).rest).err ≠ 0 then ⟨(oneM sg F deep (numR 0 false rest).rest).err, [], []⟩
  else rpM (timesM (numR 0 false rest)) (oneM sg F deep (numR 0 false rest).rest).out (oneM sg F deep (numR 0 false rest).rest).rest
def itemsM (sg : List Int) : Nat → Nat → List Int → List Int → ItP
  | 0, _, out, rest => ⟨0, out, rest⟩
  | f + 1, deep, out, rest =>
    if rest = [] ∨ rest.getD 0 0 = 41 then ⟨0, out, rest⟩
    else if (itemM sg (itemsM sg f) deep rest).err ≠ 0 then ⟨(itemM sg (itemsM sg f) deep rest).err, [], []⟩
    else if 400 < (out ++ (itemM sg (itemsM sg f) deep rest).out).length then ⟨3, [], []⟩
    else itemsM sg f deep (out ++ (itemM sg (itemsM sg f) deep rest).out) (itemM sg (itemsM sg f) deep rest).rest
section
variable {sg : List Int}
/-! What is left is a tail. -/
theorem numR_tail : ∀ (r : List Int) (n : Int) (b : Bool), (numR n b r).err = 0 → ∃ k, k ≤ r.length ∧ (numR n b r).rest = r.drop k
  | [], n, b, _ => ⟨0, Nat.le_refl _, rfl⟩
  | c :: r, n, b, h => by
    rw [numR] at h ⊢
    split
    · split
      · rename_i h1 h2; rw [if_pos h1, if_pos h2] at h; cases h
      · rename_i h1 h2
        rw [if_pos h1, if_neg h2] at h
        obtain ⟨k, h3, h4⟩ := numR_tail r _ _ h
        exact ⟨k + 1, by rw [List.length_cons]; omega, by rw [h4, List.drop_succ_cons]⟩
    · exact ⟨0, Nat.zero_le _, rfl⟩
def Tail (a r : List Int) : Prop := ∃ k, k ≤ r.length ∧ a = r.drop k
theorem Tail.refl (r : List Int) : Tail r r := ⟨0, Nat.zero_le _, rfl⟩
theorem Tail.trans {a b c : List Int} (h : Tail a b) (k : Tail b c) : Tail a c := by
  obtain ⟨i, h1, rfl⟩ := h
  obtain ⟨j, h2, rfl⟩ := k
  rw [List.length_drop] at h1
  exact ⟨j + i, by omega, by rw [List.drop_drop]⟩
theorem Tail.drop1 {a r : List Int} (h : Tail a r) (hne : a ≠ []) : Tail (a.drop 1) r ∧ (a.drop 1).length < r.length := by
  obtain ⟨i, h1, rfl⟩ := h
  have hl : (r.drop i).length ≠ 0 := fun e => hne (List.eq_nil_of_length_eq_zero e)
  rw [List.length_drop] at hl
  rw [List.drop_drop]
  exact ⟨⟨i + 1, by omega, rfl⟩, by rw [List.length_drop]; omega⟩
theorem Tail.eq {a r : List Int} (h : Tail a r) : a = r.drop (r.length - a.length) := by
  obtain ⟨i, h1, rfl⟩ := h
  rw [List.length_drop]
  congr 1; omega
theorem rpM_rest {n : Int} {one r : List Int} (h : (rpM n one r).err = 0) : (rpM n one r).rest = r ∧ (rpM n one r).out = repL n.toNat one ∧ ¬ 400 < n * one.length := by
  unfold rpM at h ⊢
  split at h
  · cases h
  · rename_i h2; rw [if_neg h2]; exact ⟨rfl, rfl, h2⟩
theorem oneM_tail {F : Nat → List Int → List Int → ItP} (hF : ∀ d o r, (F d o r).err = 0 → Tail (F d o r).rest r) {deep : Nat} {r : List Int} (hne : r ≠ []) (h : (oneM sg F deep r).err = 0) : Tail (oneM sg F deep r).rest r ∧ (oneM sg F deep r).rest.length < r.length := by
  obtain ⟨t1, t2⟩ := Tail.drop1 (Tail.refl r) hne
  unfold oneM at h ⊢
  split at h
  · rename_i h3
    rw [if_pos h3]
    split at h
    · cases h
    rename_i h4
    rw [if_neg h4]
    split at h
    · rename_i h5; exact absurd h h5
    rename_i h5
    rw [if_neg h5]
    have h5 := Classical.not_not.1 h5
    split at h
    · cases h
    rename_i h6
    rw [if_neg h6]
    split at h
    · cases h
    rename_i h7
    rw [if_neg h7]
    obtain ⟨t3, t4⟩ := Tail.drop1 (hF _ _ _ h5) h6
    exact ⟨t3.trans t1, by show ((F (deep + 1) [] (r.drop 1)).rest.drop 1).length < _; omega⟩
  · rename_i h3
    rw [if_neg h3]
    split at h
    · cases h
    rename_i h4
    rw [if_neg h4]
    exact ⟨t1, t2⟩
theorem itemM_tail {F : Nat → List Int → List Int → ItP} (hF : ∀ d o r, (F d o r).err = 0 → Tail (F d o r).rest r) {deep : Nat} {rest : List Int} (h : (itemM sg F deep rest).err = 0) : Tail (itemM sg F deep rest).rest rest ∧ (itemM sg F deep rest).rest.length < rest.length := by
  unfold itemM at h ⊢
  split at h
  · cases h
  rename_i h1
  rw [if_neg h1]
  have h1 := Classical.not_not.1 h1
  have ht : Tail (numR 0 false rest).rest rest := numR_tail rest 0 false h1
  split at h
  · cases h
  rename_i h2
  rw [if_neg h2]
  split at h
  · rename_i h3; exact absurd h h3
  rename_i h3
  rw [if_neg h3]
  have h3 := Classical.not_not.1 h3
  rw [(rpM_rest h).1]
  obtain ⟨t1, t2⟩ := oneM_tail hF h2 h3
  refine ⟨t1.trans ht, ?_⟩
  obtain ⟨k, hk, e⟩ := ht
  rw [e] at t2
  rw [List.length_drop] at t2
  rw [e]; omega
theorem itemsM_tail : ∀ (f deep : Nat) (out rest : List Int), (itemsM sg f deep out rest).err = 0 → Tail (itemsM sg f deep out rest).rest rest
  | 0, _, _, rest, _ => Tail.refl _
  | f + 1, deep, out, rest, h => by
    rw [itemsM] at h ⊢
    split at h
    · rename_i h1; rw [if_pos h1]; exact Tail.refl _
    rename_i h1
    rw [if_neg h1]
    split at h
    · rename_i h2; exact absurd h h2
    rename_i h2
    rw [if_neg h2]
    have h2 := Classical.not_not.1 h2
    split at h
    · cases h
    rename_i h3
    rw [if_neg h3]
    exact (itemsM_tail f deep _ _ h).trans (itemM_tail (fun d o r => itemsM_tail f d o r) h2).1
theorem itemM_tl {f deep : Nat} {rest : List Int} (h : (itemM sg (itemsM sg f) deep rest).err = 0) : Tail (itemM sg (itemsM sg f) deep rest).rest rest ∧ (itemM sg (itemsM sg f) deep rest).rest.length < rest.length := itemM_tail (fun d o r => itemsM_tail f d o r) h
/-! Fuel. -/
theorem oneM_congr {F G : Nat → List Int → List Int → ItP} {deep : Nat} {r : List Int} (h : F (deep + 1) [] (r.drop 1) = G (deep + 1) [] (r.drop 1)) : oneM sg F deep r = oneM sg G deep r := by unfold oneM; rw [h]
theorem itemM_congr {F G : Nat → List Int → List Int → ItP} {deep : Nat} {rest : List Int} (h : ∀ r, r.length < rest.length → F (deep + 1) [] r = G (deep + 1) [] r) : itemM sg F deep rest = itemM sg G deep rest := by
  by_cases h1 : (numR 0 false rest).err = 0
  · by_cases h2 : (numR 0 false rest).rest = []
    · unfold itemM; rw [if_neg (by rw [h1]; simp), if_pos h2, if_neg (by rw [h1]; simp), if_pos h2]
    · have ht : Tail (numR 0 false rest).rest rest := numR_tail rest 0 false h1
      have := (Tail.drop1 ht h2).2
      unfold itemM
      rw [oneM_congr (h _ this)]
  · unfold itemM; rw [if_pos h1, if_pos h1]
theorem itemsM_fuel : ∀ (f g deep : Nat) (out rest : List Int), rest.length < f → rest.length < g → itemsM sg f deep out rest = itemsM sg g deep out rest
  | 0, _, _, _, _, h, _ => absurd h (by omega)
  | _, 0, _, _, _, _, h => absurd h (by omega)
  | f + 1, g + 1, deep, out, rest, h1, h2 => by
    have e : itemM sg (itemsM sg f) deep rest = itemM sg (itemsM sg g) deep rest := itemM_congr fun r hr => itemsM_fuel f g (deep + 1) [] r (by omega) (by omega)
    rw [itemsM, itemsM, e]
    split
    · rfl
    split
    · rfl
    rename_i h3
    split
    · rfl
    have := (itemM_tl (f := g) (Classical.not_not.1 h3)).2
    exact itemsM_fuel f g deep _ _ (by omega) (by omega)
def parM (sg : List Int) (deep : Nat) (out rest : List Int) : ItP := itemsM sg (rest.length + 1) deep out rest
def itM (sg : List Int) (deep : Nat) (rest : List Int) : ItP := itemM sg (parM sg) deep rest
theorem itM_fuel (f deep : Nat) (rest : List Int) (h : rest.length ≤ f) : itemM sg (itemsM sg f) deep rest = itM sg deep rest := itemM_congr fun r hr => itemsM_fuel _ _ _ _ _ (by omega) (by omega)
theorem par_stop {deep : Nat} {out rest : List Int} (h : rest = [] ∨ rest.getD 0 0 = 41) : parM sg deep out rest = ⟨0, out, rest⟩ := by unfold parM; rw [itemsM, if_pos h]
theorem itM_tl {deep : Nat} {rest : List Int} (h : (itM sg deep rest).err = 0) : Tail (itM sg deep rest).rest rest ∧ (itM sg deep rest).rest.length < rest.length := itemM_tail (fun _ _ r h => itemsM_tail _ _ _ r h) h
theorem par_go {deep : Nat} {out rest : List Int} (h : ¬ (rest = [] ∨ rest.getD 0 0 = 41)) (h2 : (itM sg deep rest).err = 0) (h3 : ¬ 400 < (out ++ (itM sg deep rest).out).length) : parM sg deep (out ++ (itM sg deep rest).out) (itM sg deep rest).rest = parM sg deep out rest := by
  have ht := (itM_tl h2).2
  have e : parM sg deep out rest = itemsM sg rest.length deep (out ++ (itM sg deep rest).out) (itM sg deep rest).rest := by
    conv => lhs; unfold parM
    rw [itemsM, if_neg h, itM_fuel _ _ _ (Nat.le_refl _), if_neg (by rw [h2]; simp), if_neg h3]
  rw [e]
  exact itemsM_fuel _ _ _ _ _ (by omega) (by omega)
/-! What is told of errors. -/
/-! Step by step. -/
theorem it_rp {deep : Nat} {r s : List Int} {v : Int} {b : Bool} (h : numR 0 false r = ⟨0, v, b, s⟩) (hs : s ≠ []) (h2 : (oneM sg (parM sg) deep s).err = 0) : itM sg deep r = rpM (if b = true then v else 1) (oneM sg (parM sg) deep s).out (oneM sg (parM sg) deep s).rest := by
  unfold itM itemM; rw [h, if_neg (by simp), if_neg hs, if_neg (by rw [h2]; simp)]; rfl
theorem rp_ok {n : Int} {one r : List Int} (h : ¬ 400 < n * one.length) : rpM n one r = ⟨0, repL n.toNat one, r⟩ := by unfold rpM; rw [if_neg h]
theorem repL_succ (k : Nat) (one : List Int) : repL (k + 1) one = repL k one ++ one := by unfold repL; rw [List.replicate_succ', List.flatten_append]; simp
theorem one_sign {F : Nat → List Int → List Int → ItP} {deep : Nat} {s : List Int} (h : ¬ s.getD 0 0 = 40) (h2 : ¬ (s.getD 0 0 ∉ sg ∨ s.getD 0 0 < 0)) : oneM sg F deep s = ⟨0, [indexL sg (s.getD 0 0)], s.drop 1⟩ := by unfold oneM; rw [if_neg h, if_neg h2]
theorem sign_at {cs : List BCall} {c : Int} {k : Nat} (hk : k < cs.length) (hno : ∀ j, j < k → (cs.getD j D0).1 ≠ c) (h : (cs.getD k D0).1 = c) : c ∈ cs.map (·.1) ∧ indexL (cs.map (·.1)) c = k := by
  have e := idxC_yes hk h hno
  exact ⟨indexL_iff.1 (by rw [e]; omega), e⟩
theorem x_go {deep : Nat} {out r o s : List Int} {X : ItP} (hx : parM sg deep out r = X) (hne : ¬ (r = [] ∨ r.getD 0 0 = 41)) (h : itM sg deep r = ⟨0, o, s⟩) (h2 : ¬ 400 < (out ++ o).length) : parM sg deep (out ++ o) s = X := by
  have := par_go (sg := sg) (deep := deep) (out := out) hne (by rw [h]) (by rw [h]; exact h2)
  rw [h] at this
  rw [← hx, ← this]
end
/-! Runes of a text, as a loop over it gives them. -/
abbrev Ty.rune (n : Int) : Ty := .val (.int .i32 n)
theorem Tail.len {a r : List Int} (h : Tail a r) : a.length ≤ r.length := by
  obtain ⟨k, h1, rfl⟩ := h; rw [List.length_drop]; omega
section
variable {sg : List Int} {deep : Nat} {l s : List Int}
end
def ptM (sg : List Int) (s : ByteArray) : ItP :=
  if 4000 < s.size then ⟨3, [], []⟩ else if (parM sg 0 [] (runsL s)).err ≠ 0 then ⟨(parM sg 0 [] (runsL s)).err, [], []⟩
  else if (parM sg 0 [] (runsL s)).rest ≠ [] then ⟨4, [], []⟩ else if (parM sg 0 [] (runsL s)).out = [] then ⟨5, [], []⟩ else ⟨0, (parM sg 0 [] (runsL s)).out, []⟩
section
variable {sg : List Int} {s : ByteArray} {X : ItP}
theorem pt_ok (h : ¬ 4000 < s.size) (hX : X = parM sg 0 [] (runsL s)) (h1 : X.err = 0) (h2 : X.rest = []) (h3 : X.out ≠ []) : ptM sg s = ⟨0, X.out, []⟩ := by unfold ptM; rw [if_neg h, ← hX, if_neg (by rw [h1]; simp), if_neg (by rw [h2]; simp), if_neg h3]
end
end Go.KL

/- Arrays as values: built of two parts, and what stands at a place. -/
namespace Go.KL
open Go.RowKit
variable {P : Program} {d : Option Tmp} {ty : TypeId} {pos : String} {af : Array Edge} {g : Option (Nat × Bool)} {a : Act} {σ : GW}
theorem y_arr2 {t e : TypeId} {z ze : Value} {c by_ be : Nat} {x y : Operand} {T U : Ty} (ht : P.underlying t = some (.array 2 e)) (he : Info P e ze 1 be) (hi : Info P t z c by_) (hz : z.cells.size = 2) (oT : One T) (oU : One U) (hx : At T σ a x) (hy : At U σ a y) :
    Yld P ⟨d, .build t #[(0, x), (1, y)], ty, pos, af, g⟩ a σ (Ty.agg [T, U]).pr := by
  have h1 := cells_of_one (oT _ _ hx)
  have h2 := cells_of_one (oU _ _ hy)
  obtain ⟨cs, hcs⟩ : ∃ cs, z.cells = cs := ⟨_, rfl⟩
  rw [hcs] at hz
  refine Yld.of_run (v := .agg ((cs.setIfInBounds 0 (a.eval x)).setIfInBounds 1 (a.eval y))) ?_ ⟨_, rfl, by simp [hz], fun j V u hV hu => ?_⟩
  · simp only [execOp, List.map_toArray, List.map_cons, List.map_nil]
    generalize a.eval x = v at h1 ⊢
    generalize a.eval y = v' at h2 ⊢
    have hne : cs ≠ #[] := by intro e'; subst e'; simp at hz
    simp [Instr.build, run_underlying ht, he.size, hi.zero, Instr.fill, h1, h2, hcs, hz, Sem.run_bind, hne]
  · match j, hV with
    | 0, hV =>
      simp at hV; subst hV
      have : u = a.eval x := by
        rw [Array.getElem?_setIfInBounds_ne (by decide), Array.getElem?_setIfInBounds_self_of_lt (by omega)] at hu
        exact (Option.some.inj hu).symm
      rw [this]; exact hx
    | 1, hV =>
      simp at hV; subst hV
      have : u = a.eval y := by
        rw [Array.getElem?_setIfInBounds_self_of_lt (by simp [hz])] at hu
        exact (Option.some.inj hu).symm
      rw [this]; exact hy
    | j + 2, hV => simp at hV
theorem y_arri {α : Type} {f : α → Ty} {xs : List α} (dd : α) {t e : TypeId} {td : TypeDesc} {n : Nat} {ze : Value} {be i : Nat} {k : IntKind} {x y : Operand} (ht : P.underlying t = some (.array n e)) (hte : P.underlying e = some td) (hd : td.isRow = false) (he : Info P e ze 1 be)
    (hx : At (Ty.agg (xs.map f)) σ a x) (hy : a.eval y = .int k i) (hi : i < xs.length) (hn : xs.length = n) :
    Yld P ⟨d, .index t x y, ty, pos, af, g⟩ a σ (f (xs.getD i dd)).pr := by
  obtain ⟨cs, e1, hl, hc⟩ := hx
  rw [List.length_map] at hl
  have hlt : i < cs.size := by omega
  refine Yld.of_run (v := cs[i]) ?_ (hc i _ _ (by simp [hi]) (by simp [hlt]))
  have hagg : (isAgg e).run P σ.w = .ok false σ.w := by
    unfold isAgg
    rw [Sem.run_bind, run_underlying hte σ.w]
    cases td <;> simp_all
  simp only [execOp, e1, hy]
  have h0 : (0 : Int) ≤ (i : Int) ∧ (i : Int) < (n : Int) := by omega
  simp [Instr.index, Sem.run_bind, asIntOf, run_underlying ht, h0, he.size, part, hagg, hlt, show i < n by omega]
/-! ### Bells that are told -/
end Go.KL

/- How many rows are like a pattern: as many as there are ways to place the other bells. -/
namespace Go.KL
/-! ### A pattern as one list -/
end Go.KL

/- Of all rows so many are like a pattern as there are ways to place the other bells. -/
namespace Go.KL
section
variable {P : Program} {d : Option Tmp} {ty : TypeId} {pos : String} {af : Array Edge} {g : Option (Nat × Bool)} {a : Act} {σ : GW}
end
theorem asc_runs {l : List UInt8} (h : ∀ b ∈ l, b.toNat < 128) : runsL (bsL l) = l.map fun b => ((b.toNat : Nat) : Int) := by
  have key : ∀ (f p : Nat), l.length ≤ f + p → runsF (bsL l) f p = (l.drop p).map fun b => ((b.toNat : Nat) : Int) := by
    intro f
    induction f with
    | zero => intro p hp; rw [List.drop_eq_nil_of_le (by omega)]; rfl
    | succ f ih =>
      intro p hp
      by_cases hpl : p < l.length
      · have hg := bsL_get hpl
        have hb := h l[p] (List.getElem_mem hpl)
        have hr := run1_lo (s := bsL l) (p := p) (by rw [hg]; exact hb)
        have hm : runM (bsL l) p = ((l[p].toNat : Nat) : Int) := by
          unfold runM
          rw [if_neg (by rw [hr.1, hg]; omega), hr.1, hg]
        rw [runsF_cons (by rw [bsL_size]; exact hpl) (by rw [bsL_size]; omega), hm, hr.2, Nat.add_sub_cancel, ih (p + 1) (by omega), List.drop_eq_getElem_cons hpl, List.map_cons]
      · rw [runsF_end (by rw [bsL_size]; omega), List.drop_eq_nil_of_le (by omega)]; rfl
  have := key (bsL l).size 0 (by rw [bsL_size]; omega)
  unfold runsL
  rw [this, List.drop_zero]
section
variable (raw r : List Int) (star : Nat)
end
section
variable {raw r : List Int} {star : Nat}
end
end Go.KL

/- Bytes of a text, appended; touches, printed. -/
namespace Go.KL
open Go.RowKit Go.Lib
variable {P : Program} {d : Option Tmp} {ty : TypeId} {pos : String} {af : Array Edge} {g : Option (Nat × Bool)} {a : Act} {σ : GW}
/-! Numbers, printed. -/
def decL (n : Nat) : List UInt8 := if n < 10 then [(48 + n).toUInt8] else [(48 + n / 10).toUInt8, (48 + n % 10).toUInt8]
def decB (n : Nat) : ByteArray := bsL (decL n)
/-! Touches, printed. -/
def pcB (cs : List BCall) (n : Nat) (x : Int) : ByteArray := (if 1 < n then decB n else ByteArray.empty) ++ Utf8.encode (cs.getD x.toNat D0).1
def prR (cs : List BCall) : Nat → List Int → ByteArray
  | _, [] => ByteArray.empty
  | n, x :: r => if (r ≠ [] ∧ r.getD 0 0 = x) ∧ n + 1 < 99 then prR cs (n + 1) r else pcB cs (n + 1) x ++ prR cs 0 r
section
variable {cs : List BCall} {s T : ByteArray} {l : List Int} {i n : Nat}
end
def ptE (cs : List BCall) (l : List Int) : Int := if l.length < 1 ∨ 400 < l.length then 1 else if ∀ k, k < l.length → 0 ≤ l.getD k 0 ∧ l.getD k 0 < (cs.length : Int) then 0 else 12
def ptT (cs : List BCall) (l : List Int) : ByteArray := if ptE cs l = 0 then prR cs 0 l else ByteArray.empty
theorem pt_good {cs : List BCall} {l : List Int} (h : ¬ (l.length < 1 ∨ 400 < l.length)) (hv : ∀ k, k < l.length → 0 ≤ l.getD k 0 ∧ l.getD k 0 < (cs.length : Int)) : ptE cs l = 0 ∧ ptT cs l = prR cs 0 l := by
  have : ptE cs l = 0 := by unfold ptE; rw [if_neg h, if_pos hv]
  exact ⟨this, by unfold ptT; rw [if_pos this]⟩
end Go.KL

/- Runes, written as bytes: bits of bytes, rows of three and four new bytes. -/
namespace Go.KL
open Go.RowKit Go.Lib
section
variable {P : Program} {d : Option Tmp} {ty : TypeId} {pos : String} {af : Array Edge} {g : Option (Nat × Bool)} {a : Act} {σ : GW}
end
def bt (e : Int) : UInt8 := e.toNat.toUInt8
theorem enc_1 {c : Int} (h0 : 0 ≤ c) (h1 : c ≤ 127) : (Utf8.encode c).data.toList = [bt c] := by
  have hv : Utf8.valid c = true := by simp [Utf8.valid]; omega
  unfold Utf8.encode
  simp only [hv, if_true]
  rw [if_pos (by omega)]
  rfl
end Go.KL

/- Touches there and back: what is printed of leads is read as these. -/
namespace Go.KL
open Go.RowKit Go.Lib
structure Sgn (cs : List BCall) : Prop where
  lo : ∀ k, k < cs.length → 58 ≤ (cs.getD k D0).1 ∧ (cs.getD k D0).1 < 128
  un : ∀ j k, j < k → k < cs.length → (cs.getD j D0).1 ≠ (cs.getD k D0).1
def sgn (cs : List BCall) (x : Int) : Int := (cs.getD x.toNat D0).1
def pcL (cs : List BCall) (n : Nat) (x : Int) : List UInt8 := (if 1 < n then decL n else []) ++ [bt (sgn cs x)]
def prL (cs : List BCall) : Nat → List Int → List UInt8
  | _, [] => []
  | n, x :: r => if (r ≠ [] ∧ r.getD 0 0 = x) ∧ n + 1 < 99 then prL cs (n + 1) r else pcL cs (n + 1) x ++ prL cs 0 r
def rn (l : List UInt8) : List Int := l.map fun b => ((b.toNat : Nat) : Int)
theorem rn_app (a b : List UInt8) : rn (a ++ b) = rn a ++ rn b := List.map_append
theorem bsL_app (a b : List UInt8) : bsL (a ++ b) = bsL a ++ bsL b := by apply ByteArray.ext; simp [bsL]
theorem bt_toNat {c : Int} (h0 : 0 ≤ c) (h : c < 256) : (((bt c).toNat : Nat) : Int) = c := by
  unfold bt
  have : c.toNat.toUInt8.toNat = c.toNat := by simp; omega
  rw [this, Int.toNat_of_nonneg h0]
section
variable {cs : List BCall}
theorem prR_L (hs : Sgn cs) : ∀ (n : Nat) (l : List Int), (∀ k, k < l.length → 0 ≤ l.getD k 0 ∧ l.getD k 0 < (cs.length : Int)) → prR cs n l = bsL (prL cs n l)
  | _, [], _ => rfl
  | n, x :: r, h => by
    have hr : ∀ k, k < r.length → 0 ≤ r.getD k 0 ∧ r.getD k 0 < (cs.length : Int) := fun k hk => by
      have := h (k + 1) (by simp; omega)
      simpa using this
    have hx := h 0 (by simp)
    simp only [List.getD_cons_zero] at hx
    rw [prR, prL]
    split
    · exact prR_L hs (n + 1) r hr
    · have hl := hs.lo x.toNat (by omega)
      have e : Utf8.encode (cs.getD x.toNat D0).1 = bsL [bt (sgn cs x)] := by
        apply ByteArray.ext
        apply Array.ext'
        rw [enc_1 (by omega) (by omega)]
        rfl
      rw [prR_L hs 0 r hr, bsL_app]
      congr 1
      unfold pcB pcL
      rw [bsL_app, e]
      congr 1
      split
      · rfl
      · rfl
theorem decL_lo (n : Nat) (h : n < 100) : ∀ b ∈ decL n, b.toNat < 128 := by
  have : ∀ m : Fin 100, ∀ b ∈ decL m.val, b.toNat < 128 := by decide +kernel
  exact this ⟨n, h⟩
theorem pcL_lo (hs : Sgn cs) {n : Nat} {x : Int} (hn : n < 100) (hx : 0 ≤ x ∧ x < (cs.length : Int)) : ∀ b ∈ pcL cs n x, b.toNat < 128 := by
  intro b hb
  have hl := hs.lo x.toNat (by omega)
  unfold pcL at hb
  rcases List.mem_append.1 hb with h | h
  · split at h
    · exact decL_lo n hn b h
    · cases h
  · rw [List.mem_singleton.1 h]
    have := bt_toNat (c := sgn cs x) (by unfold sgn; omega) (by unfold sgn; omega)
    have h2 : sgn cs x < 128 := hl.2
    omega
theorem prL_lo (hs : Sgn cs) : ∀ (n : Nat) (l : List Int), n ≤ 98 → (∀ k, k < l.length → 0 ≤ l.getD k 0 ∧ l.getD k 0 < (cs.length : Int)) → ∀ b ∈ prL cs n l, b.toNat < 128
  | _, [], _, _ => fun b hb => by cases hb
  | n, x :: r, hn, h => by
    have hr : ∀ k, k < r.length → 0 ≤ r.getD k 0 ∧ r.getD k 0 < (cs.length : Int) := fun k hk => by
      have := h (k + 1) (by simp; omega)
      simpa using this
    have hx := h 0 (by simp)
    simp only [List.getD_cons_zero] at hx
    intro b hb
    rw [prL] at hb
    split at hb
    · exact prL_lo hs (n + 1) r (by omega) hr b hb
    · rcases List.mem_append.1 hb with h1 | h1
      · exact pcL_lo hs (by omega) hx b h1
      · exact prL_lo hs 0 r (by omega) hr b h1
theorem num_none {c : Int} {r : List Int} (h : ¬ (48 ≤ c ∧ c ≤ 57)) (n : Int) (b : Bool) : numR n b (c :: r) = ⟨0, n, b, c :: r⟩ := by rw [numR, if_neg h]
theorem num_dec {n : Nat} {c : Int} {r : List Int} (h1 : 1 ≤ n) (h : n < 100) (hc : ¬ (48 ≤ c ∧ c ≤ 57)) : numR 0 false (rn (decL n) ++ c :: r) = ⟨0, (n : Int), true, c :: r⟩ := by
  by_cases hn : n < 10
  · have e : rn (decL n) = [48 + (n : Int)] := by
      have : ∀ m : Fin 10, rn (decL m.val) = [48 + (m.val : Int)] := by decide +kernel
      exact this ⟨n, hn⟩
    rw [e, List.singleton_append, numR, if_pos (by omega), if_neg (by omega), num_none hc]
    congr 1; omega
  · have e : rn (decL n) = [48 + ((n / 10 : Nat) : Int), 48 + ((n % 10 : Nat) : Int)] := by
      have : ∀ m : Fin 100, ¬ m.val < 10 → rn (decL m.val) = [48 + ((m.val / 10 : Nat) : Int), 48 + ((m.val % 10 : Nat) : Int)] := by decide +kernel
      exact this ⟨n, h⟩ hn
    rw [e, List.cons_append, numR, if_pos (by omega), if_neg (by omega), List.singleton_append, numR, if_pos (by omega), if_neg (by omega), num_none hc]
    congr 1; omega
theorem sgn_at (hs : Sgn cs) {x : Int} (hx : 0 ≤ x ∧ x < (cs.length : Int)) : sgn cs x ∈ sgOf cs ∧ indexL (sgOf cs) (sgn cs x) = x := by
  have := sign_at (cs := cs) (c := sgn cs x) (k := x.toNat) (by omega) (fun j hj => hs.un j x.toNat hj (by omega)) rfl
  exact ⟨this.1, by rw [this.2]; omega⟩
theorem repL_single (n : Nat) (x : Int) : repL n [x] = List.replicate n x := by
  induction n with
  | zero => rfl
  | succ n ih => rw [repL_succ, ih, List.replicate_succ']
theorem it_piece (hs : Sgn cs) {deep n : Nat} {x : Int} {tl : List Int} (h1 : 1 ≤ n) (h : n < 100) (hx : 0 ≤ x ∧ x < (cs.length : Int)) :
    itM (sgOf cs) deep (rn (pcL cs n x) ++ tl) = ⟨0, List.replicate n x, tl⟩ := by
  have hl := hs.lo x.toNat (by omega)
  have hsg : 58 ≤ sgn cs x ∧ sgn cs x < 128 := hl
  have e : rn (pcL cs n x) ++ tl = rn (if 1 < n then decL n else []) ++ sgn cs x :: tl := by
    unfold pcL
    rw [rn_app, List.append_assoc]
    congr 1
    show (((bt (sgn cs x)).toNat : Nat) : Int) :: tl = _
    rw [bt_toNat (by omega) (by omega)]
  have hs1 := sgn_at hs hx
  have one : oneM (sgOf cs) (parM (sgOf cs)) deep (sgn cs x :: tl) = ⟨0, [x], tl⟩ := by
    have h40 : ¬ (sgn cs x :: tl).getD 0 0 = 40 := by show ¬ sgn cs x = 40; omega
    rw [one_sign h40 (by
      show ¬ (sgn cs x ∉ sgOf cs ∨ sgn cs x < 0)
      rintro (h_ | h_)
      · exact h_ hs1.1
      · omega)]
    show (⟨0, [indexL (sgOf cs) (sgn cs x)], tl⟩ : ItP) = _
    rw [hs1.2]
  rw [e]
  by_cases hn : 1 < n
  · rw [if_pos hn]
    have hnum := num_dec (n := n) (c := sgn cs x) (r := tl) h1 h (by omega)
    rw [it_rp hnum (by simp) (by rw [one]), one, if_pos rfl, rp_ok (by simp; omega), Int.toNat_natCast, repL_single]
  · rw [if_neg hn]
    have hn1 : n = 1 := by omega
    have hnum : numR 0 false (rn [] ++ sgn cs x :: tl) = ⟨0, 0, false, sgn cs x :: tl⟩ := num_none (by omega) 0 false
    rw [it_rp hnum (by simp) (by rw [one]), one, if_neg (by simp), rp_ok (by simp), hn1]
    rfl
theorem rn_piece_ne (hs : Sgn cs) {n : Nat} {x : Int} {tl : List Int} (h : n < 100) (hx : 0 ≤ x ∧ x < (cs.length : Int)) : ¬ (rn (pcL cs n x) ++ tl = [] ∨ (rn (pcL cs n x) ++ tl).getD 0 0 = 41) := by
  have hl := hs.lo x.toNat (by omega)
  have hsg : 58 ≤ sgn cs x ∧ sgn cs x < 128 := hl
  unfold pcL
  split
  · rename_i hn
    have hd : ∀ m : Fin 100, 1 < m.val → rn (decL m.val) ≠ [] ∧ (rn (decL m.val)).getD 0 0 ≠ 41 := by decide +kernel
    have h2 := hd ⟨n, h⟩ hn
    simp only at h2
    obtain ⟨c, r, e⟩ := List.exists_cons_of_ne_nil h2.1
    have h3 := h2.2
    rw [e] at h3
    rw [rn_app, e]
    rintro (h_ | h_)
    · simp at h_
    · exact h3 h_
  · rintro (h_ | h_)
    · simp [rn] at h_
    · have : (((bt (sgn cs x)).toNat : Nat) : Int) = 41 := h_
      rw [bt_toNat (by omega) (by omega)] at this
      omega
theorem par_print (hs : Sgn cs) {deep : Nat} {tl : List Int} : ∀ (l : List Int) (n : Nat) (out : List Int), n ≤ 98 → (0 < n → l ≠ []) → (∀ k, k < l.length → 0 ≤ l.getD k 0 ∧ l.getD k 0 < (cs.length : Int)) → out.length + n + l.length ≤ 400 →
    parM (sgOf cs) deep out (rn (prL cs n l) ++ tl) = parM (sgOf cs) deep (out ++ List.replicate n (l.getD 0 0) ++ l) tl
  | [], n, out, _, hn, _, _ => by
    have : n = 0 := by
      rcases Nat.eq_zero_or_pos n with h | h
      · exact h
      · exact absurd rfl (hn h)
    subst this
    simp [prL, rn]
  | x :: r, n, out, hn, _, h, hlen => by
    have hr : ∀ k, k < r.length → 0 ≤ r.getD k 0 ∧ r.getD k 0 < (cs.length : Int) := fun k hk => by
      have := h (k + 1) (by simp; omega)
      simpa using this
    have hx := h 0 (by simp)
    simp only [List.getD_cons_zero] at hx ⊢
    simp only [List.length_cons] at hlen
    rw [prL]
    split
    · rename_i hc
      rw [par_print hs r (n + 1) out (by omega) (fun _ => hc.1.1) hr (by omega), hc.1.2]
      congr 1
      rw [List.replicate_succ']
      simp
    · have hp := it_piece hs (deep := deep) (n := n + 1) (x := x) (tl := rn (prL cs 0 r) ++ tl) (by omega) (by omega) hx
      have hne := rn_piece_ne hs (n := n + 1) (x := x) (tl := rn (prL cs 0 r) ++ tl) (by omega) hx
      rw [rn_app, List.append_assoc]
      have hg := x_go (deep := deep) (out := out) rfl hne hp (by simp; omega)
      rw [← hg, par_print hs r 0 (out ++ List.replicate (n + 1) x) (by omega) (fun h => absurd h (by omega)) hr (by simp; omega)]
      congr 1
      rw [List.replicate_succ']
      simp
theorem prL_len (n : Nat) (l : List Int) : (prL cs n l).length ≤ 3 * l.length := by
  induction l generalizing n with
  | nil => simp [prL]
  | cons x r ih =>
    rw [prL]
    split
    · have := ih (n + 1); simp; omega
    · have h1 := ih 0
      have h2 : (pcL cs (n + 1) x).length ≤ 3 := by
        unfold pcL
        split
        · have : (decL (n + 1)).length ≤ 2 := by unfold decL; split <;> simp
          simp; omega
        · simp
      simp only [List.length_append, List.length_cons]; omega
theorem there {l : List Int} (hs : Sgn cs) (h1 : 1 ≤ l.length) (h2 : l.length ≤ 60) (hv : ∀ k, k < l.length → 0 ≤ l.getD k 0 ∧ l.getD k 0 < (cs.length : Int)) :
    (ptM (sgOf cs) (ptT cs l)).err = 0 ∧ (ptM (sgOf cs) (ptT cs l)).out = l := by
  have hg := pt_good (cs := cs) (l := l) (by omega) hv
  rw [hg.2, prR_L hs 0 l hv]
  have hL := asc_runs (prL_lo hs 0 l (by omega) hv)
  have hsz : ¬ 4000 < (bsL (prL cs 0 l)).size := by rw [bsL_size]; have := prL_len (cs := cs) 0 l; omega
  have hp : parM (sgOf cs) 0 [] (runsL (bsL (prL cs 0 l))) = ⟨0, l, []⟩ := by
    rw [hL]
    have := par_print hs (deep := 0) (tl := []) l 0 [] (by omega) (fun h => absurd h (by omega)) hv (by simp; omega)
    rw [List.append_nil] at this
    show parM _ _ _ (rn _) = _
    rw [this, par_stop (.inl rfl)]
    simp
  rw [pt_ok hsz hp.symm rfl rfl (by intro e; simp only at e; rw [e] at h1; simp at h1)]
  exact ⟨rfl, rfl⟩
end
end Go.KL

/- A text cut at each byte of a kind. -/
namespace Go.KL
open Go.Lib
end Go.KL
namespace Go.KL
section
variable {P : Program} {d : Option Tmp} {ty : TypeId} {pos : String} {af : Array Edge} {g : Option (Nat × Bool)} {a : Act} {σ : GW}
end
end Go.KL
namespace Go.KL
open Go.Lib
variable {ys T : List ByteArray} {l : List UInt8} {i m : Nat} {c : UInt8} {v : ByteArray}
end Go.KL
namespace Go.KL
variable {ys T : List ByteArray} {L : List UInt8} {i j : Nat} {s : ByteArray}
end Go.KL
namespace Go.KL
variable {ys T : List ByteArray} {L : List UInt8} {i j : Nat} {s : ByteArray}
end Go.KL

/- Contracts of the shelf, as contracts here. -/
namespace Go.KL
variable {P : Program}
def GW.grow (σ : GW) (w' : World) (h : σ.w.heap.size ≤ w'.heap.size) : GW := ⟨w', fun b => if b < σ.w.heap.size then σ.st b else 0, fun b hb => by
  by_cases hlt : b < σ.w.heap.size
  · omega
  · simp [hlt] at hb⟩
end Go.KL

/- How many rows a chain has. -/
namespace Go.KL
open Go.RowKit
section
variable {n k : Nat} {c : Nat → Lev} {gens : List (List Int)}
theorem noO_some {f : Int → Option (List Int)} : n - noO n f = (List.range n).countP fun (p : Nat) => (f (p : Int)).isSome := by
  unfold noO
  have h := List.length_eq_countP_add_countP (fun (p : Nat) => (f (p : Int)).isNone) (l := List.range n)
  rw [List.length_range] at h
  have e : (List.range n).countP (fun (p : Nat) => decide ¬((f (p : Int)).isNone = true)) = (List.range n).countP fun (p : Nat) => (f (p : Int)).isSome := by
    congr 1
    funext p
    cases f (p : Int) <;> simp
  rw [e] at h
  omega
open Classical in
theorem ChnOf.osz (h : ChnOf n gens c) (hG : ∀ x ∈ gens, RowN n x) (hk : k < n) : n - noO n (c k).orb = osz n (fun y => y ∈ gens) k := by
  rw [noO_some]
  unfold Go.KL.osz
  congr 1
  funext p
  rw [Bool.eq_iff_iff, decide_eq_true_eq]
  constructor
  · intro hp
    obtain ⟨t, ht⟩ := Option.isSome_iff_exists.1 hp
    obtain ⟨_, h2, h3⟩ := (h.wc.lev k hk).pt _ t ht
    exact ⟨t, (h.cl t).1 (h.good.orbs h.wc (by omega) hk ht), h2, h3⟩
  · rintro ⟨r, h1, h2, h3⟩
    have hr := h1.row h.wc.nn hG
    have hm := (h.has hr).2 h1
    have hm2 := (mem_dn h.wc hr k 0 (by omega) (by rw [Nat.zero_add]; exact h2)).1 hm
    rw [Nat.zero_add] at hm2
    obtain ⟨t, ho, _⟩ := (mem_iff hk).1 hm2
    rw [h3] at ho
    rw [ho]; rfl
theorem ChnOf.szS (h : ChnOf n gens c) (hG : ∀ x ∈ gens, RowN n x) (hk : k < n) : szTo n (fun y => y ∈ gens) k * (n - noO n (c k).orb) = szTo n (fun y => y ∈ gens) (k + 1) := by
  rw [szTo, h.osz hG hk]
end
section
variable {P : Program} {d : Option Tmp} {ty : TypeId} {pos : String} {af : Array Edge} {g : Option (Nat × Bool)} {a : Act} {σ : GW} {t kt et : TypeId} {x : Operand} {k n : Nat} {v : Value} {f : Int → Option (List Int)}
theorem ents_len {es : List MapEntry} {clock : Nat} (h : Ents Ty.ints kI σ es clock f) (hfin : ∀ p t, f p = some t → 0 ≤ p ∧ p < n) : es.length = n - noO n f := by
  rw [noO_some, List.countP_eq_length_filter]
  have hkey : ∀ e ∈ es, ∃ i : Int, e.key = kI i ∧ (f i).isSome = true ∧ 0 ≤ i ∧ i < n := fun e he => by
    obtain ⟨i, b, h1, h2, _⟩ := h.key e he
    have := hfin i b h2
    exact ⟨i, h1, by rw [h2]; rfl, this.1, this.2⟩
  have hval : ∀ i : Int, kI i = .int .i64 i := fun _ => rfl
  have hp : (es.map fun e => match e.key with | .int _ i => i | _ => (0 : Int)).Perm (((List.range n).filter fun (p : Nat) => (f (p : Int)).isSome).map fun (p : Nat) => (p : Int)) := by
    refine (List.perm_ext_iff_of_nodup ?_ ?_).2 fun x => ?_
    · refine List.pairwise_map.2 (h.uniq.imp_of_mem fun {a b} ha hb hne e => hne ?_)
      obtain ⟨i, hi, _⟩ := hkey a ha
      obtain ⟨j, hj, _⟩ := hkey b hb
      rw [hi, hj, hval, hval] at e ⊢
      simp only at e
      rw [e]
    · refine List.Pairwise.map (R := fun a b => a ≠ b) _ (fun a b h e => h (by omega)) ?_
      exact List.Pairwise.filter _ List.nodup_range
    · rw [List.mem_map, List.mem_map]
      constructor
      · rintro ⟨e, he, rfl⟩
        obtain ⟨i, hi, h2, h3, h4⟩ := hkey e he
        rw [hi, hval]
        have e1 : ((i.toNat : Nat) : Int) = i := by omega
        exact ⟨i.toNat, List.mem_filter.2 ⟨List.mem_range.2 (by omega), by rw [e1]; exact h2⟩, e1⟩
      · rintro ⟨p, hp, rfl⟩
        obtain ⟨b, hb⟩ := Option.isSome_iff_exists.1 (List.mem_filter.1 hp).2
        obtain ⟨e, he, hk⟩ := h.mem _ b hb
        exact ⟨e, he, by rw [hk, hval]⟩
  have := hp.length_eq
  rwa [List.length_map, List.length_map] at this
theorem y_mlen (ht : P.underlying t = some (.map kt et)) (h : OwnM Ty.ints kI σ k v f) (hx : a.eval x = v) (hfin : ∀ p t, f p = some t → 0 ≤ p ∧ p < n) : Yld P ⟨d, .call ⟨.builtin .len, #[x], #[t]⟩, ty, pos, af, g⟩ a σ (Ty.int ((n - noO n f : Nat) : Int)).pr := by
  obtain ⟨r, es, clock, rfl, r2, r3, r4⟩ := h
  have hl := ents_len r4 hfin
  refine Yld.of_run (v := .int .i64 ((n - noO n f : Nat) : Int)) (run_builtin1 hx (fun cs => ?_)) rfl
  have hl2 : es.size = n - noO n f := by rw [← hl]; simp
  simp [builtin, Builtin.len_, run_underlying ht, goInt, run_getObj r3, Sem.run_bind, hl2]
end
end Go.KL

/- A map of the function's own that is ranged over: which keys have come. -/
namespace Go.KL
open Go.ChangeMaps (setBlock)
variable {P : Program} {β : Type}
structure NxP (f : Int → Option β) (ks : List Int) (b : Bool) (ks' : List Int) : Prop where
  yes : b = true → ∃ p t, ks' = ks ++ [p] ∧ p ∉ ks ∧ f p = some t
  no : b = false → ks' = ks ∧ ∀ p, (f p).isSome = true → p ∈ ks
def RngM (F : β → Ty) (σ : GW) (k : Nat) (v m : Value) (f : Int → Option β) (ks : List Int) : Prop :=
  ∃ r bm es clock since seen c0, v = .pointer (some ⟨r, 0, none⟩) ∧ m = .map (some bm) ∧ σ.st r = k ∧ σ.st bm = k ∧ σ.w.heap[r]? = some (.mapIter (some bm) since seen c0) ∧ σ.w.heap[bm]? = some (.map es clock) ∧
    Ents F kI σ es.toList clock f ∧ (∀ x ∈ es.toList, x.born < since) ∧ since ≤ c0 ∧ since ≤ clock ∧ (∀ e ∈ es.toList, ∀ p, e.key = kI p → (seen.contains e.born = true ↔ p ∈ ks)) ∧
    (∀ p, ks.getLast? = some p → ∃ (s0 : Array Nat) (e : MapEntry), seen = s0.push e.born ∧ e ∈ es.toList ∧ e.key = kI p ∧ c0 = clock)
theorem RngM.keepL {F : β → Ty} {L : List Nat} {k : Nat} {σ τ : GW} {v m : Value} {f : Int → Option β} {ks : List Int} (h : RngM F σ k v m f ks) (hs : StpL L σ τ) (h1 : 1 ∉ L) (hk : k ∉ L) : RngM F τ k v m f ks := by
  obtain ⟨r, bm, es, clock, since, seen, c0, e1, e2, r1, r2, r3, r4, r5, r6⟩ := h
  have hl1 := (Array.getElem?_eq_some_iff.1 r3).1
  have hl2 := (Array.getElem?_eq_some_iff.1 r4).1
  have hq1 : σ.st r ∉ L := by rw [r1]; exact hk
  have hq2 : σ.st bm ∉ L := by rw [r2]; exact hk
  exact ⟨r, bm, es, clock, since, seen, c0, e1, e2, (hs.st r hl1 hq1).trans r1, (hs.st bm hl2 hq2).trans r2, (hs.blk r hl1 hq1).trans r3, (hs.blk bm hl2 hq2).trans r4, r5.up (hs.le h1), r6⟩
theorem RngM.k0 {F : β → Ty} {k : Nat} {σ τ : GW} {v m : Value} {f : Int → Option β} {ks : List Int} (h : RngM F σ k v m f ks) (hs : Stp 0 σ τ) : RngM F τ k v m f ks := h.keepL (L := []) hs.toL0 (by simp) (by simp)
def Pr.rngm (F : β → Ty) (k : Nat) (m : Value) (f : Int → Option β) (ks : List Int) : Pr := ⟨fun σ v => RngM F σ k v m f ks, fun hs h => h.keepL (L := []) hs.toL0 (by simp) (by simp)⟩
theorem RngM.map {F : β → Ty} {σ : GW} {k : Nat} {v m : Value} {f : Int → Option β} {ks : List Int} (h : RngM F σ k v m f ks) : OwnM F kI σ k m f := by
  obtain ⟨r, bm, es, clock, since, seen, c0, e1, e2, r1, r2, r3, r4, r5, r6⟩ := h
  exact ⟨bm, es, clock, e2, r2, r4, r5⟩
variable {d : Option Tmp} {ty : TypeId} {pos : String} {af : Array Edge} {g : Option (Nat × Bool)} {a : Act} {σ : GW} {F : β → Ty} {k : Nat} {v m : Value} {f : Int → Option β} {ks : List Int} {t kt et : TypeId} {x : Operand}
theorem y_rangem (ht : P.underlying t = some (.map kt et)) (h : OwnM F kI σ k m f) (hx : a.eval x = m) : Yld P ⟨d, .range t x, ty, pos, af, g⟩ a σ (Pr.rngm F k m f []) := by
  obtain ⟨bm, es, clock, rfl, r2, r3, r4⟩ := h
  intro K Q hk
  have hr : (execOp a.eval ⟨d, .range t x, ty, pos, af, g⟩).run P σ.w = .ok (.value (.pointer (some ⟨σ.w.heap.size, 0, none⟩))) (σ.w.alloc (.mapIter (some bm) clock #[] clock)) := by
    simp only [execOp, hx]
    simp [Instr.range, Sem.run_bind, run_underlying ht, run_getObj r3, newObj, Sem.run]
  unfold Oper.wp
  rw [hr]
  have hlt := (Array.getElem?_eq_some_iff.1 r3).1
  have hs : Stp 0 σ (σ.mk' k (.mapIter (some bm) clock #[] clock)) := Stp.mk' σ k _
  refine hk _ (σ.mk' k (.mapIter (some bm) clock #[] clock)) hs ⟨σ.w.heap.size, bm, es, clock, clock, #[], clock, rfl, rfl, by show (if _ = _ then k else _) = k; rw [if_pos rfl], ?_, heap_alloc_new σ.w _, ?_, r4.up hs.le0, fun e he => r4.lt e he, Nat.le_refl _, Nat.le_refl _, ?_, ?_⟩
  · exact (hs.st bm hlt (.inl rfl)).trans r2
  · exact (hs.blk bm hlt (.inl rfl)).trans r3
  · intro e _ p _; simp
  · intro p hp; simp at hp
def Ty.nxm (b : Bool) : Ty := ⟨fun _ v => (b = true → ∃ x y, v = .tuple #[.bool true, x, y]) ∧ (b = false → v = .tuple #[.bool false]), fun _ h => h⟩
theorem y_ext_m0 {b : Bool} (hx : At (.nxm b) σ a x) : Yld P ⟨d, .extract x 0, ty, pos, af, g⟩ a σ (Ty.bool b).pr := by
  obtain ⟨h1, h2⟩ := hx
  cases b with
  | true =>
    obtain ⟨u, w, e⟩ := h1 rfl
    exact Yld.of_run (v := .bool true) (by simp only [execOp, e]; simp [Instr.extract]) rfl
  | false => exact Yld.of_run (v := .bool false) (by simp only [execOp, h2 rfl]; simp [Instr.extract]) rfl
theorem pair_eq {α : Type} {R : α → α → Prop} : ∀ {l : List α}, l.Pairwise R → ∀ {x y : α}, x ∈ l → y ∈ l → ¬ R x y → ¬ R y x → x = y
  | [], _, _, _, hx, _, _, _ => by simp at hx
  | z :: l, h, x, y, hx, hy, h1, h2 => by
    rw [List.pairwise_cons] at h
    rcases List.mem_cons.1 hx with rfl | hx'
    · rcases List.mem_cons.1 hy with rfl | hy'
      · rfl
      · exact absurd (h.1 _ hy') h1
    · rcases List.mem_cons.1 hy with rfl | hy'
      · exact absurd (h.1 _ hx') h2
      · exact pair_eq h.2 hx' hy' h1 h2
theorem m_nextm (hk : 2 ≤ k) (h : RngM F σ k v m f ks) (hx : a.eval x = v) :
    YldM k P ⟨d, .next x false, ty, pos, af, g⟩ a σ (fun u τ => ∃ (b : Bool) (ks' : List Int), NxP f ks b ks' ∧ (Ty.nxm b).has τ u ∧ RngM F τ k v m f ks') := by
  obtain ⟨r, bm, es, clock, since, seen, c0, rfl, e2, r1, r2, r3, r4, r5, r6, r7, r7c, r8, r9⟩ := h
  have hg := (Array.getElem?_eq_some_iff.1 r3).1
  intro K Q hK
  have hrun := run_next_at (P := P) σ.w (ty := ty) r bm since c0 seen es clock r3 r4 r6 r7
  rcases hrun with ⟨h0, hrun⟩ | ⟨e, he, w1, hw1, hrun⟩
  · have hr : (execOp a.eval ⟨d, .next x false, ty, pos, af, g⟩).run P σ.w = .ok (.value (.tuple #[.bool false])) σ.w := by
      simp only [execOp, hx]
      simp [Sem.run_bind, hrun]
    unfold Oper.wp
    rw [hr]
    refine hK _ σ ⟨rfl, rfl, rfl, Dr.refl _, Nat.le_refl _, fun _ _ _ => rfl, fun _ _ _ => rfl⟩ ⟨false, ks, ⟨by simp, fun _ => ⟨rfl, fun p hp => ?_⟩⟩, ⟨by simp, fun _ => rfl⟩, r, bm, es, clock, since, seen, c0, rfl, e2, r1, r2, r3, r4, r5, r6, r7, r7c, r8, r9⟩
    obtain ⟨t, ht⟩ := Option.isSome_iff_exists.1 hp
    obtain ⟨e, he, hke⟩ := r5.mem p t ht
    refine (r8 e he p hke).1 ?_
    cases hc : seen.contains e.born with
    | true => rfl
    | false =>
      exfalso
      have : e ∈ (leftOf es seen) := by unfold leftOf; rw [Array.mem_filter]; exact ⟨by simpa using he, by rw [hc]; rfl⟩
      have hsz := Array.size_pos_of_mem this
      omega
  · obtain ⟨hm, hse⟩ := mem_left he
    obtain ⟨p, t, hp, hft, _⟩ := r5.key e hm
    have hlt := (Array.getElem?_eq_some_iff.1 r4).1
    have hne : r ≠ bm := by rintro rfl; rw [r3] at r4; simp at r4
    have hpk : p ∉ ks := fun h_ => by have h2_ := (r8 e hm p hp).2 h_; rw [hse] at h2_; exact Bool.noConfusion h2_
    have hr : (execOp a.eval ⟨d, .next x false, ty, pos, af, g⟩).run P σ.w = .ok (.value (.tuple #[.bool true, e.key, e.val])) (setBlock w1 r (.mapIter (some bm) since (seen.push e.born) clock)) := by
      simp only [execOp, hx]
      simp [Sem.run_bind, hrun]
    unfold Oper.wp
    rw [hr]
    have hw : w1.os = σ.w.os ∧ w1.tape = σ.w.tape ∧ w1.output = σ.w.output ∧ σ.w.drawn ≤ w1.drawn ∧ w1.heap = σ.w.heap := by rcases hw1 with rfl | rfl <;> exact ⟨rfl, rfl, rfl, by simp, rfl⟩
    obtain ⟨w2, w3, w4, w5, w6⟩ := hw
    let τ : GW := ⟨setBlock w1 r (.mapIter (some bm) since (seen.push e.born) clock), σ.st, fun b hb => by have := σ.lt b hb; show _ < (w1.heap.setIfInBounds _ _).size; rw [w6]; simpa using this⟩
    have hb : ∀ b, b ≠ r → τ.w.heap[b]? = σ.w.heap[b]? := fun b hb => by
      show (w1.heap.setIfInBounds _ _)[b]? = _
      rw [w6, Array.getElem?_setIfInBounds_ne (Ne.symm hb)]
    have hs : Stp k σ τ := ⟨w2, w3, w4, .inl w5, by show _ ≤ (w1.heap.setIfInBounds _ _).size; rw [w6]; simp, fun b _ hm => hb b (by rintro rfl; omega), fun _ _ _ => rfl⟩
    have huq : ∀ e1 ∈ es.toList, ∀ e2 ∈ es.toList, (e1.key = e2.key ∨ e1.born = e2.born) → e1 = e2 := fun e1 h1 e2 h2 h3 => by
      refine pair_eq (R := fun x y => x.key ≠ y.key ∧ x.born < y.born) (r5.uniq.and r5.born) h1 h2 (fun h_ => ?_) (fun h_ => ?_)
      · rcases h3 with h3 | h3
        · exact h_.1 h3
        · have := h_.2; omega
      · rcases h3 with h3 | h3
        · exact h_.1 h3.symm
        · have := h_.2; omega
    refine hK _ τ hs ⟨true, ks ++ [p], ⟨fun _ => ⟨p, t, rfl, hpk, hft⟩, by simp⟩, ⟨fun _ => ⟨_, _, rfl⟩, by simp⟩, r, bm, es, clock, since, seen.push e.born, clock, rfl, e2, r1, r2, ?_, (hb bm hne.symm).trans r4, r5.up (hs.le (by omega)), r6, r7c, r7c, ?_, ?_⟩
    · show (w1.heap.setIfInBounds _ _)[r]? = _
      rw [w6]; simp [hg]
    · intro e' he' p' hp'
      rw [Array.contains_push, Bool.or_eq_true, List.mem_append, r8 e' he' p' hp', List.mem_singleton]
      refine or_congr Iff.rfl ?_
      rw [beq_iff_eq]
      constructor
      · intro h_
        have := huq e' he' e hm (.inr h_)
        subst this
        rw [hp] at hp'
        injection hp' with _ h5
        exact h5.symm
      · rintro rfl
        rw [huq e' he' e hm (.inl (hp'.trans hp.symm))]
    · intro p' hp'
      rw [List.getLast?_append] at hp'
      simp at hp'
      subst hp'
      exact ⟨seen, e, rfl, hm, hp, rfl⟩
theorem y_entry {p : Int} {z : β} (h : RngM F σ k v m f (ks ++ [p])) (hx : a.eval x = v) : Yld P ⟨d, .entry x, ty, pos, af, g⟩ a σ (Ty.tup2 (.int p) (F ((f p).getD z))).pr := by
  obtain ⟨r, bm, es, clock, since, seen, c0, rfl, e2, r1, r2, r3, r4, r5, r6, r7, r7c, r8, r9⟩ := h
  obtain ⟨s0, e, rfl, he, hp, hcl⟩ := r9 p (by simp)
  rw [hcl] at r3
  have hn : (es.toList.map (·.born)).Nodup := List.pairwise_map.2 (r5.born.imp fun h_ => by omega)
  have hrun := run_entry_at (P := P) σ.w r bm since s0 es clock e r3 r4 he hn
  obtain ⟨i, b, h1, h2, h3⟩ := r5.key e he
  rw [hp] at h1
  injection h1 with _ h1
  subst h1
  refine Yld.of_run (v := .tuple #[e.key, e.val]) (by simp only [execOp, hx]; simp [Sem.run_bind, hrun]) ⟨_, _, rfl, by rw [hp]; rfl, by rw [h2]; exact h3⟩
end Go.KL

/- All rows of a chain: made level by level, whatever the order in which a level's points come. -/
namespace Go.KL
open Go.RowKit
section
variable {n k : Nat} {c : Nat → Lev} {gens L N : List (List Int)} {ks : List Int} {p : Int} {t x y : List Int}
structure EltK (n : Nat) (gens : List (List Int)) (c : Nat → Lev) (k : Nat) (L : List (List Int)) : Prop where
  nd : L.Nodup
  mem : ∀ x, x ∈ L ↔ (RowN n x ∧ Fx k x ∧ Mem n c k x)
  len : L.length * szTo n (fun y => y ∈ gens) k = szTo n (fun y => y ∈ gens) n
structure EltI (n : Nat) (c : Nat → Lev) (k : Nat) (m : Nat) (ks : List Int) (N : List (List Int)) : Prop where
  nd : ks.Nodup
  inn : ∀ p ∈ ks, ((c k).orb p).isSome = true
  nn : N.Nodup
  mem : ∀ x, x ∈ N ↔ (RowN n x ∧ Fx k x ∧ x.getD k 0 ∈ ks ∧ Mem n c k x)
  len : N.length = ks.length * m
theorem EltK.start (hw : WC n c) : EltK n gens c n [roundsL n] where
  nd := by simp
  mem x := by
    rw [List.mem_singleton]
    constructor
    · rintro rfl; exact ⟨rounds_rowN hw.nn, Fx.rounds (Nat.le_refl _), mem_top⟩
    · rintro ⟨h1, h2, _⟩; exact h2.all h1
  len := by simp
theorem EltI.start {m : Nat} : EltI n c k m [] [] := ⟨by simp, by simp, by simp, by simp, by simp⟩
theorem EltI.step {m : Nat} (hw : WC n c) (hk : k < n) (hL : EltK n gens c (k + 1) L) (h : EltI n c k m ks N) (hm : m = L.length) (hp : p ∉ ks) (ho : (c k).orb p = some t) : EltI n c k m (ks ++ [p]) (N ++ L.map (byL t)) := by
  obtain ⟨ht, htf, htp⟩ := (hw.lev k hk).pt p t ho
  have hy : ∀ y ∈ L, RowN n (byL t y) ∧ Fx k (byL t y) ∧ (byL t y).getD k 0 = p ∧ Mem n c k (byL t y) := fun y hy => by
    obtain ⟨h1, h2, h3⟩ := (hL.mem y).1 hy
    refine ⟨ht.by h1, Fx.by (by omega) h1 htf (h2.le (by omega)), ?_, mem_mul hw hk ho h1 h2 h3⟩
    rw [by_at h1 hk, h2 k (by omega), Int.toNat_natCast, htp]
  refine ⟨?_, ?_, ?_, fun x => ?_, ?_⟩
  · rw [List.nodup_append]
    exact ⟨h.nd, by simp, fun a ha b hb => by rw [List.mem_singleton.1 hb]; rintro rfl; exact hp ha⟩
  · intro q hq
    rcases List.mem_append.1 hq with hq | hq
    · exact h.inn q hq
    · rw [List.mem_singleton.1 hq, ho]; rfl
  · rw [List.nodup_append]
    refine ⟨h.nn, ?_, fun a ha b hb => ?_⟩
    · refine List.pairwise_map.2 (hL.nd.imp_of_mem fun {a b} ha hb hne e => hne ?_)
      have h1 := fore_row ((hL.mem a).1 ha).1 ht
      rw [e, fore_row ((hL.mem b).1 hb).1 ht] at h1
      exact h1.symm
    · rintro rfl
      obtain ⟨y, hyL, rfl⟩ := List.mem_map.1 hb
      have h1 := ((h.mem _).1 ha).2.2.1
      rw [(hy y hyL).2.2.1] at h1
      exact hp h1
  · rw [List.mem_append, h.mem, List.mem_append, List.mem_singleton]
    constructor
    · rintro (⟨h1, h2, h3, h4⟩ | hx)
      · exact ⟨h1, h2, .inl h3, h4⟩
      · obtain ⟨y, hyL, rfl⟩ := List.mem_map.1 hx
        obtain ⟨h1, h2, h3, h4⟩ := hy y hyL
        exact ⟨h1, h2, .inr h3, h4⟩
    · rintro ⟨h1, h2, h3 | h3, h4⟩
      · exact .inl ⟨h1, h2, h3, h4⟩
      · refine .inr (List.mem_map.2 ⟨byL (undoL t) x, ?_, back_row h1 ht⟩)
        obtain ⟨t', ho', hm'⟩ := (mem_iff hk).1 h4
        rw [h3, ho] at ho'
        injection ho' with e
        subst e
        obtain ⟨r1, r2⟩ := rest_row hk h1 h2 ht htf (by rw [htp, h3])
        exact (hL.mem _).2 ⟨r1, r2, hm'⟩
  · rw [List.length_append, List.length_map, h.len, List.length_append, List.length_singleton, Nat.add_mul, hm]; omega
theorem EltI.few {m : Nat} (hw : WC n c) (hk : k < n) (h : EltI n c k m ks N) : ks.length + noO n (c k).orb ≤ n :=
  keys_len h.nd h.inn fun p t ht => by
    obtain ⟨h1, _, h3⟩ := (hw.lev k hk).pt p t ht
    have := h1.at hk
    rw [h3] at this; exact this
theorem nd_sub {α : Type} : ∀ {a b : List α}, a.Nodup → (∀ x ∈ a, x ∈ b) → a.length ≤ b.length
  | [], _, _, _ => Nat.zero_le _
  | x :: a, b, h, hs => by
    rw [List.nodup_cons] at h
    obtain ⟨b1, b2, rfl⟩ := List.append_of_mem (hs x (by simp))
    have h2 := nd_sub (b := b1 ++ b2) h.2 fun y hy => by
      have := hs y (by simp [hy])
      rw [List.mem_append, List.mem_cons] at this
      rcases this with h3 | rfl | h3
      · simp [h3]
      · exact absurd hy h.1
      · simp [h3]
    simp only [List.length_append, List.length_cons] at h2 ⊢
    omega
theorem keys_all {f : Int → Option (List Int)} (hn : ks.Nodup) (hb : ∀ p, (f p).isSome = true → p ∈ ks) : n - noO n f ≤ ks.length := by
  rw [noO_some, List.countP_eq_length_filter]
  have h := nd_sub (a := ((List.range n).filter fun (p : Nat) => (f (p : Int)).isSome).map fun (p : Nat) => (p : Int)) (b := ks) ?_ ?_
  · rw [List.length_map] at h; exact h
  · refine List.Pairwise.map (R := fun a b => a ≠ b) _ (fun a b h e => h (by omega)) ?_
    exact List.Pairwise.filter _ List.nodup_range
  · intro x hx
    obtain ⟨q, hq, rfl⟩ := List.mem_map.1 hx
    exact hb _ (List.mem_filter.1 hq).2
theorem EltI.done (hc : ChnOf n gens c) (hG : ∀ x ∈ gens, RowN n x) (hk : k < n) (hL : EltK n gens c (k + 1) L) {m : Nat} (h : EltI n c k m ks N) (hm : m = L.length) (hall : ∀ p, ((c k).orb p).isSome = true → p ∈ ks) : EltK n gens c k N where
  nd := h.nn
  mem x := by
    rw [h.mem]
    constructor
    · rintro ⟨h1, h2, _, h4⟩; exact ⟨h1, h2, h4⟩
    · rintro ⟨h1, h2, h4⟩
      obtain ⟨t', ho', _⟩ := (mem_iff hk).1 h4
      exact ⟨h1, h2, hall _ (by rw [ho']; rfl), h4⟩
  len := by
    have h1 := h.few hc.wc hk
    have h2 := keys_all (n := n) h.nd hall
    have h3 : ks.length = n - noO n (c k).orb := by omega
    have h4 := hc.szS hG hk
    have h5 := hL.len
    rw [h.len, h3, hm, Nat.mul_assoc, Nat.mul_comm (n - _), Nat.mul_assoc, h4, h5]
theorem EltK.few (hc : ChnOf n gens c) (h : EltK n gens c k L) (hk : k ≤ n) (hs : szTo n (fun y => y ∈ gens) n ≤ 5040) : L.length ≤ 5040 := by
  have h1 := h.len
  have h2 := szTo_pos (n := n) (S := fun y => y ∈ gens) hc.wc.nn k hk
  have h3 : L.length * 1 ≤ L.length * szTo n (fun y => y ∈ gens) k := Nat.mul_le_mul_left _ h2
  omega
structure EltsOk (n : Nat) (gens : List (List Int)) (E : List (List Int)) : Prop where
  nd : E.Nodup
  srt : E.Pairwise fun x y => leL x y = true
  mem : ∀ x, x ∈ E ↔ Cl n (fun y => y ∈ gens) x
  len : E.length = szTo n (fun y => y ∈ gens) n
theorem EltK.sorted (hc : ChnOf n gens c) (hG : ∀ x ∈ gens, RowN n x) (h : EltK n gens c 0 L) {S : List (List Int)} (hp : S.Perm L) (hs : S.Pairwise fun x y => leL x y = true) : EltsOk n gens S where
  nd := hp.nodup_iff.2 h.nd
  srt := hs
  mem x := by
    rw [hp.mem_iff, h.mem]
    constructor
    · rintro ⟨h1, _, h3⟩; exact (hc.has h1).1 h3
    · intro hx
      have h1 := hx.row hc.wc.nn hG
      exact ⟨h1, fun i hi => by omega, (hc.has h1).2 hx⟩
  len := by
    have := h.len
    rw [szTo] at this
    rw [hp.length_eq]; omega
noncomputable def eltE (n : Nat) (gens : List (List Int)) : Int := if szTo n (fun y => y ∈ gens) n ≤ 5040 then 0 else 3
structure EltsP (n : Nat) (gens : List (List Int)) (E : List (List Int)) : Prop where
  ok : szTo n (fun y => y ∈ gens) n ≤ 5040 → EltsOk n gens E
  no : ¬ szTo n (fun y => y ∈ gens) n ≤ 5040 → E = []
end
section
variable {σ : GW}
theorem Own.retag {k k' : Nat} {e : TypeId} {c n : Nat} {v : Value} {ts : List Ty} (h : Own σ k e c v n ts) (hk : 2 ≤ k) (_hk' : 2 ≤ k') : ∃ τ : GW, τ.w = σ.w ∧ Stp k σ τ ∧ Own τ k' e c v n ts := by
  refine ⟨⟨σ.w, fun b => if σ.st b = k then k' else σ.st b, fun b hb => σ.lt b (fun e0 => ?_)⟩, rfl, ⟨rfl, rfl, rfl, Dr.refl _, Nat.le_refl _, fun _ _ _ => rfl, fun b hb hm => ?_⟩, ?_⟩
  · simp only [e0] at hb
    rw [if_neg (by omega)] at hb
    exact hb rfl
  · rcases hm with h1 | h1
    · omega
    · show (if σ.st b = k then k' else σ.st b) = _
      rw [if_neg h1]
  · obtain ⟨us, r1, r2, r3, r4⟩ := h
    have hle : σ.Le ⟨σ.w, fun b => if σ.st b = k then k' else σ.st b, fun b hb => σ.lt b (fun e0 => by simp only [e0] at hb; rw [if_neg (by omega)] at hb; exact hb rfl)⟩ := ⟨fun b hb => by show (if σ.st b = k then k' else σ.st b) = _; rw [if_neg (by omega)]; exact hb, fun _ _ => rfl⟩
    exact ⟨us, r1, r2, fun j T u hj hu => T.up hle (r3 j T u hj hu), fun g hg => by show (if σ.st g = k then k' else σ.st g) = _; rw [if_pos (r4 g hg)]⟩
end
end Go.KL

/- All rows that two make, by numbers; sets that must be left by the same one. -/
namespace Go.KL
open Go.RowKit
theorem nd_inj {α : Type} {l : List α} {d : α} (h : l.Nodup) {i j : Nat} (hi : i < l.length) (hj : j < l.length) (e : l.getD i d = l.getD j d) : i = j := by
  have hp := List.pairwise_iff_getElem.1 h
  have e1 : l.getD i d = l[i] := by simp [hi]
  have e2 : l.getD j d = l[j] := by simp [hj]
  rw [e1, e2] at e
  rcases Nat.lt_trichotomy i j with h1 | h1 | h1
  · exact absurd e (hp i j hi hj h1)
  · exact h1
  · exact absurd e.symm (hp j i hj hi h1)
def plF (E : List (List Int)) : Nat → Int → Option Int
  | 0 => fun _ => none
  | k + 1 => fun p => if p = ((rankL (E.getD k []) : Nat) : Int) then some (k : Int) else plF E k p
def idL (E : List (List Int)) (r : List Int) : Int := (plF E E.length ((rankL r : Nat) : Int)).getD 0
def actL (E : List (List Int)) (c : List Int) (k : Nat) : List Int := (E.take k).map fun r => idL E (byL r c)
def actN (E : List (List Int)) (c : List Int) (i : Nat) : Nat := (idL E (byL (E.getD i []) c)).toNat
section
variable {n : Nat} {E gens : List (List Int)} {x y c r : List Int} {i j k : Nat}
theorem plF_at (hE : ∀ x ∈ E, RowN n x) (hnd : E.Nodup) : ∀ k, k ≤ E.length → ∀ j, j < k → plF E k ((rankL (E.getD j []) : Nat) : Int) = some (j : Int)
  | 0, _, j, h => by omega
  | k + 1, hk, j, h => by
    rw [plF]
    by_cases e : ((rankL (E.getD j []) : Nat) : Int) = ((rankL (E.getD k []) : Nat) : Int)
    · simp only [if_pos e]
      have h1 := hE _ (mem_atD [] (show j < E.length by omega))
      have h2 := hE _ (mem_atD [] (show k < E.length by omega))
      have h3 : E.getD j [] = E.getD k [] := rank_eq h1 h2 (by omega)
      have : j = k := nd_inj hnd (by omega) (by omega) h3
      rw [this]
    · simp only [if_neg e]
      exact plF_at hE hnd k (by omega) j (by
        rcases Nat.lt_or_ge j k with h1 | h1
        · exact h1
        · have : j = k := by omega
          subst this; exact absurd rfl e)
theorem EltsOk.rows (hn : 1 ≤ n ∧ n ≤ 12) (hG : ∀ x ∈ gens, RowN n x) (h : EltsOk n gens E) : ∀ x ∈ E, RowN n x := fun x hx => ((h.mem x).1 hx).row hn hG
theorem EltsOk.id (hn : 1 ≤ n ∧ n ≤ 12) (hG : ∀ x ∈ gens, RowN n x) (h : EltsOk n gens E) (hr : Cl n (fun y => y ∈ gens) r) : ∃ j, j < E.length ∧ idL E r = (j : Int) ∧ E.getD j [] = r := by
  obtain ⟨j, hj, e⟩ := List.getElem_of_mem ((h.mem r).2 hr)
  have e1 : E.getD j [] = r := by rw [← e]; simp [hj]
  refine ⟨j, hj, ?_, e1⟩
  unfold idL
  rw [← e1, plF_at (h.rows hn hG) h.nd _ (Nat.le_refl _) j hj]; rfl
theorem EltsOk.cl (h : EltsOk n gens E) (hi : i < E.length) : Cl n (fun y => y ∈ gens) (E.getD i []) := (h.mem _).1 (mem_atD [] hi)
theorem EltsOk.act (hn : 1 ≤ n ∧ n ≤ 12) (hG : ∀ x ∈ gens, RowN n x) (h : EltsOk n gens E) (hc : Cl n (fun y => y ∈ gens) c) (hi : i < E.length) : actN E c i < E.length ∧ idL E (byL (E.getD i []) c) = (actN E c i : Int) ∧ E.getD (actN E c i) [] = byL (E.getD i []) c := by
  obtain ⟨j, hj, e1, e2⟩ := h.id hn hG ((h.cl hi).prod hn hG hc)
  have : actN E c i = j := by unfold actN; rw [e1]; simp
  rw [this]; exact ⟨hj, e1, e2⟩
theorem by_canc {a b : List Int} (ha : RowN n a) (hb : RowN n b) (hc : RowN n c) (e : byL a c = byL b c) : a = b := by
  have h1 : byL (byL a c) (undoL c) = a := by rw [← by_as a hc hc.undo, undo_right hc, byL_rounds_right ha.len]
  have h2 : byL (byL b c) (undoL c) = b := by rw [← by_as b hc hc.undo, undo_right hc, byL_rounds_right hb.len]
  rw [← h1, e, h2]
theorem EltsOk.inj (hn : 1 ≤ n ∧ n ≤ 12) (hG : ∀ x ∈ gens, RowN n x) (h : EltsOk n gens E) (hc : Cl n (fun y => y ∈ gens) c) (hi : i < E.length) (hj : j < E.length) (e : actN E c i = actN E c j) : i = j := by
  have h1 := (h.act hn hG hc hi).2.2
  have h2 := (h.act hn hG hc hj).2.2
  rw [e, h2] at h1
  have hr := h.rows hn hG
  exact nd_inj h.nd hi hj (by_canc (hr _ (mem_atD [] hi)) (hr _ (mem_atD [] hj)) (hc.row hn hG) h1.symm)
theorem actL_len (hk : k ≤ E.length) : (actL E c k).length = k := by unfold actL; rw [List.length_map, List.length_take]; omega
theorem actL_succ (hk : k < E.length) : actL E c (k + 1) = actL E c k ++ [idL E (byL (E.getD k []) c)] := by
  unfold actL; rw [take_snoc E [] k hk, List.map_append]; rfl
theorem actL_get (hk : k ≤ E.length) (hi : i < k) : (actL E c k).getD i 0 = idL E (byL (E.getD i []) c) := by
  unfold actL
  rw [List.getD_eq_getElem?_getD, List.getElem?_map, List.getElem?_take, if_pos hi]
  have : i < E.length := by omega
  simp [this]
def backL (Y : List Int) (N : Nat) : Nat → List Int
  | 0 => List.replicate N 0
  | k + 1 => (backL Y N k).set (Y.getD k 0).toNat ((k : Nat) : Int)
theorem backL_len (Y : List Int) (N : Nat) : ∀ k, (backL Y N k).length = N
  | 0 => by simp [backL]
  | k + 1 => by rw [backL, List.length_set, backL_len Y N k]
theorem backL_at {Y : List Int} {N : Nat} (hb : ∀ i, i < N → (Y.getD i 0).toNat < N) (hinj : ∀ i j, i < N → j < N → (Y.getD i 0).toNat = (Y.getD j 0).toNat → i = j) : ∀ k, k ≤ N → ∀ j, j < k → (backL Y N k).getD (Y.getD j 0).toNat 0 = (j : Int)
  | 0, _, j, h => by omega
  | k + 1, hk, j, h => by
    rw [backL]
    by_cases e : j = k
    · subst e
      rw [List.getD_eq_getElem?_getD, List.getElem?_set_self (by rw [backL_len]; exact hb j (by omega))]; rfl
    · rw [List.getD_eq_getElem?_getD, List.getElem?_set_ne (fun e1 => e (hinj j k (by omega) (by omega) e1.symm)), ← List.getD_eq_getElem?_getD]
      exact backL_at hb hinj k (by omega) j (by omega)
end
/-! ### Numbers that are alike -/
structure PermN (N : Nat) (p : Nat → Nat) : Prop where
  lt : ∀ i, i < N → p i < N
  inj : ∀ i j, i < N → j < N → p i = p j → i = j
inductive Con (p : Nat → Nat) (N : Nat) : Nat → Nat → Prop
  | refl (a : Nat) : Con p N a a
  | step {a : Nat} : a < N → Con p N a (p a)
  | symm {a b : Nat} : Con p N a b → Con p N b a
  | trans {a b c : Nat} : Con p N a b → Con p N b c → Con p N a c
def itN (p : Nat → Nat) : Nat → Nat → Nat
  | 0, i => i
  | t + 1, i => p (itN p t i)
structure Lab (p : Nat → Nat) (N : Nat) (l : List Int) : Prop where
  st : ∀ i, i < N → l.getD (p i) 0 = l.getD i 0
  co : ∀ a b, a < N → b < N → l.getD a 0 = l.getD b 0 → Con p N a b
section
variable {p : Nat → Nat} {N i j t k m m' : Nat} {l l' : List Int}
theorem itN_lt (hp : PermN N p) (hi : i < N) : ∀ t, itN p t i < N
  | 0 => hi
  | t + 1 => hp.lt _ (itN_lt hp hi t)
theorem itN_con (hp : PermN N p) (hi : i < N) : ∀ t, Con p N i (itN p t i)
  | 0 => .refl _
  | t + 1 => (itN_con hp hi t).trans (.step (itN_lt hp hi t))
theorem Lab.of (h : Lab p N l) {a b : Nat} (hc : Con p N a b) : l.getD a 0 = l.getD b 0 := by
  induction hc with
  | refl => rfl
  | step ha => exact (h.st _ ha).symm
  | symm _ ih => exact ih.symm
  | trans _ _ h1 h2 => exact h1.trans h2
theorem Lab.iff (h : Lab p N l) (hi : i < N) (hj : j < N) : l.getD i 0 = l.getD j 0 ↔ Con p N i j := ⟨h.co i j hi hj, h.of⟩
structure RG (N m : Nat) (l : List Int) : Prop where
  lo : ∀ j, j < N → 1 ≤ l.getD j 0
  hi : ∀ j, j < N → l.getD j 0 ≤ m
  fst : ∀ v : Nat, 1 ≤ v → v ≤ m → ∃ s, s < N ∧ l.getD s 0 = v ∧ ∀ j, j < s → l.getD j 0 < v
theorem RG.le (h : RG N m l) (h' : RG N m' l') (hk : ∀ i j, i < N → j < N → (l.getD i 0 = l.getD j 0 ↔ l'.getD i 0 = l'.getD j 0)) (i : Nat) (hi : i < N) (ih : ∀ j, j < i → l.getD j 0 = l'.getD j 0) : l.getD i 0 ≤ l'.getD i 0 := by
  refine Classical.byContradiction fun hlt => ?_
  have h1 := h'.lo i hi
  have h2 := h.hi i hi
  have h3 := h.lo i hi
  obtain ⟨v, hv⟩ : ∃ v : Nat, (v : Int) = l'.getD i 0 := ⟨(l'.getD i 0).toNat, by omega⟩
  obtain ⟨s, s1, s2, s3⟩ := h.fst v (by omega) (by omega)
  rcases Nat.lt_trichotomy s i with h4 | h4 | h4
  · have h5 := ih s h4
    have h6 := (hk s i s1 hi).2 (by rw [← h5, s2, hv])
    omega
  · subst h4; omega
  · have := s3 i h4
    omega
theorem RG.eq (h : RG N m l) (h' : RG N m' l') (hk : ∀ i j, i < N → j < N → (l.getD i 0 = l.getD j 0 ↔ l'.getD i 0 = l'.getD j 0)) (i : Nat) (hi : i < N) : l.getD i 0 = l'.getD i 0 := by
  induction i using Nat.strongRecOn with
  | _ i ih =>
    have h1 := h.le h' hk i hi (fun j hj => ih j hj (by omega))
    have h2 := h'.le h (fun a b ha hb => (hk a b ha hb).symm) i hi (fun j hj => (ih j hj (by omega)).symm)
    omega
theorem RG.max (h : RG N m l) (h' : RG N m' l') (he : ∀ i, i < N → l.getD i 0 = l'.getD i 0) : m = m' := by
  rcases Nat.lt_trichotomy m m' with h1 | h1 | h1
  · obtain ⟨s, s1, s2, _⟩ := h'.fst m' (by omega) (Nat.le_refl _)
    have := h.hi s s1
    rw [he s s1, s2] at this; omega
  · exact h1
  · obtain ⟨s, s1, s2, _⟩ := h.fst m (by omega) (Nat.le_refl _)
    have := h'.hi s s1
    rw [← he s s1, s2] at this; omega
end
end Go.KL

/- Sets that must be left by the same one: marked one after the other; joined; put together. -/
namespace Go.KL
section
variable {p : Nat → Nat} {N i j t k m : Nat} {l l0 : List Int}
theorem getD_set_self {l : List Int} {i : Nat} {v : Int} (h : i < l.length) : (l.set i v).getD i 0 = v := by rw [List.getD_eq_getElem?_getD, List.getElem?_set_self h]; rfl
theorem getD_set_ne {l : List Int} {i j : Nat} {v : Int} (h : i ≠ j) : (l.set i v).getD j 0 = l.getD j 0 := by rw [List.getD_eq_getElem?_getD, List.getElem?_set_ne h, ← List.getD_eq_getElem?_getD]
structure MkI (p : Nat → Nat) (N : Nat) (l : List Int) (i m : Nat) : Prop where
  len : l.length = N
  r1 : ∀ j, j < i → 1 ≤ l.getD j 0
  lo : ∀ j, j < N → 0 ≤ l.getD j 0 ∧ l.getD j 0 ≤ m
  fst : ∀ v : Nat, 1 ≤ v → v ≤ m → ∃ s, s < i ∧ l.getD s 0 = v ∧ ∀ j, j < s → l.getD j 0 < v
  cl : ∀ a, a < N → l.getD a 0 ≠ 0 → l.getD (p a) 0 = l.getD a 0
  pre : ∀ a, a < N → l.getD a 0 ≠ 0 → ∃ b, b < N ∧ p b = a ∧ l.getD b 0 = l.getD a 0
  co : ∀ a b, a < N → b < N → l.getD a 0 ≠ 0 → l.getD a 0 = l.getD b 0 → Con p N a b
  mi : m ≤ i
structure MkP (p : Nat → Nat) (N : Nat) (l0 : List Int) (i m t k : Nat) (l : List Int) : Prop where
  len : l.length = N
  at' : k = itN p t i
  new : ∀ s, s < t → l.getD (itN p s i) 0 = (m : Int) + 1
  was : ∀ s, s < t → l0.getD (itN p s i) 0 = 0
  old : ∀ a, a < N → (∀ s, s < t → itN p s i ≠ a) → l.getD a 0 = l0.getD a 0
  ne : ∀ s u, s < t → u < t → itN p s i = itN p u i → s = u
theorem MkI.start : MkI p N (List.replicate N 0) 0 0 where
  len := by simp
  r1 j h := by omega
  lo j h := by simp [h]
  fst v h1 h2 := by omega
  cl a ha h := by simp [ha] at h
  pre a ha h := by simp [ha] at h
  co a b ha hb h := by simp [ha] at h
  mi := Nat.le_refl _
theorem MkI.skip (h : MkI p N l i m) (hi : i < N) (hp : 0 < l.getD i 0) : MkI p N l (i + 1) m where
  len := h.len
  r1 j hj := by
    rcases Nat.lt_or_ge j i with h1 | h1
    · exact h.r1 j h1
    · have : j = i := by omega
      subst this; omega
  lo := h.lo
  fst v h1 h2 := by
    obtain ⟨s, s1, s2⟩ := h.fst v h1 h2
    exact ⟨s, by omega, s2⟩
  cl := h.cl
  pre := h.pre
  co := h.co
  mi := by have := h.mi; omega
theorem MkP.start (h : l.length = N) : MkP p N l i m 0 i l := ⟨h, rfl, fun s h => by omega, fun s h => by omega, fun a _ _ => rfl, fun s u h => by omega⟩
theorem MkP.few (hp : PermN N p) (hi : i < N) (h : MkP p N l0 i m t k l) : t ≤ N := by
  have h1 := nodup_len N ((List.range t).map fun s => ((itN p s i : Nat) : Int)) (by
    refine List.pairwise_map.2 ((List.nodup_range (n := t)).imp_of_mem fun {a b} ha hb hne e => hne ?_)
    exact h.ne a b (List.mem_range.1 ha) (List.mem_range.1 hb) (by omega)) (fun x hx => by
    obtain ⟨s, hs, rfl⟩ := List.mem_map.1 hx
    have := itN_lt hp hi s
    omega)
  simpa using h1
theorem MkP.kN (hp : PermN N p) (hi : i < N) (h : MkP p N l0 i m t k l) : k < N := by rw [h.at']; exact itN_lt hp hi t
theorem MkP.fresh (h : MkP p N l0 i m t k l) (hz : l.getD k 0 = 0) : ∀ s, s < t → itN p s i ≠ k := fun s hs e => by
  have := h.new s hs
  rw [e, hz] at this; omega
theorem MkP.step (hp : PermN N p) (hi : i < N) (h : MkP p N l0 i m t k l) (hz : l.getD k 0 = 0) : MkP p N l0 i m (t + 1) (p k) (l.set k ((m : Int) + 1)) where
  len := by rw [List.length_set]; exact h.len
  at' := by rw [itN, ← h.at']
  new s hs := by
    rcases Nat.lt_or_ge s t with h1 | h1
    · rw [getD_set_ne (fun e => h.fresh hz s h1 e.symm)]; exact h.new s h1
    · have : s = t := by omega
      subst this
      rw [← h.at', getD_set_self (by rw [h.len]; exact h.kN hp hi)]
  was s hs := by
    rcases Nat.lt_or_ge s t with h1 | h1
    · exact h.was s h1
    · have : s = t := by omega
      subst this
      rw [← h.at', ← h.old k (h.kN hp hi) (h.fresh hz), hz]
  old a ha hn := by
    rw [getD_set_ne (fun e => hn t (by omega) (by rw [← h.at']; exact e))]
    exact h.old a ha fun s hs => hn s (by omega)
  ne s u hs hu e := by
    rcases Nat.lt_or_ge s t with h1 | h1 <;> rcases Nat.lt_or_ge u t with h2 | h2
    · exact h.ne s u h1 h2 e
    · have : u = t := by omega
      subst this
      exact absurd (e.trans h.at'.symm) (h.fresh hz s h1)
    · have : s = t := by omega
      subst this
      exact absurd (e.symm.trans h.at'.symm) (h.fresh hz u h2)
    · omega
theorem MkP.done (hp : PermN N p) (hi : i < N) (h0 : MkI p N l0 i m) (hz0 : l0.getD i 0 = 0) (h : MkP p N l0 i m t k l) (hk : l.getD k 0 ≠ 0) : MkI p N l (i + 1) (m + 1) := by
  have ht : 0 < t := by
    refine Classical.byContradiction fun hn => ?_
    have e : t = 0 := by omega
    subst e
    have h1 := h.old i hi fun s hs => by omega
    have h2 := h.at'
    rw [itN] at h2
    subst h2
    exact hk (h1.trans hz0)
  have hP : ∀ s, itN p s i < N := itN_lt hp hi
  -- where it comes back to
  have hki : k = i := by
    by_cases hs : ∃ s, s < t ∧ itN p s i = k
    · obtain ⟨s, hs, e⟩ := hs
      cases s with
      | zero => exact e.symm
      | succ s =>
        exfalso
        obtain ⟨u, rfl⟩ : ∃ u, t = u + 1 := ⟨t - 1, by omega⟩
        have h1 := h.at'
        rw [itN] at h1
        rw [itN, h1] at e
        have h2 := h.ne s u (by omega) (by omega) (hp.inj _ _ (hP s) (hP u) e)
        omega
    · exfalso
      have hs' : ∀ s, s < t → itN p s i ≠ k := fun s h1 h2 => hs ⟨s, h1, h2⟩
      have h1 := h.old k (h.kN hp hi) hs'
      obtain ⟨b, hb, e1, e2⟩ := h0.pre k (h.kN hp hi) (by rw [← h1]; exact hk)
      obtain ⟨u, rfl⟩ : ∃ u, t = u + 1 := ⟨t - 1, by omega⟩
      have h2 := h.at'
      rw [itN] at h2
      rw [h2] at e1
      have h3 := hp.inj _ _ hb (hP u) e1
      have h4 := h.was u (by omega)
      rw [← h3, e2, ← h1] at h4
      exact hk h4
  have back : itN p t i = i := by rw [← h.at', hki]
  have cas : ∀ a, a < N → (∃ s, s < t ∧ itN p s i = a ∧ l.getD a 0 = (m : Int) + 1 ∧ l0.getD a 0 = 0) ∨ ((∀ s, s < t → itN p s i ≠ a) ∧ l.getD a 0 = l0.getD a 0) := fun a ha => by
    by_cases hs : ∃ s, s < t ∧ itN p s i = a
    · obtain ⟨s, hs, e⟩ := hs
      exact .inl ⟨s, hs, e, by rw [← e]; exact h.new s hs, by rw [← e]; exact h.was s hs⟩
    · have hs' : ∀ s, s < t → itN p s i ≠ a := fun s h1 h2 => hs ⟨s, h1, h2⟩
      exact .inr ⟨hs', h.old a ha hs'⟩
  have keep : ∀ a, a < N → l0.getD a 0 ≠ 0 → l.getD a 0 = l0.getD a 0 := fun a ha hne => by
    rcases cas a ha with ⟨s, _, _, _, h4⟩ | ⟨_, h2⟩
    · exact absurd h4 hne
    · exact h2
  refine ⟨h.len, fun j hj => ?_, fun j hj => ?_, fun v h1 h2 => ?_, fun a ha hne => ?_, fun a ha hne => ?_, fun a b ha hb hne e => ?_, by have := h0.mi; omega⟩
  · rcases Nat.lt_or_ge j i with h1 | h1
    · have h2 := h0.r1 j h1
      rw [keep j (by omega) (by omega)]; exact h2
    · have : j = i := by omega
      subst this
      have := h.new 0 ht
      rw [itN] at this; omega
  · rcases cas j hj with ⟨_, _, _, h3, _⟩ | ⟨_, h2⟩
    · rw [h3]; omega
    · have := h0.lo j hj
      rw [h2]; omega
  · rcases Nat.lt_or_ge m v with h3 | h3
    · have : v = m + 1 := by omega
      subst this
      refine ⟨i, by omega, by have := h.new 0 ht; rw [itN] at this; rw [this]; omega, fun j hj => ?_⟩
      have h4 := h0.r1 j hj
      have h5 := (h0.lo j (by omega)).2
      rw [keep j (by omega) (by omega)]; omega
    · obtain ⟨s, s1, s2, s3⟩ := h0.fst v h1 h3
      refine ⟨s, by omega, by rw [keep s (by omega) (by omega)]; exact s2, fun j hj => ?_⟩
      have h4 := h0.r1 j (by omega)
      rw [keep j (by omega) (by omega)]; exact s3 j hj
  · rcases cas a ha with ⟨s, h1, h2, h3, h4⟩ | ⟨h1, h2⟩
    · rw [h3]
      rcases Nat.lt_or_ge (s + 1) t with h5 | h5
      · have := h.new (s + 1) h5
        rw [itN, h2] at this; exact this
      · have e : s + 1 = t := by omega
        have := h.new 0 ht
        rw [itN] at this
        have e3 : p (itN p s i) = itN p t i := by rw [← e]; rfl
        rw [← h2, e3, back]; exact this
    · have h3 : l0.getD a 0 ≠ 0 := by rw [← h2]; exact hne
      have h4 := h0.cl a ha h3
      rw [keep (p a) (hp.lt a ha) (by rw [h4]; exact h3), h4, h2]
  · rcases cas a ha with ⟨s, h1, h2, h3, h4⟩ | ⟨h1, h2⟩
    · cases s with
      | zero =>
        obtain ⟨u, rfl⟩ : ∃ u, t = u + 1 := ⟨t - 1, by omega⟩
        have back2 : p (itN p u i) = i := back
        have h2' : i = a := h2
        exact ⟨itN p u i, hP u, by rw [back2, h2'], by rw [h3]; exact h.new u (by omega)⟩
      | succ s =>
        rw [itN] at h2
        exact ⟨itN p s i, hP s, h2, by rw [h3]; exact h.new s (by omega)⟩
    · obtain ⟨b, hb, e1, e2⟩ := h0.pre a ha (by rw [← h2]; exact hne)
      exact ⟨b, hb, e1, by rw [keep b hb (by rw [e2, ← h2]; exact hne), e2, h2]⟩
  · rcases cas a ha with ⟨s, h1, h2, h3, h4⟩ | ⟨h1, h2⟩ <;> rcases cas b hb with ⟨u, g1, g2, g3, g4⟩ | ⟨g1, g2⟩
    · rw [← h2, ← g2]; exact (itN_con hp hi s).symm.trans (itN_con hp hi u)
    · have := (h0.lo b hb).2
      rw [h3, g2] at e; omega
    · have := (h0.lo a ha).2
      rw [h2, g3] at e; omega
    · exact h0.co a b ha hb (by rw [← h2]; exact hne) (by rw [← h2, ← g2]; exact e)
theorem MkI.lab (hp : PermN N p) (h : MkI p N l N m) : Lab p N l ∧ RG N m l :=
  ⟨⟨fun i hi => h.cl i hi (by have := h.r1 i hi; omega), fun a b ha hb e => h.co a b ha hb (by have := h.r1 a ha; omega) e⟩, h.r1, fun j hj => (h.lo j hj).2, h.fst⟩
/-! ### The document's labels -/
structure JnI (p : Nat → Nat) (N : Nat) (l : List Int) (i : Nat) : Prop where
  len : l.length = N
  st : ∀ j, j < i → l.getD (p j) 0 = l.getD j 0
  co : ∀ a b, a < N → b < N → l.getD a 0 = l.getD b 0 → Con p N a b
  lo : ∀ j, j < N → 0 ≤ l.getD j 0 ∧ l.getD j 0 < N
def relL (l : List Int) (a b : Int) (j : Nat) : List Int := (l.take j).map (fun z => if z = a then b else z) ++ l.drop j
theorem relL_len {a b : Int} : (relL l a b j).length = l.length := by unfold relL; rw [List.length_append, List.length_map, List.length_take, List.length_drop]; omega
theorem relL_zero {a b : Int} : relL l a b 0 = l := by simp [relL]
theorem relL_here {a b : Int} (hj : j < l.length) : (relL l a b j).getD j 0 = l.getD j 0 := by
  unfold relL
  rw [List.getD_eq_getElem?_getD, List.getElem?_append_right (by simp; omega)]
  simp only [List.length_map, List.length_take, List.getElem?_drop]
  rw [show j + (j - min j l.length) = j by omega, ← List.getD_eq_getElem?_getD]
theorem relL_yes {a b : Int} (hj : j < l.length) (h : l.getD j 0 = a) : (relL l a b j).set j b = relL l a b (j + 1) := by
  unfold relL
  rw [take_snoc l 0 j hj, List.map_append, List.set_append_right _ _ (by simp; omega), List.append_assoc]
  congr 1
  rw [drop_consD 0 hj]
  have h' : l[j]?.getD 0 = a := by rw [← List.getD_eq_getElem?_getD]; exact h
  simp [show j - min j l.length = 0 by omega, h']
theorem relL_no {a b : Int} (hj : j < l.length) (h : l.getD j 0 ≠ a) : relL l a b j = relL l a b (j + 1) := by
  unfold relL
  rw [take_snoc l 0 j hj, List.map_append, List.append_assoc]
  congr 1
  conv => lhs; rw [drop_consD 0 hj]
  have h' : ¬ l[j]?.getD 0 = a := by rw [← List.getD_eq_getElem?_getD]; exact h
  simp [h']
theorem relL_at {a b : Int} (hj : j < l.length) : (relL l a b l.length).getD j 0 = if l.getD j 0 = a then b else l.getD j 0 := by
  unfold relL
  simp [List.getD_eq_getElem?_getD, List.getElem?_map, hj]
theorem JnI.start : JnI p N ((List.range N).map fun (i : Nat) => (i : Int)) 0 where
  len := by simp
  st j h := by omega
  co a b ha hb e := by
    simp [List.getD_eq_getElem?_getD, ha, hb] at e
    have e' : a = b := by omega
    rw [e']; exact .refl _
  lo j h := by simp [List.getD_eq_getElem?_getD, h]
theorem JnI.same (h : JnI p N l i) (he : l.getD (p i) 0 = l.getD i 0) : JnI p N l (i + 1) := ⟨h.len, fun j hj => by
  rcases Nat.lt_or_ge j i with h1 | h1
  · exact h.st j h1
  · have : j = i := by omega
    subst this; exact he, h.co, h.lo⟩
theorem JnI.join (hp : PermN N p) (hi : i < N) (h : JnI p N l i) : JnI p N (relL l (l.getD i 0) (l.getD (p i) 0) l.length) (i + 1) := by
  have hl := h.len
  have hf : ∀ j, j < N → (relL l (l.getD i 0) (l.getD (p i) 0) l.length).getD j 0 = if l.getD j 0 = l.getD i 0 then l.getD (p i) 0 else l.getD j 0 := fun j hj => relL_at (by omega)
  have hc : Con p N i (p i) := .step hi
  refine ⟨by rw [relL_len]; exact hl, fun j hj => ?_, fun a b ha hb e => ?_, fun j hj => ?_⟩
  · have hjN : j < N := by omega
    rw [hf j hjN, hf (p j) (hp.lt j hjN)]
    rcases Nat.lt_or_ge j i with h1 | h1
    · rw [h.st j h1]
    · have : j = i := by omega
      subst this
      rw [if_pos rfl]
      split
      · rfl
      · rfl
  · rw [hf a ha, hf b hb] at e
    have key : ∀ u, u < N → l.getD u 0 = l.getD i 0 → Con p N u i := fun u hu e => h.co u i hu hi e
    have key2 : ∀ u, u < N → l.getD u 0 = l.getD (p i) 0 → Con p N u i := fun u hu e => (h.co u (p i) hu (hp.lt i hi) e).trans hc.symm
    split at e <;> split at e
    · rename_i h1 h2; exact (key a ha h1).trans (key b hb h2).symm
    · rename_i h1 h2; exact (key a ha h1).trans (key2 b hb e.symm).symm
    · rename_i h1 h2; exact (key2 a ha e).trans (key b hb h2).symm
    · exact h.co a b ha hb e
  · rw [hf j hj]
    split
    · exact h.lo _ (hp.lt i hi)
    · exact h.lo j hj
theorem JnI.lab (h : JnI p N l N) : Lab p N l := ⟨h.st, h.co⟩
end
end Go.KL

/- Sets put together by labels; circuits counted. -/
namespace Go.KL
def idxs (l : List Int) (c i : Nat) : List Int := ((List.range i).filter fun j => decide (l.getD j 0 = (c : Int) + 1)).map fun (j : Nat) => (j : Int)
def grpTo (l : List Int) (m i : Nat) : List (List Int) := (List.range m).map fun c => idxs l c i
section
variable {p : Nat → Nat} {N i j k m m' c : Nat} {l l' : List Int}
theorem idxs_succ : idxs l c (i + 1) = if l.getD i 0 = (c : Int) + 1 then idxs l c i ++ [(i : Int)] else idxs l c i := by
  unfold idxs
  rw [List.range_succ, List.filter_append]
  by_cases h : l.getD i 0 = (c : Int) + 1
  · rw [if_pos h]; simp only [List.filter_cons, List.filter_nil, decide_eq_true_eq, if_pos h, List.map_append]; rfl
  · rw [if_neg h]; simp only [List.filter_cons, List.filter_nil, decide_eq_true_eq, if_neg h, List.append_nil]
theorem idxs_none (h : ∀ j, j < i → l.getD j 0 ≠ (c : Int) + 1) : idxs l c i = [] := by
  unfold idxs
  rw [List.filter_eq_nil_iff.2 fun j hj => by simpa using h j (List.mem_range.1 hj)]; rfl
theorem idxs_mem {z : Int} (h : z ∈ idxs l c i) : 0 ≤ z ∧ z < i := by
  obtain ⟨j, hj, rfl⟩ := List.mem_map.1 h
  have := List.mem_range.1 (List.mem_filter.1 hj).1
  omega
theorem idxs_len : (idxs l c i).length ≤ i := by
  unfold idxs
  rw [List.length_map]
  exact Nat.le_trans (List.length_filter_le _ _) (by simp)
theorem grpTo_len : (grpTo l m i).length = m := by simp [grpTo]
theorem grpTo_get (hc : c < m) : (grpTo l m i).getD c [] = idxs l c i := by simp [grpTo, List.getD_eq_getElem?_getD, hc]
theorem grpTo_zero : grpTo l m 0 = List.replicate m [] := by
  apply List.ext_getElem
  · simp [grpTo]
  · intro a h1 h2; simp [grpTo, idxs]
theorem grpTo_set (h1 : 1 ≤ l.getD i 0) (hc : (c : Int) + 1 = l.getD i 0) : (grpTo l m i).set c (idxs l c i ++ [(i : Int)]) = grpTo l m (i + 1) := by
  apply List.ext_getElem
  · simp [grpTo]
  · intro a h2 h3
    rw [List.getElem_set]
    simp only [grpTo, List.getElem_map, List.getElem_range, idxs_succ]
    by_cases e : c = a
    · subst e; rw [if_pos rfl, if_pos (by omega)]
    · rw [if_neg e, if_neg (by omega)]
theorem grpTo_new (h : ∀ j, j < i → l.getD j 0 ≤ m) : grpTo l m i ++ [[]] = grpTo l (m + 1) i := by
  unfold grpTo
  rw [List.range_succ, List.map_append]
  simp only [List.map_cons, List.map_nil]
  rw [idxs_none (c := m) fun j hj => by have := h j hj; omega]
theorem grpTo_congr (h : ∀ j, j < i → l.getD j 0 = l'.getD j 0) : grpTo l m i = grpTo l' m i := by
  unfold grpTo idxs
  congr 1
  funext c
  congr 1
  exact List.filter_congr fun j hj => by rw [h j (List.mem_range.1 hj)]
def QsP (p : Nat → Nat) (N : Nat) (Q : List (List Int)) : Prop := ∃ l m, Lab p N l ∧ RG N m l ∧ m ≤ N ∧ Q = grpTo l m N
theorem QsP.eq {Q Q' : List (List Int)} (h : QsP p N Q) (h' : QsP p N Q') : Q = Q' := by
  obtain ⟨l, m, h1, h2, _, rfl⟩ := h
  obtain ⟨l', m', g1, g2, _, rfl⟩ := h'
  have hk : ∀ i j, i < N → j < N → (l.getD i 0 = l.getD j 0 ↔ l'.getD i 0 = l'.getD j 0) := fun i j hi hj => by rw [h1.iff hi hj, g1.iff hi hj]
  have he := h2.eq g2 hk
  rw [h2.max g2 he]
  exact grpTo_congr he
theorem QsP.len {Q : List (List Int)} (h : QsP p N Q) : Q.length ≤ N := by
  obtain ⟨l, m, h1, h2, h3, rfl⟩ := h
  rw [grpTo_len]; exact h3
theorem QsP.mem {Q : List (List Int)} (h : QsP p N Q) (hk : k < Q.length) : (Q.getD k []).length ≤ N ∧ ∀ j, j < (Q.getD k []).length → 0 ≤ (Q.getD k []).getD j 0 ∧ (Q.getD k []).getD j 0 < N := by
  obtain ⟨l, m, h1, h2, h3, rfl⟩ := h
  rw [grpTo_len] at hk
  rw [grpTo_get hk]
  exact ⟨idxs_len, fun j hj => idxs_mem (mem_atD 0 hj)⟩
theorem MkI.qs (hp : PermN N p) (h : MkI p N l N m) : QsP p N (grpTo l m N) := ⟨l, m, (h.lab hp).1, (h.lab hp).2, h.mi, rfl⟩
/-! ### The document's numbers of labels -/
def numF (l : List Int) : Nat → (Int → Option Int) × Nat
  | 0 => (fun _ => none, 0)
  | k + 1 => if ((numF l k).1 (l.getD k 0)).isSome = true then numF l k else (fun z => if z = l.getD k 0 then some ((numF l k).2 : Int) else (numF l k).1 z, (numF l k).2 + 1)
structure NumI (l : List Int) (k : Nat) (f : Int → Option Int) (m : Nat) : Prop where
  dom : ∀ j, j < k → (f (l.getD j 0)).isSome = true
  rng : ∀ z c, f z = some c → 0 ≤ c ∧ c < m
  inj : ∀ z z' c, f z = some c → f z' = some c → z = z'
  fst : ∀ v : Nat, v < m → ∃ s, s < k ∧ f (l.getD s 0) = some (v : Int) ∧ ∀ j, j < s → ∃ c, f (l.getD j 0) = some c ∧ c < v
  le : m ≤ k
theorem numF_old (h : ((numF l k).1 (l.getD k 0)).isSome = true) : numF l (k + 1) = numF l k := by rw [numF, if_pos h]
theorem numF_new (h : ¬ ((numF l k).1 (l.getD k 0)).isSome = true) : numF l (k + 1) = (fun z => if z = l.getD k 0 then some ((numF l k).2 : Int) else (numF l k).1 z, (numF l k).2 + 1) := by rw [numF, if_neg h]
theorem numF_ok : ∀ k, NumI l k (numF l k).1 (numF l k).2
  | 0 => ⟨fun j h => by omega, fun z c h => by simp [numF] at h, fun z z' c h => by simp [numF] at h, fun v h => by simp [numF] at h, Nat.le_refl _⟩
  | k + 1 => by
    have h := numF_ok k
    by_cases hs : ((numF l k).1 (l.getD k 0)).isSome = true
    · rw [numF_old hs]
      refine ⟨fun j hj => ?_, h.rng, h.inj, fun v hv => ?_, by have := h.le; omega⟩
      · rcases Nat.lt_or_ge j k with h1 | h1
        · exact h.dom j h1
        · have : j = k := by omega
          subst this; exact hs
      · obtain ⟨s, s1, s2⟩ := h.fst v hv
        exact ⟨s, by omega, s2⟩
    · rw [numF_new hs]
      have hno : (numF l k).1 (l.getD k 0) = none := by cases hc : (numF l k).1 (l.getD k 0) <;> simp_all
      have keep : ∀ z c, (numF l k).1 z = some c → (if z = l.getD k 0 then some ((numF l k).2 : Int) else (numF l k).1 z) = some c := fun z c hz => by
        rw [if_neg (fun e => by rw [e, hno] at hz; cases hz)]; exact hz
      refine ⟨fun j hj => ?_, fun z c hz => ?_, fun z z' c h1 h2 => ?_, fun v hv => ?_, by have := h.le; show _ + 1 ≤ _; omega⟩
      · by_cases e : l.getD j 0 = l.getD k 0
        · show (if _ = _ then _ else _ : Option Int).isSome = true
          rw [if_pos e]; rfl
        · have h1 : j < k := by
            refine Classical.byContradiction fun hn => e ?_
            have : j = k := by omega
            rw [this]
          show (if _ = _ then _ else _ : Option Int).isSome = true
          rw [if_neg e]; exact h.dom j h1
      · dsimp only at hz ⊢
        split at hz
        · cases hz; omega
        · have := h.rng z c hz; omega
      · dsimp only at h1 h2
        split at h1 <;> split at h2
        · rename_i e1 e2; rw [e1, e2]
        · cases h1; have := h.rng _ _ h2; omega
        · cases h2; have := h.rng _ _ h1; omega
        · exact h.inj _ _ _ h1 h2
      · dsimp only at hv ⊢
        rcases Nat.lt_or_ge v (numF l k).2 with h1 | h1
        · obtain ⟨s, s1, s2, s3⟩ := h.fst v h1
          refine ⟨s, by omega, keep _ _ s2, fun j hj => ?_⟩
          obtain ⟨c, c1, c2⟩ := s3 j hj
          exact ⟨c, keep _ _ c1, c2⟩
        · have e : v = (numF l k).2 := by omega
          subst e
          refine ⟨k, by omega, if_pos rfl, fun j hj => ?_⟩
          obtain ⟨c, hc⟩ := Option.isSome_iff_exists.1 (h.dom j hj)
          exact ⟨c, keep _ _ hc, (h.rng _ _ hc).2⟩
theorem numF_mono {z c : Int} (h : (numF l k).1 z = some c) : ∀ d, (numF l (k + d)).1 z = some c
  | 0 => h
  | d + 1 => by
    have ih := numF_mono h d
    show (numF l ((k + d) + 1)).1 z = some c
    by_cases hs : ((numF l (k + d)).1 (l.getD (k + d) 0)).isSome = true
    · rw [numF_old hs]; exact ih
    · rw [numF_new hs]
      have hno : (numF l (k + d)).1 (l.getD (k + d) 0) = none := by cases hc : (numF l (k + d)).1 (l.getD (k + d) 0) <;> simp_all
      show (if _ = _ then _ else _ : Option Int) = _
      rw [if_neg (fun e => by rw [e, hno] at ih; cases ih)]; exact ih
def rlab (l : List Int) (N : Nat) : List Int := (List.range N).map fun i => ((numF l N).1 (l.getD i 0)).getD 0 + 1
theorem rlab_get (hi : i < N) : (rlab l N).getD i 0 = ((numF l N).1 (l.getD i 0)).getD 0 + 1 := by simp [rlab, List.getD_eq_getElem?_getD, hi]
theorem rlab_is {c : Int} (hi : i < N) (hk : k ≤ N) (h : (numF l k).1 (l.getD i 0) = some c) : (rlab l N).getD i 0 = c + 1 := by
  rw [rlab_get hi]
  have := numF_mono h (N - k)
  rw [show k + (N - k) = N by omega] at this
  rw [this]; rfl
theorem rlab_rg : RG N (numF l N).2 (rlab l N) := by
  have h := numF_ok (l := l) N
  refine ⟨fun j hj => ?_, fun j hj => ?_, fun v h1 h2 => ?_⟩
  · obtain ⟨c, hc⟩ := Option.isSome_iff_exists.1 (h.dom j hj)
    rw [rlab_is hj (Nat.le_refl _) hc]
    have := h.rng _ _ hc; omega
  · obtain ⟨c, hc⟩ := Option.isSome_iff_exists.1 (h.dom j hj)
    rw [rlab_is hj (Nat.le_refl _) hc]
    have := h.rng _ _ hc; omega
  · obtain ⟨s, s1, s2, s3⟩ := h.fst (v - 1) (by omega)
    refine ⟨s, s1, by rw [rlab_is s1 (Nat.le_refl _) s2]; omega, fun j hj => ?_⟩
    obtain ⟨c, c1, c2⟩ := s3 j hj
    rw [rlab_is (by omega) (Nat.le_refl _) c1]; omega
theorem rlab_ker (hi : i < N) (hj : j < N) : (rlab l N).getD i 0 = (rlab l N).getD j 0 ↔ l.getD i 0 = l.getD j 0 := by
  have h := numF_ok (l := l) N
  obtain ⟨c, hc⟩ := Option.isSome_iff_exists.1 (h.dom i hi)
  obtain ⟨d, hd⟩ := Option.isSome_iff_exists.1 (h.dom j hj)
  rw [rlab_is hi (Nat.le_refl _) hc, rlab_is hj (Nat.le_refl _) hd]
  constructor
  · intro e
    have : c = d := by omega
    subst this; exact h.inj _ _ _ hc hd
  · intro e
    rw [e, hd] at hc; cases hc; rfl
theorem JnI.qs (hp : PermN N p) (h : JnI p N l N) : QsP p N (grpTo (rlab l N) (numF l N).2 N) := by
  refine ⟨rlab l N, _, ⟨fun i hi => ?_, fun a b ha hb e => ?_⟩, rlab_rg, (numF_ok (l := l) N).le, rfl⟩
  · exact (rlab_ker (hp.lt i hi) hi).2 (h.st i hi)
  · exact h.co a b ha hb ((rlab_ker ha hb).1 e)
theorem rlab_le (hk : k ≤ N) (hj : j < k) : (rlab l N).getD j 0 ≤ ((numF l k).2 : Int) := by
  have h := numF_ok (l := l) k
  obtain ⟨c, hc⟩ := Option.isSome_iff_exists.1 (h.dom j hj)
  rw [rlab_is (by omega) hk hc]
  have := h.rng _ _ hc; omega
end
end Go.KL

/- Where each set leads; circuits counted. -/
namespace Go.KL
def setA (v : Nat → Int) (to js : List Int) : List Int := js.foldl (fun to i => to.set i.toNat (v i.toNat)) to
def toK (Q : List (List Int)) (V : Nat → Nat → Int) (N : Nat) : Nat → List Int
  | 0 => List.replicate N 0
  | k + 1 => setA (V k) (toK Q V N k) (Q.getD k [])
structure ToB (N : Nat) (to : List Int) : Prop where
  len : to.length = N
  bd : ∀ i, i < N → 0 ≤ to.getD i 0 ∧ to.getD i 0 < N
section
variable {N i j k m f : Nat} {to vis l : List Int} {Q : List (List Int)} {v : Nat → Int} {V : Nat → Nat → Int}
theorem ToB.start : ToB N (List.replicate N 0) := ⟨by simp, fun i hi => by simp [hi]; omega⟩
theorem ToB.set {z : Int} (h : ToB N to) (hk : k < N) (hz : 0 ≤ z ∧ z < N) : ToB N (to.set k z) := ⟨by rw [List.length_set]; exact h.len, fun i hi => by
  by_cases e : k = i
  · subst e; rw [getD_set_self (by rw [h.len]; exact hk)]; exact hz
  · rw [getD_set_ne e]; exact h.bd i hi⟩
theorem setA_nil : setA v to [] = to := rfl
theorem setA_snoc {js : List Int} {z : Int} : setA v to (js ++ [z]) = (setA v to js).set z.toNat (v z.toNat) := by unfold setA; rw [List.foldl_append]; rfl
theorem setA_step {js : List Int} (hj : j < js.length) : setA v to (js.take (j + 1)) = (setA v to (js.take j)).set (js.getD j 0).toNat (v (js.getD j 0).toNat) := by rw [take_snoc js 0 j hj, setA_snoc]
theorem ToB.setA (hv : ∀ i, i < N → 0 ≤ v i ∧ v i < N) : ∀ (js : List Int) {to : List Int}, ToB N to → (∀ z ∈ js, 0 ≤ z ∧ z < N) → ToB N (setA v to js)
  | [], to, h, _ => h
  | z :: js, to, h, hb => by
    have h1 := hb z (by simp)
    show ToB N (Go.KL.setA v (to.set z.toNat (v z.toNat)) js)
    exact ToB.setA hv js (h.set (by omega) (hv _ (by omega))) fun w hw => hb w (by simp [hw])
theorem toK_ok (hQ : ∀ k, k < Q.length → ∀ j, j < (Q.getD k []).length → 0 ≤ (Q.getD k []).getD j 0 ∧ (Q.getD k []).getD j 0 < N) (hV : ∀ k, k < Q.length → ∀ i, i < N → 0 ≤ V k i ∧ V k i < N) : ∀ k, k ≤ Q.length → ToB N (toK Q V N k)
  | 0, _ => ToB.start
  | k + 1, h => by
    rw [toK]
    refine ToB.setA (hV k (by omega)) _ (toK_ok hQ hV k (by omega)) fun z hz => ?_
    obtain ⟨j, hj, e⟩ := List.getElem_of_mem hz
    have := hQ k (by omega) j hj
    have e2 : (Q.getD k []).getD j 0 = z := by rw [List.getD_eq_getElem?_getD, List.getElem?_eq_getElem hj]; exact e
    rw [e2] at this
    exact this
/-! ### Rounds -/
def visF (to : List Int) : Nat → List Int → Nat → List Int
  | 0, vis, _ => vis
  | f + 1, vis, k => if vis.getD k 0 = 0 then visF to f (vis.set k 1) (to.getD k 0).toNat else vis
def cirS (to : List Int) (N : Nat) : Nat → List Int × Nat
  | 0 => (List.replicate N 0, 0)
  | i + 1 => if 0 < (cirS to N i).1.getD i 0 then cirS to N i else (visF to (N + 1) (cirS to N i).1 i, (cirS to N i).2 + 1)
def cirN (to : List Int) (N : Nat) : Nat := (cirS to N N).2
def unm (vis : List Int) : Nat := vis.countP fun z => decide (z = 0)
structure VB (N : Nat) (vis : List Int) : Prop where
  len : vis.length = N
  bd : ∀ i, i < N → vis.getD i 0 = 0 ∨ vis.getD i 0 = 1
theorem VB.start : VB N (List.replicate N 0) := ⟨by simp, fun i hi => by simp [hi]⟩
theorem VB.set (h : VB N vis) (hk : k < N) : VB N (vis.set k 1) := ⟨by rw [List.length_set]; exact h.len, fun i hi => by
  by_cases e : k = i
  · subst e; rw [getD_set_self (by rw [h.len]; exact hk)]; exact .inr rfl
  · rw [getD_set_ne e]; exact h.bd i hi⟩
theorem unm_set : ∀ (vis : List Int) (k : Nat), k < vis.length → vis.getD k 0 = 0 → unm (vis.set k 1) + 1 = unm vis
  | [], k, h, _ => by simp at h
  | z :: vis, 0, _, h => by
    have : z = 0 := h
    subst this
    simp [unm]
  | z :: vis, k + 1, h, h2 => by
    have ih := unm_set vis k (by simpa using h) (by simpa using h2)
    unfold unm at ih ⊢
    rw [List.set_cons_succ, List.countP_cons, List.countP_cons]
    omega
theorem unm_le : unm vis ≤ vis.length := List.countP_le_length
structure VisI (to : List Int) (N : Nat) (vis0 : List Int) (i f : Nat) (vis : List Int) (k : Nat) : Prop where
  run : visF to f vis k = visF to (N + 1) vis0 i
  fu : unm vis < f
  vb : VB N vis
  kN : k < N
theorem VisI.start (h : VB N vis) (hi : i < N) : VisI to N vis i (N + 1) vis i := ⟨rfl, by have := unm_le (vis := vis); rw [h.len] at this; omega, h, hi⟩
theorem VisI.step (ht : ToB N to) (h : VisI to N l i f vis k) (hz : vis.getD k 0 = 0) : VisI to N l i (f - 1) (vis.set k 1) (to.getD k 0).toNat := by
  have h1 := unm_set vis k (by rw [h.vb.len]; exact h.kN) hz
  have h2 := h.fu
  have h3 := h.run
  have h4 := ht.bd k h.kN
  rw [show f = (f - 1) + 1 by omega, visF, if_pos hz] at h3
  exact ⟨h3, by omega, h.vb.set h.kN, by omega⟩
theorem VisI.done (h : VisI to N l i f vis k) (hz : vis.getD k 0 ≠ 0) : visF to (N + 1) l i = vis := by
  have h2 := h.fu
  rw [← h.run, show f = (f - 1) + 1 by omega, visF, if_neg hz]
theorem visF_vb (ht : ToB N to) : ∀ f (vis : List Int) (k : Nat), VB N vis → k < N → VB N (visF to f vis k)
  | 0, _, _, h, _ => h
  | f + 1, vis, k, h, hk => by
    rw [visF]
    split
    · exact visF_vb ht f _ _ (h.set hk) (by have := ht.bd k hk; omega)
    · exact h
theorem cirS_ok (ht : ToB N to) : ∀ i, i ≤ N → VB N (cirS to N i).1 ∧ (cirS to N i).2 ≤ i
  | 0, _ => ⟨VB.start, Nat.le_refl _⟩
  | i + 1, h => by
    have ih := cirS_ok ht i (by omega)
    rw [cirS]
    split
    · exact ⟨ih.1, by omega⟩
    · exact ⟨visF_vb ht _ _ _ ih.1 (by omega), by show _ + 1 ≤ _; omega⟩
theorem cirS_old (h : 0 < (cirS to N i).1.getD i 0) : cirS to N (i + 1) = cirS to N i := by rw [cirS, if_pos h]
theorem cirS_new (h : ¬ 0 < (cirS to N i).1.getD i 0) : cirS to N (i + 1) = (visF to (N + 1) (cirS to N i).1 i, (cirS to N i).2 + 1) := by rw [cirS, if_neg h]
def msk (to vis : List Int) (N : Nat) : List Int := (List.range N).map fun a => if vis.getD a 0 = 0 then to.getD a 0 else -1
theorem msk_len : (msk to vis N).length = N := by simp [msk]
theorem msk_get (hk : k < N) : (msk to vis N).getD k 0 = if vis.getD k 0 = 0 then to.getD k 0 else -1 := by simp [msk, List.getD_eq_getElem?_getD, hk]
theorem msk_neg (ht : ToB N to) (hv : VB N vis) (hk : k < N) : (msk to vis N).getD k 0 < 0 ↔ 0 < vis.getD k 0 := by
  rw [msk_get hk]
  have := ht.bd k hk
  rcases hv.bd k hk with h | h
  · rw [if_pos h, h]; omega
  · rw [if_neg (by omega), h]; omega
theorem msk_pos (hk : k < N) (h : vis.getD k 0 = 0) : (msk to vis N).getD k 0 = to.getD k 0 := by rw [msk_get hk, if_pos h]
theorem msk_set (hv : vis.length = N) (hk : k < N) : (msk to vis N).set k (-1) = msk to (vis.set k 1) N := by
  apply List.ext_getElem
  · simp [msk]
  · intro a h1 h2
    have ha : a < N := by simpa [msk] using h1
    have e1 : (msk to vis N)[a]'(by simpa [msk] using ha) = if vis.getD a 0 = 0 then to.getD a 0 else -1 := by simp [msk]
    have e2 : (msk to (vis.set k 1) N)[a]'h2 = if (vis.set k 1).getD a 0 = 0 then to.getD a 0 else -1 := by simp [msk]
    rw [List.getElem_set, e2]
    by_cases e : k = a
    · subst e
      rw [if_pos rfl, getD_set_self (by omega), if_neg (by decide)]
    · rw [if_neg e, getD_set_ne e, e1]
theorem msk_start (ht : to.length = N) : msk to (List.replicate N 0) N = to := by
  apply List.ext_getElem
  · simp [msk, ht]
  · intro a h1 h2
    have ha : a < N := by omega
    simp [msk, List.getD_eq_getElem?_getD, ha, h2]
end
end Go.KL

/- Two rows and all that they make: what leads where. -/
namespace Go.KL
open Go.RowKit
def qN (E : List (List Int)) (x y : List Int) (i : Nat) : Nat := (idL E (byL (byL (E.getD i []) x) (undoL y))).toNat
section
variable {n : Nat} {E gens : List (List Int)} {x y c r : List Int} {i j k : Nat}
theorem EltsOk.q (hn : 1 ≤ n ∧ n ≤ 12) (hG : ∀ x ∈ gens, RowN n x) (h : EltsOk n gens E) (hx : Cl n (fun y => y ∈ gens) x) (hy : Cl n (fun y => y ∈ gens) y) (hi : i < E.length) : qN E x y i < E.length ∧ idL E (byL (byL (E.getD i []) x) (undoL y)) = (qN E x y i : Int) ∧ E.getD (qN E x y i) [] = byL (byL (E.getD i []) x) (undoL y) := by
  obtain ⟨j, hj, e1, e2⟩ := h.id hn hG (((h.cl hi).prod hn hG hx).prod hn hG (hy.undo hn hG))
  have : qN E x y i = j := by unfold qN; rw [e1]; simp
  rw [this]; exact ⟨hj, e1, e2⟩
theorem EltsOk.qPerm (hn : 1 ≤ n ∧ n ≤ 12) (hG : ∀ x ∈ gens, RowN n x) (h : EltsOk n gens E) (hx : Cl n (fun y => y ∈ gens) x) (hy : Cl n (fun y => y ∈ gens) y) : PermN E.length (qN E x y) where
  lt i hi := (h.q hn hG hx hy hi).1
  inj i j hi hj e := by
    have h1 := (h.q hn hG hx hy hi).2.2
    have h2 := (h.q hn hG hx hy hj).2.2
    rw [e, h2] at h1
    have hr := h.rows hn hG
    have hxr := hx.row hn hG
    have a1 := hr _ (mem_atD [] hi)
    have a2 := hr _ (mem_atD [] hj)
    exact nd_inj h.nd hi hj (by_canc a1 a2 hxr (by_canc (a1.by hxr) (a2.by hxr) (hy.row hn hG).undo h1.symm))
theorem EltsOk.actB (hn : 1 ≤ n ∧ n ≤ 12) (hG : ∀ x ∈ gens, RowN n x) (h : EltsOk n gens E) (hc : Cl n (fun y => y ∈ gens) c) (hi : i < E.length) : (actL E c E.length).getD i 0 = (actN E c i : Int) ∧ actN E c i < E.length := by
  obtain ⟨h1, h2, _⟩ := h.act hn hG hc hi
  rw [actL_get (Nat.le_refl _) hi]
  exact ⟨h2, h1⟩
theorem EltsOk.qBack (hn : 1 ≤ n ∧ n ≤ 12) (hG : ∀ x ∈ gens, RowN n x) (h : EltsOk n gens E) (hx : Cl n (fun y => y ∈ gens) x) (hy : Cl n (fun y => y ∈ gens) y) (hi : i < E.length) : (backL (actL E y E.length) E.length E.length).getD ((actL E x E.length).getD i 0).toNat 0 = (qN E x y i : Int) := by
  obtain ⟨q1, q2, q3⟩ := h.q hn hG hx hy hi
  have hY := fun i hi => h.actB hn hG hy (i := i) hi
  have hb := backL_at (Y := actL E y E.length) (N := E.length) (fun i hi => by rw [(hY i hi).1]; simpa using (hY i hi).2) (fun i j hi hj e => by
    rw [(hY i hi).1, (hY j hj).1] at e
    exact h.inj hn hG hy hi hj (by simpa using e)) E.length (Nat.le_refl _) _ q1
  have e : (actL E x E.length).getD i 0 = (actL E y E.length).getD (qN E x y i) 0 := by
    have hr := h.rows hn hG
    have a1 := (hr _ (mem_atD [] hi)).by (hx.row hn hG)
    have hyr := hy.row hn hG
    rw [actL_get (Nat.le_refl _) hi, actL_get (Nat.le_refl _) q1, q3, ← by_as _ hyr.undo hyr, undo_left hyr, byL_rounds_right a1.len]
  rw [e]; exact hb
end
/-! ### The document's list of numbers -/
def ofS (N k : Nat) : List Int := (List.range N).map fun (j : Nat) => if j < k then (j : Int) else 0
theorem ofS_len {N k : Nat} : (ofS N k).length = N := by simp [ofS]
theorem ofS_zero {N : Nat} : ofS N 0 = List.replicate N 0 := by
  apply List.ext_getElem
  · simp [ofS]
  · intro a h1 h2; simp [ofS]
theorem ofS_all {N : Nat} : ofS N N = (List.range N).map fun (i : Nat) => (i : Int) := by
  unfold ofS
  exact List.map_congr_left fun j hj => if_pos (List.mem_range.1 hj)
theorem ofS_set {N k : Nat} (hk : k < N) : (ofS N k).set k (k : Int) = ofS N (k + 1) := by
  apply List.ext_getElem
  · simp [ofS]
  · intro a h1 h2
    rw [List.getElem_set]
    simp only [ofS, List.getElem_map, List.getElem_range]
    by_cases e : k = a
    · subst e; rw [if_pos rfl, if_pos (by omega)]
    · rw [if_neg e]
      by_cases h3 : a < k
      · rw [if_pos h3, if_pos (by omega)]
      · rw [if_neg h3, if_neg (by omega)]
section
variable {N e : Nat} {l : List Int}
theorem rl_new (he : e < N) (h : ¬ ((numF l e).1 (l.getD e 0)).isSome = true) : (rlab l N).getD e 0 = ((numF l e).2 : Int) + 1 := by
  refine rlab_is (k := e + 1) he (by omega) ?_
  rw [numF_new h]; exact if_pos rfl
theorem rl_old (he : e < N) (h : ((numF l e).1 (l.getD e 0)).isSome = true) : (rlab l N).getD e 0 = ((numF l e).1 (l.getD e 0)).getD 0 + 1 ∧ 0 ≤ ((numF l e).1 (l.getD e 0)).getD 0 ∧ ((numF l e).1 (l.getD e 0)).getD 0 < (numF l e).2 := by
  obtain ⟨c, hc⟩ := Option.isSome_iff_exists.1 h
  have h1 := (numF_ok (l := l) e).rng _ _ hc
  rw [hc]
  exact ⟨rlab_is (k := e) he (by omega) hc, h1.1, h1.2⟩
theorem grp_put {m c : Nat} {rl : List Int} (hc : c < m) (h : (c : Int) + 1 = rl.getD e 0) : (grpTo rl m e).set c ((grpTo rl m e).getD c [] ++ [(e : Int)]) = grpTo rl m (e + 1) := by
  rw [grpTo_get hc]
  exact grpTo_set (by omega) h
theorem grp_new (he : e ≤ N) : grpTo (rlab l N) (numF l e).2 e ++ [[]] = grpTo (rlab l N) ((numF l e).2 + 1) e := grpTo_new fun j hj => rlab_le he hj
end
end Go.KL

/- How many rows there are: the document's product of places counts the closure. -/
namespace Go.KL
open Go.RowKit
open Classical
section
variable {n k : Nat} {S : List Int → Prop} {E : List (List Int)}
end
end Go.KL

/- Extents: of two rows that may be; how their sets are left. -/
namespace Go.KL
open Go.RowKit
theorem lt_of_elts {n : Nat} {gens E : List (List Int)} (h : EltsOk n gens E) : E.Pairwise fun x y => belowL x y = true := by
  have := List.Pairwise.and h.srt h.nd
  exact this.imp fun {a b} h => (leL_cases h.1).resolve_left h.2
theorem EltsOk.uniq {n : Nat} {gens E E' : List (List Int)} (h : EltsOk n gens E) (h' : EltsOk n gens E') : E = E' :=
  strict_one (lt_of_elts h) (lt_of_elts h') fun x => by rw [h.mem, h'.mem]
theorem EltsOk.closed {n most : Nat} {gens E R W : List (List Int)} (h : EltsOk n gens E) (hm : E.length ≤ most) (hC : ClosedP n gens most R W) : ordS R = E := by
  rcases hC with ⟨_, L, h1, h2, h3⟩ | ⟨h1, h2, h3, h4⟩
  · have := nd_sub h1 fun x hx => (h.mem x).2 (h2 x hx)
    omega
  · have hp := ordS_perm R
    have hs : (ordS R).Pairwise fun x y => belowL x y = true := (List.Pairwise.and (ordS_sort R) (hp.nodup_iff.2 h1)).imp fun {a b} h => (leL_cases h.1).resolve_left h.2
    exact strict_one hs (lt_of_elts h) fun x => by rw [hp.mem_iff, h2, h.mem]
structure TwoP (n : Nat) (x y : List Int) : Prop where
  hn : 1 ≤ n ∧ n ≤ 12
  rx : RowN n x
  ry : RowN n y
theorem TwoP.of {x y : List Int} (h : gensMay ((x.length : Nat) : Int) [x, y] = 0) : TwoP x.length x y := by
  obtain ⟨⟨h1, h2, _⟩, h4⟩ := gensMay_ok h
  have a := h4 0 (by simp)
  have b := h4 1 (by simp)
  have a' : IsRow x ∧ ((x.length : Nat) : Int) = x.length := a
  have b' : IsRow y ∧ ((y.length : Nat) : Int) = x.length := b
  exact ⟨by omega, ⟨a'.1, rfl⟩, ⟨b'.1, by omega⟩⟩
theorem TwoP.may {n : Nat} {x y : List Int} (h : TwoP n x y) : gensMay (n : Int) [x, y] = 0 := gensMay_of h.hn (by simp) fun z hz => by
  rcases List.mem_cons.1 hz with e | hz
  · rw [e]; exact h.rx
  · rw [List.mem_singleton.1 hz]; exact h.ry
theorem TwoP.g {n : Nat} {x y : List Int} (h : TwoP n x y) : ∀ z ∈ [x, y], RowN n z := fun z hz => by
  rcases List.mem_cons.1 hz with e | hz
  · rw [e]; exact h.rx
  · rw [List.mem_singleton.1 hz]; exact h.ry
theorem TwoP.cx {n : Nat} {x y : List Int} (h : TwoP n x y) : Cl n (fun z => z ∈ [x, y]) x := Cl.gen (S := fun z => z ∈ [x, y]) h.g (by simp)
theorem TwoP.cy {n : Nat} {x y : List Int} (h : TwoP n x y) : Cl n (fun z => z ∈ [x, y]) y := Cl.gen (S := fun z => z ∈ [x, y]) h.g (by simp)
/-! ### How the sets are left -/
def vK (E : List (List Int)) (x y ch : List Int) (k i : Nat) : Int := (actL E (if ch.getD k 0 = 1 then y else x) E.length).getD i 0
def badC (ch : List Int) : Nat → Bool
  | 0 => false
  | k + 1 => badC ch k || decide (ch.getD k 0 < 0 ∨ 1 < ch.getD k 0)
def rndE (Q : List (List Int)) (ch : List Int) : Int := if ch.length ≠ Q.length then 1 else if badC ch Q.length = true then 12 else 0
def toE (E : List (List Int)) (x y : List Int) (Q : List (List Int)) (ch : List Int) : List Int := toK Q (vK E x y ch) E.length Q.length
def rndN (E : List (List Int)) (x y : List Int) (Q : List (List Int)) (ch : List Int) : Nat := if rndE Q ch = 0 then cirN (toE E x y Q ch) E.length else 0
theorem badC_yes {ch : List Int} : ∀ {k j : Nat}, j < k → (ch.getD j 0 < 0 ∨ 1 < ch.getD j 0) → badC ch k = true
  | 0, j, hj, _ => by omega
  | k + 1, j, hj, h => by
    rw [badC, Bool.or_eq_true]
    by_cases e : j = k
    · subst e; exact .inr (decide_eq_true h)
    · exact .inl (badC_yes (by omega) h)
theorem badC_succ {ch : List Int} {k : Nat} (h : badC ch k = false) (h1 : 0 ≤ ch.getD k 0) (h2 : ch.getD k 0 ≤ 1) : badC ch (k + 1) = false := by
  rw [badC, h, Bool.false_or]; exact decide_eq_false (by omega)
theorem rndE_cnt {Q : List (List Int)} {ch : List Int} (h : ch.length ≠ Q.length) : rndE Q ch = 1 := if_pos h
theorem rndE_bad {Q : List (List Int)} {ch : List Int} (h : ch.length = Q.length) (hb : badC ch Q.length = true) : rndE Q ch = 12 := by unfold rndE; rw [if_neg (by omega), if_pos hb]
theorem rndE_ok {Q : List (List Int)} {ch : List Int} (h : ch.length = Q.length) (hb : badC ch Q.length = false) : rndE Q ch = 0 := by unfold rndE; rw [if_neg (by omega), hb]; rfl
section
variable {n : Nat} {E gens Q : List (List Int)} {x y ch : List Int}
theorem vK_bd (hn : 1 ≤ n ∧ n ≤ 12) (hG : ∀ x ∈ gens, RowN n x) (h : EltsOk n gens E) (hx : Cl n (fun y => y ∈ gens) x) (hy : Cl n (fun y => y ∈ gens) y) {k i : Nat} (hi : i < E.length) : 0 ≤ vK E x y ch k i ∧ vK E x y ch k i < E.length := by
  unfold vK
  split
  · have := h.actB hn hG hy hi; omega
  · have := h.actB hn hG hx hi; omega
theorem toE_ok (hn : 1 ≤ n ∧ n ≤ 12) (hG : ∀ x ∈ gens, RowN n x) (h : EltsOk n gens E) (hx : Cl n (fun y => y ∈ gens) x) (hy : Cl n (fun y => y ∈ gens) y) {p : Nat → Nat} (hQ : QsP p E.length Q) {k : Nat} (hk : k ≤ Q.length) : ToB E.length (toK Q (vK E x y ch) E.length k) :=
  toK_ok (fun k hk j hj => (hQ.mem hk).2 j hj) (fun k _ i hi => vK_bd hn hG h hx hy hi) k hk
end
theorem setA_lenE {v : Nat → Int} : ∀ {js to : List Int}, (setA v to js).length = to.length
  | [], to => rfl
  | z :: js, to => by
    show (setA v (to.set z.toNat (v z.toNat)) js).length = _
    rw [setA_lenE (js := js), List.length_set]
/-! ### Where two rows lead: the array that is filled -/
def cell0 (X : List Int) : Nat → Ty
  | 0 => Ty.val (Value.slice none 0 0)
  | _ + 1 => Ty.lst Ty.int X
def cell1 (X : List Int) : Nat → Ty
  | 0 => Ty.val (Value.slice none 0 0)
  | 1 => Ty.val (Value.slice none 0 0)
  | _ + 2 => Ty.lst Ty.int X
noncomputable def mkE (x y : List Int) : Int := if gensMay ((x.length : Nat) : Int) [x, y] ≠ 0 then gensMay ((x.length : Nat) : Int) [x, y] else eltE x.length [x, y]
theorem actL_bd {n : Nat} {gens E : List (List Int)} {c : List Int} (hn : 1 ≤ n ∧ n ≤ 12) (hG : ∀ x ∈ gens, RowN n x) (h : EltsOk n gens E) (hc : Cl n (fun y => y ∈ gens) c) {i : Nat} (hi : i < E.length) : 0 ≤ (actL E c E.length).getD i 0 ∧ (actL E c E.length).getD i 0 < E.length := by
  have := h.actB hn hG hc hi; omega
theorem vK_two {E : List (List Int)} {x y ch : List Int} {k i : Nat} (h0 : 0 ≤ ch.getD k 0) (h1 : ch.getD k 0 ≤ 1) : ([actL E x E.length, actL E y E.length].getD (ch.getD k 0).toNat []).getD i 0 = vK E x y ch k i := by
  unfold vK
  have h : ch.getD k 0 = 0 ∨ ch.getD k 0 = 1 := by omega
  rcases h with h | h
  · rw [h, if_neg (by decide)]; rfl
  · rw [h, if_pos rfl]; rfl
noncomputable def theQ (p : Nat → Nat) (N : Nat) : List (List Int) := by
  classical exact if h : ∃ Q, QsP p N Q then Classical.choose h else []
theorem QsP.the {p : Nat → Nat} {N : Nat} {Q : List (List Int)} (h : QsP p N Q) : theQ p N = Q := by
  unfold theQ
  have hx : ∃ Q, QsP p N Q := ⟨Q, h⟩
  rw [dif_pos hx]
  exact (Classical.choose_spec hx).eq h
theorem ClosedP.lim {n most : Nat} {G R W : List (List Int)} (h : ClosedP n G most R W) : R.length ≤ most := by
  rcases h with ⟨h, _⟩ | ⟨_, _, h, _⟩
  · rw [h]; exact Nat.zero_le _
  · exact h
end Go.KL

/- Rows of rows of numbers that the function made itself, and writes. -/
namespace Go.KL
open Go.RowKit
def RowsI (σ : GW) (k : Nat) (e : TypeId) (us : List Value) (xss : List (List Int)) : Prop :=
  us.length = xss.length ∧ (∀ i, i < us.length → Own σ k e 1 (us.getD i undef) (xss.getD i []).length ((xss.getD i []).map Ty.int)) ∧
    ∀ i j g, i < us.length → j < us.length → (us.getD i undef).ownBlock = some g → (us.getD j undef).ownBlock = some g → i = j
def RestI (σ : GW) (k : Nat) (e : TypeId) (us : List Value) (xss : List (List Int)) (i : Nat) : Prop :=
  us.length = xss.length ∧ i < us.length ∧ (∀ j, j < us.length → j ≠ i → Own σ k e 1 (us.getD j undef) (xss.getD j []).length ((xss.getD j []).map Ty.int)) ∧
    ∀ a b g, a < us.length → b < us.length → (us.getD a undef).ownBlock = some g → (us.getD b undef).ownBlock = some g → a = b
section
variable {σ τ : GW} {k k3 : Nat} {e : TypeId} {us : List Value} {xss : List (List Int)} {i : Nat} {L : List Nat}
theorem RowsI.keepL (h : RowsI σ k e us xss) (hs : StpL L σ τ) (h1 : 1 ∉ L) (hk : k ∉ L) : RowsI τ k e us xss := ⟨h.1, fun i hi => (h.2.1 i hi).keepL hs h1 hk, h.2.2⟩
theorem RowsI.k0 (h : RowsI σ k e us xss) (hs : Stp 0 σ τ) : RowsI τ k e us xss := h.keepL (L := []) hs.toL0 (by simp) (by simp)
theorem RestI.keepL (h : RestI σ k e us xss i) (hs : StpL L σ τ) (h1 : 1 ∉ L) (hk : k ∉ L) : RestI τ k e us xss i := ⟨h.1, h.2.1, fun j hj hn => (h.2.2.1 j hj hn).keepL hs h1 hk, h.2.2.2⟩
theorem RestI.k0 (h : RestI σ k e us xss i) (hs : Stp 0 σ τ) : RestI τ k e us xss i := h.keepL (L := []) hs.toL0 (by simp) (by simp)
theorem Own.stI {c n : Nat} {v : Value} {ts : List Ty} (h : Own σ k e c v n ts) {g : Nat} (hg : v.ownBlock = some g) : σ.st g = k := h.choose_spec.2.2.2 g hg
theorem RowsI.focus (h : RowsI σ k e us xss) (hi : i < us.length) (hk : 2 ≤ k) (k3 : Nat) (hk3 : 2 ≤ k3) :
    ∃ τ : GW, τ.w = σ.w ∧ Stp k σ τ ∧ Own τ k3 e 1 (us.getD i undef) (xss.getD i []).length ((xss.getD i []).map Ty.int) ∧ RestI τ k e us xss i := by
  obtain ⟨h1, h2, h3⟩ := h
  have hst : ∀ b, (us.getD i undef).ownBlock = some b → σ.st b = k := fun b hb => (h2 i hi).stI hb
  let τ : GW := ⟨σ.w, fun b => if (us.getD i undef).ownBlock = some b then k3 else σ.st b, fun b hb => by
    by_cases hx : (us.getD i undef).ownBlock = some b
    · exact σ.lt b (by rw [hst b hx]; omega)
    · simp only [hx, if_false] at hb; exact σ.lt b hb⟩
  have hs : Stp k σ τ := ⟨rfl, rfl, rfl, Dr.refl _, Nat.le_refl _, fun _ _ _ => rfl, fun b hb hm => by
    show (if (us.getD i undef).ownBlock = some b then k3 else σ.st b) = σ.st b
    rw [if_neg]
    intro hx
    have := hst b hx
    omega⟩
  have hle : σ.Le τ := hs.le (by omega)
  refine ⟨τ, rfl, hs, ?_, h1, hi, fun j hj hn => ?_, h3⟩
  · obtain ⟨vs, r1, r2, r3, r4⟩ := h2 i hi
    refine ⟨vs, r1, r2, fun j T u hj hu => T.up hle (r3 j T u hj hu), fun g hg => ?_⟩
    show (if (us.getD i undef).ownBlock = some g then k3 else σ.st g) = k3
    rw [if_pos hg]
  · obtain ⟨vs, r1, r2, r3, r4⟩ := h2 j hj
    refine ⟨vs, r1, r2, fun a T u hj hu => T.up hle (r3 a T u hj hu), fun g hg => ?_⟩
    show (if (us.getD i undef).ownBlock = some g then k3 else σ.st g) = k
    rw [if_neg (fun hx => hn (h3 j i g hj hi hg hx))]
    exact r4 g hg
theorem gsI_ne {α : Type} (d : α) {l : List α} {i j : Nat} {x : α} (h : i ≠ j) : (l.set i x).getD j d = l.getD j d := by
  rw [List.getD_eq_getElem?_getD, List.getElem?_set_ne h, ← List.getD_eq_getElem?_getD]
theorem gsI_eq {α : Type} (d : α) {l : List α} {i : Nat} {x : α} (h : i < l.length) : (l.set i x).getD i d = x := by simp [h]
theorem RestI.unfocus {x : Value} {ys : List Int} {n : Nat} {ts : List Ty} (h : RestI σ k e us xss i) (hx : Own σ k3 e 1 x n ts) (hn : n = ys.length) (hts : ts = ys.map Ty.int) (hk : 2 ≤ k) (hk3 : 2 ≤ k3) (hne : k3 ≠ k) :
    ∃ τ : GW, τ.w = σ.w ∧ Stp k3 σ τ ∧ RowsI τ k e (us.set i x) (xss.set i ys) := by
  subst hn; subst hts
  obtain ⟨h1, hi, h2, h3⟩ := h
  have hst : ∀ b, x.ownBlock = some b → σ.st b = k3 := fun b hb => hx.stI hb
  let τ : GW := ⟨σ.w, fun b => if x.ownBlock = some b then k else σ.st b, fun b hb => by
    by_cases hy : x.ownBlock = some b
    · exact σ.lt b (by rw [hst b hy]; omega)
    · simp only [hy, if_false] at hb; exact σ.lt b hb⟩
  have hs : Stp k3 σ τ := ⟨rfl, rfl, rfl, Dr.refl _, Nat.le_refl _, fun _ _ _ => rfl, fun b hb hm => by
    show (if x.ownBlock = some b then k else σ.st b) = σ.st b
    rw [if_neg]
    intro hy
    have := hst b hy
    omega⟩
  have hle : σ.Le τ := hs.le (by omega)
  refine ⟨τ, rfl, hs, by rw [List.length_set, List.length_set]; exact h1, fun j hj => ?_, fun a b g ha hb ga gb => ?_⟩
  · rw [List.length_set] at hj
    by_cases e1 : i = j
    · subst e1
      rw [gsI_eq undef hj, gsI_eq [] (by omega)]
      obtain ⟨vs, r1, r2, r3, r4⟩ := hx
      refine ⟨vs, r1, r2, fun j T u hj hu => T.up hle (r3 j T u hj hu), fun g hg => ?_⟩
      show (if x.ownBlock = some g then k else σ.st g) = k
      rw [if_pos hg]
    · rw [gsI_ne undef e1, gsI_ne [] e1]
      obtain ⟨vs, r1, r2, r3, r4⟩ := h2 j hj (Ne.symm e1)
      refine ⟨vs, r1, r2, fun a T u hj hu => T.up hle (r3 a T u hj hu), fun g hg => ?_⟩
      show (if x.ownBlock = some g then k else σ.st g) = k
      rw [if_neg (fun hy => hne (by rw [← hst g hy, r4 g hg]))]
      exact r4 g hg
  · rw [List.length_set] at ha hb
    have tag : ∀ j, j < us.length → j ≠ i → ∀ g, (us.getD j undef).ownBlock = some g → σ.st g = k := fun j hj hn g hg => (h2 j hj hn).stI hg
    by_cases ea : i = a
    · by_cases eb : i = b
      · omega
      · subst ea
        rw [gsI_eq undef ha] at ga
        rw [gsI_ne undef eb] at gb
        exact absurd ((hst g ga).symm.trans (tag b hb (Ne.symm eb) g gb)) hne
    · by_cases eb : i = b
      · subst eb
        rw [gsI_eq undef hb] at gb
        rw [gsI_ne undef ea] at ga
        exact absurd ((hst g gb).symm.trans (tag a ha (Ne.symm ea) g ga)) hne
      · rw [gsI_ne undef ea] at ga
        rw [gsI_ne undef eb] at gb
        exact h3 a b g ha hb ga gb
theorem own_sl_atI {c n : Nat} {v : Value} {ts : List Ty} (h : Own σ k e c v n ts) (hw : τ.w = σ.w) (hle : σ.Le τ) (hst : ∀ g, v.ownBlock = some g → τ.st g = 1) : (Ty.sl c n ts).has τ v := by
  obtain ⟨us, h1, h2, h3, h4⟩ := h
  rcases h1.2 with ⟨rfl, rfl⟩ | ⟨g, cap, cur, rfl, hb, hg, hn, hm, hcs, ht⟩
  · have hus : us = [] := List.eq_nil_of_length_eq_zero (by rw [h1.1]; simp)
    have hts : ts = [] := List.eq_nil_of_length_eq_zero (by rw [← h2, hus]; rfl)
    subst hts
    exact ⟨none, 0, 0, 0, rfl, ⟨Nat.le_refl _, by decide⟩, by simp, .inl rfl, fun j T hj => by simp at hj⟩
  · refine ⟨some ⟨g, 0, none⟩, cap, g, 0, rfl, ⟨hn, hm⟩, by rw [← h2]; exact h1.1, .inr ⟨rfl, hst g rfl⟩, fun j T hj => ?_⟩
    obtain ⟨u, hu⟩ : ∃ u, us[j]? = some u := ⟨us[j]'(by rw [h2]; exact (List.getElem?_eq_some_iff.1 hj).1), by simp⟩
    refine ⟨u, ?_, T.up hle (h3 j T u hj hu)⟩
    have := h1.cells (g := g) rfl j u hu
    rw [Addr.add_lit] at this
    rw [hw]; exact this
theorem RowsI.seal {ko : Nat} {eo : TypeId} {v : Value} {n : Nat} (h : RowsI σ k e us xss) (hk : 2 ≤ k) (ho : Own σ ko eo 1 v n (us.map Ty.val)) (hko : ko ≠ k) :
    ∃ τ : GW, τ.w = σ.w ∧ Stp k σ τ ∧ Own τ ko eo 1 v n (xss.map Ty.ints) := by
  obtain ⟨h1, h2, h3⟩ := h
  let τ : GW := ⟨σ.w, fun b => if σ.st b = k then 1 else σ.st b, fun b hb => by
    by_cases hy : σ.st b = k
    · exact σ.lt b (by omega)
    · simp only [hy, if_false] at hb; exact σ.lt b hb⟩
  have hs : Stp k σ τ := ⟨rfl, rfl, rfl, Dr.refl _, Nat.le_refl _, fun _ _ _ => rfl, fun b hb hm => by
    show (if σ.st b = k then 1 else σ.st b) = σ.st b
    rw [if_neg (by omega)]⟩
  have hle : σ.Le τ := hs.le (by omega)
  refine ⟨τ, rfl, hs, ?_⟩
  obtain ⟨vs, r1, r2, r3, r4⟩ := ho
  refine ⟨vs, r1, by rw [r2, List.length_map, List.length_map, h1], fun j T u hj hu => ?_, fun g hg => ?_⟩
  · have hjl : j < xss.length := by
      have := (List.getElem?_eq_some_iff.1 hj).1
      simpa using this
    have hju : j < us.length := by omega
    have hu2 : u = us.getD j undef := by
      have := r3 j (Ty.val (us.getD j undef)) u (by simp [hju]) hu
      exact this
    have hT : T = Ty.ints (xss.getD j []) := by
      rw [List.getElem?_map, List.getElem?_eq_getElem hjl] at hj
      cases hj
      simp [hjl]
    rw [hT, hu2]
    refine own_sl_atI (h2 j hju) rfl hle fun g hg => ?_
    show (if σ.st g = k then 1 else σ.st g) = 1
    rw [if_pos ((h2 j hju).stI hg)]
  · show (if σ.st g = k then 1 else σ.st g) = ko
    rw [if_neg (by rw [r4 g hg]; exact hko)]
    exact r4 g hg
theorem grid_0I (σ : GW) (k : Nat) (e : TypeId) (N : Nat) : RowsI σ k e (List.replicate N (Value.slice none 0 0)) (List.replicate N []) := by
  have hg : ∀ i, i < N → (List.replicate N (Value.slice none 0 0)).getD i undef = .slice none 0 0 := fun i hi => by simp [hi]
  refine ⟨by simp, fun i hi => ?_, fun i j g hi hj h1 _ => ?_⟩
  · have hi : i < N := by simpa using hi
    have e2 : (List.replicate N ([] : List Int)).getD i [] = [] := by simp [hi]
    rw [hg i hi, e2]
    exact Own.nil _ _ _ _
  · have hi : i < N := by simpa using hi
    rw [hg i hi] at h1
    simp [Value.ownBlock] at h1
end
theorem cvgI {σ : GW} {k : Nat} {e : TypeId} {us us' : List Value} {xss xss' : List (List Int)} (h1 : us = us') (h2 : xss = xss') (h : RowsI σ k e us xss) : RowsI σ k e us' xss' := h1 ▸ h2 ▸ h
theorem RowsI.snoc {σ : GW} {k : Nat} {e : TypeId} {us : List Value} {xss : List (List Int)} (h : RowsI σ k e us xss) : RowsI σ k e (us ++ [.slice none 0 0]) (xss ++ [[]]) := by
  obtain ⟨h1, h2, h3⟩ := h
  have hn : ∀ i, i < (us ++ [Value.slice none 0 0]).length → (i < us.length ∧ (us ++ [Value.slice none 0 0]).getD i undef = us.getD i undef ∧ (xss ++ [[]]).getD i [] = xss.getD i []) ∨ ((us ++ [Value.slice none 0 0]).getD i undef = .slice none 0 0 ∧ (xss ++ [[]]).getD i [] = []) := fun i hi => by
    rw [List.length_append, List.length_singleton] at hi
    rcases Nat.lt_or_ge i us.length with h4 | h4
    · exact .inl ⟨h4, by simp [List.getD_eq_getElem?_getD, List.getElem?_append_left h4], by simp [List.getD_eq_getElem?_getD, List.getElem?_append_left (show i < xss.length by omega)]⟩
    · have : i = us.length := by omega
      subst this
      exact .inr ⟨by simp [List.getD_eq_getElem?_getD], by rw [h1]; simp [List.getD_eq_getElem?_getD]⟩
  refine ⟨by simp [h1], fun i hi => ?_, fun i j g hi hj gi gj => ?_⟩
  · rcases hn i hi with ⟨h4, h5, h6⟩ | ⟨h5, h6⟩
    · rw [h5, h6]; exact h2 i h4
    · rw [h5, h6]; exact Own.nil _ _ _ _
  · rcases hn i hi with ⟨h4, h5, _⟩ | ⟨h5, _⟩
    · rcases hn j hj with ⟨h7, h8, _⟩ | ⟨h8, _⟩
      · rw [h5] at gi; rw [h8] at gj; exact h3 i j g h4 h7 gi gj
      · rw [h8] at gj; simp [Value.ownBlock] at gj
    · rw [h5] at gi; simp [Value.ownBlock] at gi
end Go.KL

/- A cell of an array behind a pointer that is sealed. -/
namespace Go.KL
open Go.RowKit
variable {P : Program} {d : Option Tmp} {ty : TypeId} {pos : String} {af : Array Edge} {g : Option (Nat × Bool)} {a : Act} {σ : GW}
theorem y_idxR {x y : Operand} {n : Nat} {ts : List Ty} {T : Ty} {t e : TypeId} {z : Value} {b : Nat} {ki : IntKind} {i : Int} (ht : P.underlying t = some (.array n e)) (he : Info P e z 1 b)
    (hx : At (.ref ts) σ a x) (hy : a.eval y = .int ki i) (h0 : 0 ≤ i) (h1 : i < n) (hT : ts[i.toNat]? = some T) :
    Yld P ⟨d, .indexAddr t x y, ty, pos, af, g⟩ a σ (Ty.ref [T]).pr := by
  obtain ⟨bb, o, e1, hst, hc⟩ := hx
  refine Yld.of_run (v := .pointer (some ⟨bb, o + i.toNat, none⟩)) ?_ ⟨bb, o + i.toNat, rfl, hst, fun j T' hj => ?_⟩
  · simp only [execOp, e1, hy]
    simp [Instr.indexAt, Instr.sureAddr, asIntOf, run_underlying ht, h0, h1, he.size, Addr.add_lit]
  · have hj0 : j = 0 := by
      have := (List.getElem?_eq_some_iff.1 hj).1
      simpa using this
    subst hj0
    have : T' = T := by simpa using hj.symm
    subst this
    exact hc _ _ hT
theorem two_get {α : Type} {f : α → Ty} {x y d0 : α} {i : Int} {r : List Ty} (h0 : 0 ≤ i) (h1 : i < 2) : (f x :: f y :: r)[i.toNat]? = some (f ([x, y].getD i.toNat d0)) := by
  have : i = 0 ∨ i = 1 := by omega
  rcases this with rfl | rfl <;> rfl
theorem ownp_idxsub {k o m : Nat} {x y : Operand} {n : Nat} {ts : List Ty} {t e : TypeId} {z v : Value} {b : Nat} (ht : P.underlying t = some (.array n e)) (he : Info P e z 1 b)
    (h : OwnP σ k v ts) (hx : a.eval x = ptrAt v o) (hy : At (Ty.nat m) σ a y) (h1 : m < n) :
    Yld P ⟨d, .indexAddr t x y, ty, pos, af, g⟩ a σ (Ty.val (ptrAt v (o + m))).pr := by
  obtain ⟨gg, e', cur, rfl, _⟩ := h
  have hx' : a.eval x = .pointer (some ⟨gg, o, none⟩) := hx
  clear hx
  have hy' : a.eval y = .int .i64 (m : Int) := hy
  obtain ⟨i, hi⟩ : ∃ i : Int, i = (m : Int) := ⟨_, rfl⟩
  have hm : m = i.toNat := by omega
  have h0 : 0 ≤ i := by omega
  have h2 : i < (n : Int) := by omega
  rw [← hi] at hy'
  clear hy h1 hi
  subst hm
  refine Yld.of_run (v := .pointer (some ⟨gg, o + i.toNat, none⟩)) ?_ rfl
  simp only [execOp, hx', hy']
  simp [Instr.indexAt, Instr.sureAddr, asIntOf, run_underlying ht, h0, h2, he.size, Addr.add_lit]
end Go.KL

/- Arrays that lie in a struct, or in a variable: loaded whole, handed back. -/
namespace Go.KL
open Go.RowKit
section
variable {P : Program}
end
section
variable {P : Program} {d : Option Tmp} {ty : TypeId} {pos : String} {af : Array Edge} {g : Option (Nat × Bool)} {a : Act} {σ : GW}
end
section
variable {P : Program} {fn : Func} {σ0 σ : GW} {a : Act} {N d e f : Nat} {D : List Deferred} {L : List Nat} {R : Value → GW → Prop}
end
end Go.KL

/- Lists compared; a world that a reader leaves behind. -/
namespace Go.KL
open Go.RowKit Go.Sort
def cmpI (x y : Int) : Int := if x < y then -1 else if y < x then 1 else 0
def cmpL : List Int → List Int → Int
  | [], [] => 0
  | [], _ :: _ => -1
  | _ :: _, [] => 1
  | x :: a, y :: b => if cmpI x y ≠ 0 then cmpI x y else cmpL a b
theorem cmpI_zero {x y : Int} : cmpI x y = 0 ↔ x = y := by unfold cmpI; split <;> (try split) <;> omega
theorem cmpI_neg {x y : Int} : cmpI x y < 0 ↔ x < y := by unfold cmpI; split <;> (try split) <;> omega
theorem cmpL_lt : ∀ a b : List Int, decide (cmpL a b < 0) = belowL a b
  | [], [] => rfl
  | [], _ :: _ => by simp [cmpL, belowL]
  | _ :: _, [] => by simp [cmpL, belowL]
  | x :: a, y :: b => by
    rw [cmpL, belowL]
    by_cases h : x = y
    · rw [if_neg (by rw [Classical.not_not]; exact cmpI_zero.2 h), if_pos h]; exact cmpL_lt a b
    · rw [if_pos (fun e => h (cmpI_zero.1 e)), if_neg h, decide_eq_decide]; exact cmpI_neg
theorem cmp_step {a b : List Int} {i : Nat} {z : Int} (h : cmpL (a.drop i) (b.drop i) = z) (h1 : i < a.length) (h2 : i < b.length) (e : ¬ cmpI (a.getD i 0) (b.getD i 0) ≠ 0) : cmpL (a.drop (i + 1)) (b.drop (i + 1)) = z := by
  rw [drop_consD 0 h1, drop_consD 0 h2, cmpL, if_neg e] at h; exact h
theorem cmp_ne {a b : List Int} {i : Nat} {z : Int} (h : cmpL (a.drop i) (b.drop i) = z) (h1 : i < a.length) (h2 : i < b.length) (e : cmpI (a.getD i 0) (b.getD i 0) ≠ 0) : cmpI (a.getD i 0) (b.getD i 0) = z := by
  rw [drop_consD 0 h1, drop_consD 0 h2, cmpL, if_pos e] at h; exact h
theorem cmp_long {a b : List Int} {i : Nat} {z : Int} (h : cmpL (a.drop i) (b.drop i) = z) (h1 : i < a.length) (h2 : b.length ≤ i) : z = 1 := by
  rw [drop_consD 0 h1, List.drop_eq_nil_of_le h2, cmpL] at h; exact h.symm
theorem cmp_short {a b : List Int} {i : Nat} {z : Int} (h : cmpL (a.drop i) (b.drop i) = z) (h1 : a.length ≤ i) (h2 : i < b.length) : z = -1 := by
  rw [drop_consD 0 h2, List.drop_eq_nil_of_le h1, cmpL] at h; exact h.symm
theorem cmp_same {a b : List Int} {i : Nat} {z : Int} (h : cmpL (a.drop i) (b.drop i) = z) (h1 : a.length ≤ i) (h2 : b.length ≤ i) : z = 0 := by
  rw [List.drop_eq_nil_of_le h1, List.drop_eq_nil_of_le h2, cmpL] at h; exact h.symm
end Go.KL

/- slices.SortFunc of a row of lists that is owned, the comparison one that leaves the world as it is. -/
namespace Go.KL
open Go.RowKit Go.Sort Go.Shelf Go.Lib Go.Proofs
variable {P : Program}
def Elt (σ : GW) : Type := { p : Value × List Int // (Ty.ints p.2).has σ p.1 }
instance (σ : GW) : Inhabited (Elt σ) := ⟨⟨(.slice none 0 0, []), nil_has rfl⟩⟩
def Elt.enc {σ : GW} (x : Elt σ) : Value := x.1.1
def Elt.cf {σ : GW} (x y : Elt σ) : Int := cmpL x.1.2 y.1.2
theorem Elt.lt {σ : GW} (x y : Elt σ) : ltOf Elt.cf x y = belowL x.1.2 y.1.2 := cmpL_lt _ _
theorem Elt.swo (σ : GW) : SWO (ltOf (Elt.cf (σ := σ))) where
  irrefl x := by rw [Elt.lt, below_irr]
  trans x y z h1 h2 := by rw [Elt.lt] at *; exact below_trans h1 h2
  ntrans x y z h1 h2 := by
    rw [Elt.lt] at *
    have := leL_trans z.1.2 y.1.2 x.1.2 (by unfold leL; rw [h2]; rfl) (by unfold leL; rw [h1]; rfl)
    unfold leL at this; simpa using this
theorem Elt.one {σ : GW} : OneCell (Elt.enc (σ := σ)) := fun x => by
  obtain ⟨_, _, _, _, e, _⟩ := x.2
  unfold Elt.enc; rw [e]; rfl
theorem heap_sortWorld {α : Type} [Inhabited α] {enc : α → Value} {w : World} {blk off m : Nat} {dk : Array α} {os : Array Obj} {b : Nat} (hb : b < w.heap.size) : (sortWorld enc w blk off m dk os).heap[b]? = if blk = b then (w.heap[b]?).map (onCells (putCells enc off dk)) else w.heap[b]? := by
  unfold sortWorld
  rw [heap_grow_old _ _ (by simpa using hb)]
  unfold putRow mapBlock
  simp only [Array.getElem?_modify, heap_ahead]
theorem size_sortWorld {α : Type} [Inhabited α] {enc : α → Value} {w : World} {blk off m : Nat} {dk : Array α} {os : Array Obj} : w.heap.size ≤ (sortWorld enc w blk off m dk os).heap.size := by
  unfold sortWorld; rw [size_grow, Sort.size_putRow]; simp only [heap_ahead]; omega
theorem m_sortP {d : Option Tmp} {ty : TypeId} {pos : String} {af : Array Edge} {gd : Option (Nat × Bool)} {a : Act} {σ : GW} {f g : FuncId} {fn : Func} {x : Operand} {tys : Array TypeId} {k : Nat} {e : TypeId} {v : Value} {D : List (List Int)} (hk : 2 ≤ k) (h : Own σ k e 1 v D.length (D.map Ty.ints)) (hx : a.eval x = v) (hD : D.length < 4611686018427387904)
    (hf : P.funcs[f]? = some fn) (hn : (fn.name == "runtime.NumGoroutine") = false) (hb : fn.body.isSome = true)
    (hS : ∀ (α : Type) [Inhabited α] (enc : α → Value), OneCell enc → ∀ (cf : α → α → Int), SWO (ltOf cf) → ∀ (blk off cap : Nat) (d : Array α) (w : World), CmpLays1 P g #[] enc cf blk off d.size w → Holds enc w blk off d → blk < w.heap.size → d.size < 4611686018427387904 →
      Calls P f #[.slice (some ⟨blk, off, none⟩) d.size cap, .func (.func g) #[] #[]] w fun e w' => e = .returned (.tuple #[]) ∧ ∃ d' n os, PermIn 0 d.size d d' ∧ SortedIn (ltOf cf) 0 d.size d' ∧ w' = sortWorld enc w blk off n d' os)
    (hN : ∀ (p : Option Addr) (cap : Nat) (fv : Value) (w : World), Calls P f #[.slice p 0 cap, fv] w fun e w' => e = .returned (.tuple #[]) ∧ w' = w)
    (hcmp : ∀ (σ : GW) (u w : Value) (xs ys : List Int), (Ty.ints xs).has σ u → (Ty.ints ys).has σ w → Calls P g #[u, w] σ.w fun e w' => e = .returned (.int .i64 (cmpL xs ys)) ∧ w' = σ.w) :
    YldL [k] P ⟨d, .call ⟨.value (.func f), #[x, .func g], tys⟩, ty, pos, af, gd⟩ a σ (fun _ τ => ∃ S : List (List Int), S.Perm D ∧ S.Pairwise (fun x y => leL x y = true) ∧ Own τ k e 1 v D.length (S.map Ty.ints)) := by
  intro K Q hk'
  have hr : (execOp a.eval ⟨d, .call ⟨.value (.func f), #[x, .func g], tys⟩, ty, pos, af, gd⟩).run P σ.w = .ok (.enter f #[v, .func (.func g) #[] #[]]) σ.w := by
    have hn' : ¬ fn.name = "runtime.NumGoroutine" := by simpa using hn
    have hb' : ¬ fn.body = none := by intro e; simp [e] at hb
    simp only [execOp, resolve, List.map_toArray, List.map_cons, List.map_nil, hx]
    simp [Act.eval, Deferred.ofValue, invoke, callFunc, hf, hn', hb', program, Sem.run, Sem.run_bind]
  unfold Oper.wp
  rw [hr]
  obtain ⟨us, ⟨hl, hc⟩, hl2, hty, hst⟩ := h
  rcases hc with ⟨rfl, hn0⟩ | ⟨gb, cap, cur, rfl, _, hg, hnc, hcm, hcs, htk⟩
  · refine Calls.mono (hN none 0 _ σ.w) ?_
    rintro e' w' ⟨rfl, rfl⟩
    have hD0 : D = [] := List.eq_nil_of_length_eq_zero hn0
    subst hD0
    exact hk' _ σ (StpL.refl _ _) ⟨[], List.Perm.refl _, List.Pairwise.nil, us, ⟨hl, .inl ⟨rfl, rfl⟩⟩, hl2, hty, hst⟩
  · have hgk := hst gb rfl
    have hgs := (Array.getElem?_eq_some_iff.1 hg).1
    rw [Nat.mul_one] at hl hcs htk
    rw [List.length_map] at hl2
    have hel : ∀ i : Fin D.length, (Ty.ints (D[i.1]'i.2)).has σ (us[i.1]'(by omega)) := fun i => hty i.1 _ _ (by simp) (by simp [hl])
    let dd : Array (Elt σ) := (List.ofFn fun i : Fin D.length => (⟨(us[i.1]'(by omega), D[i.1]'i.2), hel i⟩ : Elt σ)).toArray
    have hds : dd.size = D.length := by show (List.ofFn _).length = _; exact List.length_ofFn
    have hdg : ∀ j (hj : j < D.length), dd[j]! = ⟨(us[j]'(by omega), D[j]), hel ⟨j, hj⟩⟩ := fun j hj => by
      rw [getElem!_pos dd j (by omega)]; show (List.ofFn _)[j]'_ = _; exact List.getElem_ofFn _
    have hcu : ∀ j, j < D.length → cur[j]? = us[j]? := fun j hj => by
      rw [← htk, List.getElem?_take, if_pos hj]; simp
    have hH : Holds (Elt.enc (σ := σ)) σ.w gb 0 dd := fun j hj => by
      rw [hds] at hj
      rw [Nat.zero_add]
      constructor
      · rw [hdg j hj]
        simp only [World.cell?, hg]
        rw [hcu j hj]
        simp [Elt.enc, show j < us.length by omega]
      · simp [World.frozen?, hg]
    have hC : CmpLays1 P g #[] (Elt.enc (σ := σ)) Elt.cf gb 0 dd.size σ.w := fun m os dk _ x y => by
      let σ' : GW := ⟨sortWorld Elt.enc σ.w gb 0 m dk os, fun b => if σ.st b = 1 then 1 else 0, fun b hb => by
        refine Nat.lt_of_lt_of_le (σ.lt b ?_) size_sortWorld
        intro e; rw [e] at hb; simp at hb⟩
      have hle : σ.Le σ' := ⟨fun b hb => by show (if σ.st b = 1 then 1 else 0) = 1; rw [if_pos hb], fun b hb => by
        have := σ.lt b (by omega)
        show (sortWorld _ _ _ _ _ _ _).heap[b]? = _
        rw [heap_sortWorld this, if_neg (by rintro rfl; omega)]⟩
      refine Calls.mono (hcmp σ' x.1.1 y.1.1 x.1.2 y.1.2 (Ty.up _ hle x.2) (Ty.up _ hle y.2)) ?_
      rintro e' w' ⟨rfl, rfl⟩
      exact ⟨rfl, 0, #[], by rw [grow_empty]; rfl⟩
    have hcon := hS (Elt σ) Elt.enc Elt.one Elt.cf (Elt.swo σ) gb 0 cap dd σ.w hC hH hgs (by omega)
    rw [hds] at hcon
    refine Calls.mono hcon ?_
    rintro e' w' ⟨rfl, d', n', os, ⟨p1, _, p3⟩, hso, rfl⟩
    have hex : ∀ q : Array (Elt σ), q.size = D.length → (q.extract 0 D.length).toList = q.toList := fun q hq => by
      rw [← hq, Array.extract_size]
    rw [hex d' (by omega), hex dd hds] at p3
    have hmap : dd.toList.map (fun z => z.1.2) = D := by
      apply List.ext_getElem
      · rw [List.length_map]; exact hds
      · intro i h1 h2
        have h3 := hdg i h2
        rw [getElem!_pos dd i (by omega)] at h3
        rw [List.getElem_map, Array.getElem_toList, h3]
    have hlt : ∀ b, b < σ.w.heap.size → b < (sortWorld Elt.enc σ.w gb 0 n' d' os).heap.size := fun b hb => Nat.lt_of_lt_of_le hb size_sortWorld
    let ρ : GW := ⟨sortWorld Elt.enc σ.w gb 0 n' d' os, fun b => σ.st b, fun b hb => hlt b (σ.lt b hb)⟩
    have hne : ∀ b, σ.st b ≠ k → gb ≠ b := fun b hb e => hb (e ▸ hgk)
    have hst2 : StpL [k] σ ρ := ⟨rfl, rfl, rfl, by (refine .inl ?_; show σ.w.drawn ≤ σ.w.drawn + n'; omega), size_sortWorld, fun b hb hm => by
      show (sortWorld _ _ _ _ _ _ _).heap[b]? = _
      rw [heap_sortWorld hb, if_neg (hne b (by simpa using hm))], fun _ _ _ => rfl⟩
    refine hk' _ ρ hst2 ⟨d'.toList.map (fun z => z.1.2), ?_, ?_, ?_⟩
    · have := p3.map (fun z : Elt σ => z.1.2)
      rwa [hmap] at this
    · rw [List.pairwise_map, List.pairwise_iff_getElem]
      intro i j hi hj hij
      have hj' : j < d'.size := by simpa using hj
      have := hso i j (Nat.zero_le _) hij (by omega)
      rw [getElem!_pos d' i (by omega), getElem!_pos d' j hj', Elt.lt] at this
      unfold leL
      simp only [Array.getElem_toList, this, Bool.not_false]
    · have hd's : d'.size = D.length := by omega
      have hg2 : ρ.w.heap[gb]? = some (.cells (putCells Elt.enc 0 d' cur) e (0, 0)) := by
        show (sortWorld _ _ _ _ _ _ _).heap[gb]? = _
        rw [heap_sortWorld hgs, if_pos rfl, hg]; rfl
      have htake : (putCells Elt.enc 0 d' cur).toList.take (D.length * 1) = d'.toList.map Elt.enc := by
        rw [Nat.mul_one]
        apply List.ext_getElem
        · simp [putCells]; omega
        · intro i h1 h2
          simp only [List.length_map, Array.length_toList] at h2
          simp [putCells, h2]
      refine Own.intro (us := d'.toList.map Elt.enc) hg2 hgk hnc hcm (by simp [putCells, hcs]) htake (by simp) fun j T u hT hu => ?_
      rw [List.getElem?_map, List.getElem?_map] at hT
      rw [List.getElem?_map] at hu
      obtain ⟨z, hz⟩ : ∃ z, d'.toList[j]? = some z := by
        cases hq : d'.toList[j]? with
        | none => rw [hq] at hu; simp at hu
        | some z => exact ⟨z, rfl⟩
      rw [hz] at hT hu
      simp at hT hu
      subst hT; subst hu
      exact Ty.up _ (hst2.le (by simp; omega)) z.2
end Go.KL

/- From a row's reading of its arguments to semantic types, and from a law's contract back to the row. -/
namespace Go.KL
open Go.ChangeShapes Go.WideShapes Go.ChangeAt Go.RowKit Go.Deep
variable {P : Program}

def GW.all (W : World) : GW := ⟨W, fun b => if b < W.heap.size then 1 else 0, fun b h => by
  by_cases hb : b < W.heap.size
  · exact hb
  · simp [hb] at h⟩

structure Bulk {H : Type} (B : DataW H → Nat) (BA : List (DataW H) → Nat) : Prop where
  one : ∀ d, 1 ≤ B d
  str : ∀ l, B (.lit (.string l)) = l.length + 1
  slice : ∀ es sp, B (.slice es sp) = BA es + BA sp + 1
  agg : ∀ ps, B (.agg ps) = BA ps + 1
  nil : BA [] = 0
  cons : ∀ d r, BA (d :: r) = B d + BA r

def Rd (P : Program) (t : TypeId) {α : Type} (cells : α → List Ty) (wf : α → Prop) (sz : α → Nat) (rc : α → Prop) : Prop :=
  ∀ (H : Type) (enc : TypeId × Value → H) (B : DataW H → Nat) (BA : List (DataW H) → Nat), Bulk B BA → ∀ (W : World) (fuel : Nat) (cs : List Value) (d : DataW H) (ps : List MemPlace),
    DataW.trod enc P W 0 (fun _ => true) true fuel t cs = some (d, ps) → ∃ x : α, wf x ∧ sz x ≤ B d ∧ ((d.weights P t).all (· ≤ reachBytes) = true → rc x) ∧ cs.length = (cells x).length ∧
      ∀ (j : Nat) (T : Ty) (u : Value), (cells x)[j]? = some T → cs[j]? = some u → T.has (GW.all W) u

theorem one_cell {T : Ty} {v : Value} {σ : GW} (h : T.has σ v) : ∀ (j : Nat) (U : Ty) (u : Value), [T][j]? = some U → [v][j]? = some u → U.has σ u := by
  intro j U u h1 h2
  match j with
  | 0 => simp at h1 h2; subst h1; subst h2; exact h
  | j + 1 => simp at h1

theorem rd_int {t : TypeId} {k : IntKind} (ht : P.underlying t = some (.int k)) : Rd P t (fun n : Int => [Ty.val (.int k n)]) (fun n => (Lit.int k n).wf = true) (fun _ => 1) (fun _ => True) := by
  intro H enc B BA hB W fuel cs d ps h
  obtain ⟨n, rfl, e, hw⟩ := DataW.trod_int ht h
  obtain ⟨rfl, rfl⟩ := Prod.mk.inj e
  exact ⟨n, hw, hB.one _, fun _ => trivial, rfl, one_cell rfl⟩
theorem BA_map {H : Type} {B : DataW H → Nat} {BA : List (DataW H) → Nat} (hB : Bulk B BA) {α : Type} (sz : α → Nat) : ∀ (xs : List α) (D : List (DataW H)), xs.length = D.length → (∀ (i : Nat) x d, xs[i]? = some x → D[i]? = some d → sz x ≤ B d) → (xs.map sz).sum ≤ BA D
  | [], [], _, _ => by simp
  | x :: xs, d :: D, hl, h => by
    rw [hB.cons, List.map_cons, List.sum_cons]
    have h0 := h 0 x d rfl rfl
    have := BA_map hB sz xs D (by simpa using hl) (fun i y e hy he => h (i + 1) y e (by simpa using hy) (by simpa using he))
    omega

theorem weightsAll_mem {H : Type} {e : TypeId} : ∀ {D : List (DataW H)} {d : DataW H}, d ∈ D → ∀ n, n ∈ d.weights P e → n ∈ DataW.weightsAll P e D
  | x :: D, d, h, n, hn => by
    simp only [DataW.weightsAll, List.mem_append]
    rcases List.mem_cons.1 h with rfl | h
    · exact .inl hn
    · exact .inr (weightsAll_mem h n hn)

theorem spot_none {w : World} {a : Addr} {v : Value} (h : w.cell? a = some v) : a.spot = none := by
  unfold World.cell? at h
  split at h
  · split at h
    · cases h
    · rename_i hs; simpa using hs
  · cases h

theorem rd_slice {t e c : TypeId} {α : Type} {cells : α → List Ty} {wf : α → Prop} {sz : α → Nat} {rc : α → Prop} (ht : P.underlying t = some (.slice e)) (hc : P.cellsOf e = c) (hc0 : 0 < c) (he : Rd P e cells wf sz rc) (hcl : ∀ x, wf x → (cells x).length = c) :
    Rd P t (fun xs : List α => [Ty.sl c xs.length (xs.flatMap cells)]) (fun xs => xs.length ≤ maxLen ∧ ∀ x ∈ xs, wf x) (fun xs => (xs.map sz).sum + 1) (fun xs => xs.length * P.bytesOf e ≤ reachBytes ∧ ∀ x ∈ xs, rc x) := by
  intro H enc B BA hB W fuel cs d ps h
  rcases open_slice ht h with ⟨rfl, e1⟩ | ⟨a, len, cap, m, n, D, Pl, rfl, _, hlen, hcap, hm, e1, hel⟩
  · obtain ⟨rfl, rfl⟩ := Prod.mk.inj e1
    exact ⟨[], ⟨Nat.zero_le _, fun x h => by cases h⟩, by simpa using hB.one _, fun _ => ⟨by simp, fun x h => by cases h⟩, rfl, one_cell ⟨none, 0, 0, 0, rfl, ⟨Nat.le_refl _, by decide⟩, by simp, .inl rfl, fun j T hj => by simp at hj⟩⟩
  · obtain ⟨rfl, rfl⟩ := Prod.mk.inj e1
    subst hc
    simp only [if_true] at hm
    subst hm
    have hx : ∀ i : Fin len, ∃ x : α, ∃ cs' : List Value, W.cells? 0 (a.add (i * P.cellsOf e)) (P.cellsOf e) = some cs' ∧ wf x ∧ sz x ≤ B (D i) ∧ (((D i).weights P e).all (· ≤ reachBytes) = true → rc x) ∧ cs'.length = (cells x).length ∧
        ∀ (j : Nat) (T : Ty) (u : Value), (cells x)[j]? = some T → cs'[j]? = some u → T.has (GW.all W) u := by
      intro i
      obtain ⟨cs', h1, h2⟩ := hel i (by omega)
      obtain ⟨x, hx⟩ := he H enc B BA hB W n cs' _ _ h2
      exact ⟨x, cs', h1, hx⟩
    let f : Fin len → α := fun i => Classical.choose (hx i)
    have hf : ∀ i : Fin len, ∃ cs' : List Value, W.cells? 0 (a.add (i * P.cellsOf e)) (P.cellsOf e) = some cs' ∧ wf (f i) ∧ sz (f i) ≤ B (D i) ∧ (((D i).weights P e).all (· ≤ reachBytes) = true → rc (f i)) ∧ cs'.length = (cells (f i)).length ∧
        ∀ (j : Nat) (T : Ty) (u : Value), (cells (f i))[j]? = some T → cs'[j]? = some u → T.has (GW.all W) u := fun i => Classical.choose_spec (hx i)
    have hlf : (List.ofFn f).length = len := by simp
    have hget : ∀ (i : Nat) (x : α), (List.ofFn f)[i]? = some x → ∃ hi : i < len, x = f ⟨i, hi⟩ := fun i x h => by
      have hi : i < len := by have := (List.getElem?_eq_some_iff.1 h).1; simpa using this
      refine ⟨hi, ?_⟩
      rw [List.getElem?_ofFn] at h
      simp [hi] at h
      exact h.symm
    have hmem : ∀ x ∈ List.ofFn f, ∃ i : Fin len, x = f i := fun x h => by
      obtain ⟨i, hi⟩ := List.mem_iff_getElem?.1 h
      obtain ⟨hi', rfl⟩ := hget i x hi
      exact ⟨⟨i, hi'⟩, rfl⟩
    have hwf : ∀ x ∈ List.ofFn f, wf x := fun x h => by
      obtain ⟨i, rfl⟩ := hmem x h
      obtain ⟨_, _, h1, _⟩ := hf i
      exact h1
    have hflat : ∀ (xs : List α), (∀ x ∈ xs, wf x) → (xs.flatMap cells).length = xs.length * P.cellsOf e := fun xs h => by
      induction xs with
      | nil => simp
      | cons x xs ih =>
        rw [List.flatMap_cons, List.length_append, hcl x (h x (by simp)), ih (fun y hy => h y (by simp [hy])), List.length_cons, Nat.succ_mul]; omega
    refine ⟨List.ofFn f, ⟨by rw [hlf]; omega, hwf⟩, ?_, fun hr => ⟨?_, fun x h => ?_⟩, rfl, one_cell ?_⟩
    · rw [hB.slice]
      have := BA_map hB sz (List.ofFn f) ((List.range len).map D) (by simp) (fun i x d hx hd => by
        obtain ⟨hi, rfl⟩ := hget i x hx
        obtain ⟨_, _, _, h2, _⟩ := hf ⟨i, hi⟩
        rw [List.getElem?_map, List.getElem?_range hi] at hd
        simp at hd; subst hd; exact h2)
      show (List.map sz (List.ofFn f)).sum + 1 ≤ _
      omega
    · rw [hlf]
      have : (((List.range len).map D).length + ((List.range (m - len)).map fun j => D (len + j)).length) * P.bytesOf e ≤ reachBytes := by
        have := List.all_eq_true.1 hr _ (by simp only [DataW.weights, ht]; exact List.mem_cons_self)
        simpa using this
      refine Nat.le_trans (Nat.mul_le_mul_right _ ?_) this
      simp
    · obtain ⟨i, rfl⟩ := hmem x h
      obtain ⟨_, _, _, _, h3, _⟩ := hf i
      refine h3 (List.all_eq_true.2 fun k hk => ?_)
      refine List.all_eq_true.1 hr k ?_
      simp only [DataW.weights, ht]
      refine List.mem_cons_of_mem _ (List.mem_append.2 (.inl (weightsAll_mem (D := List.map D (List.range len)) (d := D i.val) (List.mem_map.2 ⟨i.val, List.mem_range.2 i.2, rfl⟩) k hk)))
    · -- the cells
      by_cases h0 : len = 0
      · have e0 : List.ofFn f = [] := List.eq_nil_of_length_eq_zero (by rw [hlf, h0])
        rw [e0, h0]
        exact ⟨some a, m, 0, 0, rfl, ⟨Nat.zero_le _, hcap⟩, by simp, .inl rfl, fun j T hj => by simp at hj⟩
      · have hcell : ∀ (i : Fin len) (k : Nat) (T : Ty), (cells (f i))[k]? = some T → ∃ u, W.cell? ((a.add (i * P.cellsOf e)).add k) = some u ∧ T.has (GW.all W) u := fun i k T hT => by
          obtain ⟨cs', h1, h2, _, _, h5, h6⟩ := hf i
          have hk : k < cs'.length := by rw [h5]; exact (List.getElem?_eq_some_iff.1 hT).1
          refine ⟨cs'[k], ?_, h6 k T _ hT (by simp [hk])⟩
          have hkc : k < P.cellsOf e := by rw [← hcl _ h2, ← h5]; exact hk
          unfold World.cells? at h1
          rw [if_pos (Nat.zero_le _)] at h1
          have := mapM_some_get h1 k k (by rw [List.getElem?_range hkc])
          rw [this]; simp [hk]
        have hspot : a.spot = none := by
          obtain ⟨cs', h1, h2, _, _, h5, h6⟩ := hf ⟨0, by omega⟩
          have h7 : 0 < (cells (f ⟨0, by omega⟩)).length := by rw [hcl _ h2]; exact hc0
          obtain ⟨u, hu, _⟩ := hcell ⟨0, by omega⟩ 0 _ (List.getElem?_eq_getElem h7)
          simp [Addr.add] at hu
          exact spot_none hu
        obtain ⟨ab, ao, asp⟩ := a
        simp only at hspot
        subst hspot
        have hlt : ab < W.heap.size := by
          obtain ⟨cs', h1, h2, _, _, h5, h6⟩ := hf ⟨0, by omega⟩
          have h7 : 0 < (cells (f ⟨0, by omega⟩)).length := by rw [hcl _ h2]; exact hc0
          obtain ⟨u, hu, _⟩ := hcell ⟨0, by omega⟩ 0 _ (List.getElem?_eq_getElem h7)
          simp [Addr.add] at hu
          exact World.block_lt_of_cell? _ _ hu
        refine ⟨some ⟨ab, ao, none⟩, m, ab, ao, by rw [hlf], ⟨by omega, hcap⟩, hflat _ hwf, .inr ⟨rfl, by simp [GW.all, hlt]⟩, fun j T hj => ?_⟩
        -- cell j is cell j % c of element j / c
        have key : ∀ (xs : List α) (o : Nat), (∀ x ∈ xs, wf x) → (∀ (i : Nat) x, xs[i]? = some x → ∀ (k : Nat) (T : Ty), (cells x)[k]? = some T → ∃ u, W.cell? ⟨ab, o + i * P.cellsOf e + k, none⟩ = some u ∧ T.has (GW.all W) u) →
            ∀ (j : Nat) (T : Ty), (xs.flatMap cells)[j]? = some T → ∃ u, W.cell? ⟨ab, o + j, none⟩ = some u ∧ T.has (GW.all W) u := by
          intro xs
          induction xs with
          | nil => intro o _ _ j T hj; simp at hj
          | cons x xs ih =>
            intro o hw hc j T hj
            rw [List.flatMap_cons] at hj
            have hlx := hcl x (hw x (by simp))
            by_cases hjl : j < (cells x).length
            · rw [List.getElem?_append_left hjl] at hj
              have := hc 0 x rfl j T hj
              simpa using this
            · rw [List.getElem?_append_right (by omega)] at hj
              have := ih (o + P.cellsOf e) (fun y hy => hw y (by simp [hy])) (fun i y hy k T hT => by
                have := hc (i + 1) y (by simpa using hy) k T hT
                rw [Nat.succ_mul] at this
                rw [show o + P.cellsOf e + i * P.cellsOf e + k = o + (i * P.cellsOf e + P.cellsOf e) + k by omega]
                exact this) _ T hj
              rw [hlx] at this hjl
              rwa [show o + P.cellsOf e + (j - P.cellsOf e) = o + j by omega] at this
        refine key (List.ofFn f) ao hwf (fun i x hx k T hT => ?_) j T hj
        obtain ⟨hi, rfl⟩ := hget i x hx
        have := hcell ⟨i, hi⟩ k T hT
        simp only [Addr.add_lit] at this
        exact this

theorem Rd.conv {t : TypeId} {α β : Type} {cells : α → List Ty} {wf : α → Prop} {sz : α → Nat} {rc : α → Prop} {cells' : β → List Ty} {wf' : β → Prop} {sz' : β → Nat} {rc' : β → Prop} (h : Rd P t cells wf sz rc) (g : α → β)
    (hg : ∀ x, wf x → wf' (g x) ∧ sz' (g x) ≤ sz x ∧ (rc x → rc' (g x)) ∧ cells' (g x) = cells x) : Rd P t cells' wf' sz' rc' := by
  intro H enc B BA hB W fuel cs d ps ht
  obtain ⟨x, h1, h2, h3, h4, h5⟩ := h H enc B BA hB W fuel cs d ps ht
  obtain ⟨g1, g2, g3, g4⟩ := hg x h1
  exact ⟨g x, g1, Nat.le_trans g2 h2, fun h => g3 (h3 h), by rw [g4]; exact h4, by rw [g4]; exact h5⟩

theorem flatMap_one {α : Type} (f : α → Ty) (xs : List α) : xs.flatMap (fun x => [f x]) = xs.map f := by
  induction xs with
  | nil => rfl
  | cons x xs ih => simp [ih]

theorem rd_lst {t e : TypeId} {α : Type} {f : α → Ty} {wf : α → Prop} {sz : α → Nat} {rc : α → Prop} (ht : P.underlying t = some (.slice e)) (hc : P.cellsOf e = 1) (he : Rd P e (fun x => [f x]) wf sz rc) :
    Rd P t (fun xs : List α => [Ty.lst f xs]) (fun xs => xs.length ≤ maxLen ∧ ∀ x ∈ xs, wf x) (fun xs => (xs.map sz).sum + 1) (fun xs => xs.length * P.bytesOf e ≤ reachBytes ∧ ∀ x ∈ xs, rc x) :=
  (rd_slice ht hc (by decide) he (fun _ _ => rfl)).conv id fun x h => ⟨h, Nat.le_refl _, id, by simp [flatMap_one, Ty.lst]⟩

/-! ### Back to the row -/
theorem trodAll_stays {H : Type} {enc : TypeId × Value → H} (hl : laidOutB P = true) {W W' : World} (hb : Below W.heap.size W W') : ∀ {ts : List TypeId} {vs : List Value} {ds : List (DataW H)} {ps : List MemPlace},
    DataW.TrodAll enc P W 0 (fun _ => true) true ts vs ds ps → (ts.all fun t => P.readableRec t && decide (t < P.types.size)) = true → (∀ x ∈ ps, x.block < W.heap.size) → DataW.TrodAll enc P W' 0 (fun b => decide (b < W.heap.size)) true ts vs ds ps
  | [], [], [], ps, h, _, _ => h
  | t :: ts, v :: vs, d :: ds, ps, h, ha, hp => by
    obtain ⟨p, q, h1, h2, rfl⟩ := h
    simp only [List.all_cons, Bool.and_eq_true, decide_eq_true_eq] at ha
    exact ⟨p, q, Below.trod hl ha.1.1 ha.1.2 h1 hb (fun x hx => hp x (List.mem_append.2 (.inl hx))), trodAll_stays hl hb h2 ha.2 (fun x hx => hp x (List.mem_append.2 (.inr hx))), rfl⟩
  | [], [], _ :: _, _, h, _, _ => h.elim
  | [], _ :: _, _, _, h, _, _ => h.elim
  | _ :: _, [], _, _, h, _, _ => h.elim
  | _ :: _, _ :: _, [], _, h, _, _ => h.elim

theorem law_post {H : Type} {enc : TypeId × Value → H} {fn : Func} {f : FuncId} {s : ChangeSpec} {W : World} {args : Array Value} {ds gs : List (DataW H)} {before : List MemPlace} {tb : TypeId}
    (hres : fn.resultTypes = #[tb]) (hb : P.underlying tb = some .bool) (hl : laidOutB P = true) (hr : (fn.params.toList.all fun t => P.readableRec t && decide (t < P.types.size)) = true)
    (hW : DataW.Whole enc P fn.params.toList s.vars false W args.toList ds gs before) (hv : s.vars = []) (hs : s.fn H (ds ++ gs) = { results := [.lit (.bool true)], args := ds })
    (hc : FnC P f args (GW.all W) (Ty.bool true)) : Calls P f args W fun e W' => ∃ v, e = .returned v ∧ s.post enc P fn false true false false W args v W' := by
  refine Calls.mono hc ?_
  rintro e W' ⟨v, τ, rfl, hstp, rfl, hvv⟩
  have hbel : Below W.heap.size W τ.w := ⟨hstp.os, hstp.tape, hstp.output, hstp.size, fun k hk => hstp.blk k hk (.inl rfl)⟩
  have hW' := hW
  obtain ⟨p, q, hA, hV, rfl, _, _⟩ := hW
  have hq : q = [] := by
    rw [hv] at hV
    cases gs with
    | nil => exact hV
    | cons _ _ => exact hV.elim
  subst hq
  have hgs : gs = [] := by
    rw [hv] at hV
    cases gs with
    | nil => rfl
    | cons _ _ => exact hV.elim
  subst hgs
  have hvv' : v = .bool true := hvv
  subst hvv'
  refine ⟨_, rfl, ds, [], _, [], p, [], hW', ?_, ?_, ?_, hbel.frame _, fun h => by cases h⟩
  · rw [hs, hres]
    exact trodAll_mk1 (shut_bool hb true)
  · rw [hs]
    exact trodAll_stays hl hbel hA hr (fun x hx => hW'.lt x (List.mem_append.2 (.inl hx)))
  · rw [hs, hv]; rfl

theorem arg_one {H : Type} {enc : TypeId × Value → H} {B : DataW H → Nat} {BA : List (DataW H) → Nat} (hB : Bulk B BA) {W : World} {t : TypeId} {v : Value} {d : DataW H} {ps : List MemPlace} {α : Type} {T : α → Ty} {wf : α → Prop} {sz : α → Nat} {rc : α → Prop}
    (h : Rd P t (fun x => [T x]) wf sz rc) (hone : v.cells = #[v]) (ht : DataW.Trod enc P W 0 (fun _ => true) true t v d ps) : ∃ x : α, wf x ∧ sz x ≤ B d ∧ ((d.weights P t).all (· ≤ reachBytes) = true → rc x) ∧ (T x).has (GW.all W) v := by
  obtain ⟨fuel, hf⟩ := ht
  rw [hone] at hf
  obtain ⟨x, h1, h2, h3, _, h5⟩ := h H enc B BA hB W fuel _ d ps hf
  exact ⟨x, h1, h2, h3, h5 0 _ _ rfl rfl⟩
theorem one_slice {e : TypeId} {w : World} {r : Reach} {base : Nat} {t : TypeId} {v : Value} (ht : P.underlying t = some (.slice e)) (h : Value.okWide P w r base t v) : v.cells = #[v] := by
  obtain ⟨a, l, c, rfl⟩ := okWide_slice ht h; rfl
theorem weightsEach_cons {H : Type} {t : TypeId} {ts : List TypeId} {d : DataW H} {ds : List (DataW H)} (h : (DataW.weightsEach P (t :: ts) (d :: ds)).all (· ≤ reachBytes) = true) : (d.weights P t).all (· ≤ reachBytes) = true ∧ (DataW.weightsEach P ts ds).all (· ≤ reachBytes) = true := by
  simpa [DataW.weightsEach, List.all_append] using h
end Go.KL

