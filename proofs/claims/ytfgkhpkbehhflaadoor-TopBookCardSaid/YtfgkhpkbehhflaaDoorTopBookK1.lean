/- The ground of a small logic of walks: ghost worlds, semantic types, one rule for a region in every order. -/
import Derived.WalkKit
import Derived.WalkSpells
import Derived.WalkLawsBesides
import Derived.Orders
import Derived.Deep.MidRow
import Derived.Deep.Upon
namespace Go.KL

structure GW where
  w : World
  st : Nat → Nat
  lt : ∀ b, st b ≠ 0 → b < w.heap.size

structure GW.Le (σ τ : GW) : Prop where
  st : ∀ b, σ.st b = 1 → τ.st b = 1
  blk : ∀ b, σ.st b = 1 → τ.w.heap[b]? = σ.w.heap[b]?

theorem GW.Le.refl (σ : GW) : σ.Le σ := ⟨fun _ h => h, fun _ _ => rfl⟩
theorem GW.Le.trans {σ τ ρ : GW} (h : σ.Le τ) (k : τ.Le ρ) : σ.Le ρ :=
  ⟨fun b hb => k.st b (h.st b hb), fun b hb => (k.blk b (h.st b hb)).trans (h.blk b hb)⟩

def lax : Prop := True
def Dr (m n : Nat) : Prop := m ≤ n ∨ lax
theorem Dr.refl (n : Nat) : Dr n n := .inl (Nat.le_refl n)
theorem Dr.trans {m n k : Nat} (h : Dr m n) (g : Dr n k) : Dr m k := h.elim (fun h => g.elim (fun g => .inl (Nat.le_trans h g)) .inr) .inr
structure Stp (m : Nat) (σ τ : GW) : Prop where
  os : τ.w.os = σ.w.os
  tape : τ.w.tape = σ.w.tape
  output : τ.w.output = σ.w.output
  dr : Dr σ.w.drawn τ.w.drawn
  size : σ.w.heap.size ≤ τ.w.heap.size
  blk : ∀ b, b < σ.w.heap.size → (m = 0 ∨ σ.st b ≠ m) → τ.w.heap[b]? = σ.w.heap[b]?
  st : ∀ b, b < σ.w.heap.size → (m = 0 ∨ σ.st b ≠ m) → τ.st b = σ.st b

theorem Stp.refl (m : Nat) (σ : GW) : Stp m σ σ := ⟨rfl, rfl, rfl, Dr.refl _, Nat.le_refl _, fun _ _ _ => rfl, fun _ _ _ => rfl⟩
theorem Stp.trans {m : Nat} {σ τ ρ : GW} (h : Stp m σ τ) (k : Stp m τ ρ) : Stp m σ ρ :=
  ⟨k.os.trans h.os, k.tape.trans h.tape, k.output.trans h.output, h.dr.trans k.dr, Nat.le_trans h.size k.size,
   fun b hb hm => (k.blk b (Nat.lt_of_lt_of_le hb h.size) (by rw [h.st b hb hm]; exact hm)).trans (h.blk b hb hm),
   fun b hb hm => (k.st b (Nat.lt_of_lt_of_le hb h.size) (by rw [h.st b hb hm]; exact hm)).trans (h.st b hb hm)⟩
theorem Stp.of0 {m : Nat} {σ τ : GW} (h : Stp 0 σ τ) : Stp m σ τ :=
  ⟨h.os, h.tape, h.output, h.dr, h.size, fun b hb _ => h.blk b hb (.inl rfl), fun b hb _ => h.st b hb (.inl rfl)⟩
theorem Stp.le {m : Nat} {σ τ : GW} (h : Stp m σ τ) (hm : m ≠ 1) : σ.Le τ :=
  ⟨fun b hb => (h.st b (σ.lt b (by omega)) (.inr (by omega))).trans hb, fun b hb => h.blk b (σ.lt b (by omega)) (.inr (by omega))⟩
theorem Stp.le0 {σ τ : GW} (h : Stp 0 σ τ) : σ.Le τ := h.le (by decide)

structure From (σ τ : GW) : Prop where
  os : τ.w.os = σ.w.os
  tape : τ.w.tape = σ.w.tape
  output : τ.w.output = σ.w.output
  dr : Dr σ.w.drawn τ.w.drawn
  size : σ.w.heap.size ≤ τ.w.heap.size
  blk : ∀ b, b < σ.w.heap.size → τ.w.heap[b]? = σ.w.heap[b]?
  st : ∀ b, b < σ.w.heap.size → τ.st b = σ.st b ∧ τ.st b ≤ 1

theorem From.step {m : Nat} {σ τ ρ : GW} (h : From σ τ) (k : Stp m τ ρ) (hm : m ≠ 1) : From σ ρ :=
  have hx : ∀ b, b < σ.w.heap.size → m = 0 ∨ τ.st b ≠ m := fun b hb => by have := (h.st b hb).2; omega
  ⟨k.os.trans h.os, k.tape.trans h.tape, k.output.trans h.output, h.dr.trans k.dr, Nat.le_trans h.size k.size,
   fun b hb => (k.blk b (Nat.lt_of_lt_of_le hb h.size) (hx b hb)).trans (h.blk b hb),
   fun b hb => by
    have e := k.st b (Nat.lt_of_lt_of_le hb h.size) (hx b hb)
    rw [e]; exact h.st b hb⟩
theorem From.step0 {σ τ ρ : GW} (h : From σ τ) (k : Stp 0 τ ρ) : From σ ρ := h.step k (by decide)
theorem From.le {σ τ : GW} (h : From σ τ) : σ.Le τ :=
  ⟨fun b hb => (h.st b (σ.lt b (by omega))).1.trans hb, fun b hb => h.blk b (σ.lt b (by omega))⟩

structure Pr where
  has : GW → Value → Prop
  up : ∀ {σ τ : GW} {v : Value}, Stp 0 σ τ → has σ v → has τ v

structure Ty where
  has : GW → Value → Prop
  up : ∀ {σ τ : GW} {v : Value}, σ.Le τ → has σ v → has τ v

abbrev Ty.pr (T : Ty) : Pr := ⟨T.has, fun h => T.up h.le0⟩
def Pr.any : Pr := ⟨fun _ _ => True, fun _ h => h⟩

def Ty.val (v : Value) : Ty := ⟨fun _ u => u = v, fun _ h => h⟩
abbrev Ty.int (n : Int) : Ty := .val (.int .i64 n)
abbrev Ty.nat (n : Nat) : Ty := .int (n : Int)
abbrev Ty.bool (b : Bool) : Ty := .val (.bool b)
def Ty.grd (p : Prop) (T : Ty) : Ty := ⟨fun σ u => (p → T.has σ u) ∧ (¬ p → u = undef), fun h k => ⟨fun hp => T.up h (k.1 hp), k.2⟩⟩
def Ty.tup2 (T U : Ty) : Ty := ⟨fun σ u => ∃ x y, u = .tuple #[x, y] ∧ T.has σ x ∧ U.has σ y, fun h ⟨x, y, e, a, b⟩ => ⟨x, y, e, T.up h a, U.up h b⟩⟩
def Ty.tup3 (T U V : Ty) : Ty := ⟨fun σ u => ∃ x y z, u = .tuple #[x, y, z] ∧ T.has σ x ∧ U.has σ y ∧ V.has σ z, fun h ⟨x, y, z, e, a, b, c⟩ => ⟨x, y, z, e, T.up h a, U.up h b, V.up h c⟩⟩

def Cells (σ : GW) (b o : Nat) (ts : List Ty) : Prop :=
  ∀ j T, ts[j]? = some T → ∃ u, σ.w.cell? ⟨b, o + j, none⟩ = some u ∧ T.has σ u

theorem Cells.up {σ τ : GW} {b o : Nat} {ts : List Ty} (h : σ.Le τ) (hb : ts = [] ∨ σ.st b = 1) (hc : Cells σ b o ts) : Cells τ b o ts := by
  intro j T hj
  obtain ⟨u, hu, hT⟩ := hc j T hj
  rcases hb with rfl | hb
  · simp at hj
  · exact ⟨u, by rw [World.cell?_of_block (w := σ.w) (h.blk b hb)]; exact hu, T.up h hT⟩

def Ty.sl (c n : Nat) (ts : List Ty) : Ty where
  has σ v := ∃ a cap b o, v = .slice a n cap ∧ (n ≤ cap ∧ cap ≤ 9223372036854775807) ∧ ts.length = n * c ∧ (ts = [] ∨ (a = some ⟨b, o, none⟩ ∧ σ.st b = 1)) ∧ Cells σ b o ts
  up h := by
    rintro ⟨a, cap, b, o, e, hn, hl, hs, hc⟩
    refine ⟨a, cap, b, o, e, hn, hl, hs.imp id (fun x => ⟨x.1, h.st b x.2⟩), hc.up h (hs.imp id (fun x => x.2))⟩

def Ty.ref (ts : List Ty) : Ty where
  has σ v := ∃ b o, v = .pointer (some ⟨b, o, none⟩) ∧ σ.st b = 1 ∧ Cells σ b o ts
  up h := by
    rintro ⟨b, o, e, hs, hc⟩
    exact ⟨b, o, e, h.st b hs, hc.up h (.inr hs)⟩

abbrev Ty.lst {α : Type} (f : α → Ty) (xs : List α) : Ty := .sl 1 xs.length (xs.map f)
abbrev Ty.ints (xs : List Int) : Ty := .lst .int xs
abbrev Ty.rows (xss : List (List Int)) : Ty := .lst .ints xss

/-! ### Frames -/
structure Ok (N : Nat) (D : List Deferred) (a : Act) : Prop where
  size : a.tmps.size = N
  defers : a.defers = D

abbrev At (T : Ty) (σ : GW) (a : Act) (x : Operand) : Prop := T.has σ (a.eval x)

theorem Ok.put {N : Nat} {D : List Deferred} {a : Act} (h : Ok N D a) (d : Option Tmp) (v : Value) : Ok N D (a.put d v) := by
  cases d with
  | none => exact h
  | some d => exact ⟨by simp [Act.put, h.size], h.defers⟩
theorem eval_put_same {N : Nat} {D : List Deferred} {a : Act} (h : Ok N D a) {d : Nat} (hd : d < N) (v : Value) : (a.put (some d) v).eval (.tmp d) = v := by
  simp [Act.eval, Act.put, h.size, hd]
theorem eval_put_ne {a : Act} {d : Option Nat} {t : Nat} (hd : d ≠ some t) (v : Value) : (a.put d v).eval (.tmp t) = a.eval (.tmp t) := by
  cases d with
  | none => rfl
  | some d => exact Act.eval_put (fun e he => by cases he; intro h; cases h; exact hd rfl)

/-! ### One operation -/
variable {P : Program}
def Yld (P : Program) (o : Oper) (a : Act) (σ : GW) (R : Pr) : Prop :=
  ∀ (K : Act → World → Prop) (Q : Exit → Act → World → Prop), (∀ v τ, Stp 0 σ τ → R.has τ v → K (a.put o.dst v) τ.w) → o.wp P a σ.w K Q

theorem Yld.of_run {o : Oper} {a : Act} {σ : GW} {R : Pr} {v : Value} (hr : (execOp a.eval o).run P σ.w = .ok (.value v) σ.w) (h : R.has σ v) : Yld P o a σ R := by
  intro K Q hk
  unfold Oper.wp
  rw [hr]
  exact hk v σ (Stp.refl _ _) h

def dstOf (ops : Array Oper) (j : Nat) : Option Tmp := (ops.toList[j]?).bind (·.dst)
def rd (ops : Array Oper) (Φ : Nat → Pr) (j : Nat) (a : Act) (σ : GW) : Prop := match dstOf ops j with | some d => (Φ j).has σ (a.eval (.tmp d)) | none => True
def free (ops : Array Oper) (i t : Nat) : Bool := ops.toList.all fun o => o.dst != some t || o.after.toList.any fun e => Region.binds .any e && e.on == i

def Deps (ops : Array Oper) (Φ : Nat → Pr) (a : Act) (σ : GW) : List Edge → Prop → Prop
  | [], R => R
  | e :: es, R => (Region.binds .any e = true → rd ops Φ e.on a σ) → Deps ops Φ a σ es R

def Run (P : Program) (ops : Array Oper) (o : Oper) (a : Act) (σ : GW) (R : Pr) : Prop :=
  (Region.wanted o (yielded ops a.tmps) = true → Yld P o a σ R) ∧ (Region.wanted o (yielded ops a.tmps) = false → R.has σ undef)

def Obl (P : Program) (N : Nat) (D : List Deferred) (ops : Array Oper) (Φ : Nat → Pr) (a0 : Act) (σ0 : GW) (i : Nat) (o : Oper) : Prop :=
  ∀ a σ, Stp 0 σ0 σ → Ok N D a → (∀ t, free ops i t = true → a.eval (.tmp t) = a0.eval (.tmp t)) → Deps ops Φ a σ o.after.toList (Run P ops o a σ (Φ i))

def Obls (P : Program) (N : Nat) (D : List Deferred) (ops : Array Oper) (Φ : Nat → Pr) (a0 : Act) (σ0 : GW) : Nat → List Oper → Prop
  | _, [] => True
  | i, o :: l => Obl P N D ops Φ a0 σ0 i o ∧ Obls P N D ops Φ a0 σ0 (i + 1) l

def formB (N : Nat) (ops : Array Oper) : Bool :=
  (ops.toList.zipIdx.all fun (o, i) => o.after.toList.all fun e => !Region.binds .any e || e.on < i) &&
  decide (ops.toList.filterMap (·.dst)).Nodup && (ops.toList.filterMap (·.dst)).all (· < N)

theorem Obls.get {N : Nat} {D : List Deferred} {ops : Array Oper} {Φ : Nat → Pr} {a0 : Act} {σ0 : GW} : ∀ (l : List Oper) (k : Nat), Obls P N D ops Φ a0 σ0 k l → ∀ j o, l[j]? = some o → Obl P N D ops Φ a0 σ0 (k + j) o
  | [], _, _, j, o, h => by simp at h
  | x :: l, k, h, 0, o, hj => by simp at hj; subst hj; exact h.1
  | x :: l, k, h, j + 1, o, hj => by
    have := Obls.get l (k + 1) h.2 j o (by simpa using hj)
    rwa [show k + 1 + j = k + (j + 1) by omega] at this

structure Form (N : Nat) (ops : Array Oper) : Prop where
  back : ∀ (i : Nat) o, ops[i]? = some o → ∀ e ∈ o.after, Region.binds .any e = true → e.on < i
  uniq : ∀ i j d, dstOf ops i = some d → dstOf ops j = some d → i = j
  lt : ∀ i d, dstOf ops i = some d → d < N

theorem nodup_filterMap_inj {α : Type} (f : α → Option Nat) : ∀ (l : List α), (l.filterMap f).Nodup → ∀ (i j : Nat) (d : Nat), (l[i]?).bind f = some d → (l[j]?).bind f = some d → i = j
  | [], _, i, j, d, h, _ => by simp at h
  | x :: l, hn, i, j, d, hi, hj => by
    have mem : ∀ k, (l[k]?).bind f = some d → d ∈ l.filterMap f := fun k hk => by
      obtain ⟨y, hy, hf⟩ := Option.bind_eq_some_iff.1 hk
      exact List.mem_filterMap.2 ⟨y, List.mem_of_getElem? hy, hf⟩
    have hn' : (l.filterMap f).Nodup := by
      cases hx : f x <;> simp [hx] at hn
      · exact hn
      · exact hn.2
    match i, j with
    | 0, 0 => rfl
    | 0, j + 1 =>
      simp at hi hj
      rw [List.filterMap_cons, hi] at hn
      exact absurd (mem j (by simpa using hj)) (List.nodup_cons.1 hn).1
    | i + 1, 0 =>
      simp at hi hj
      rw [List.filterMap_cons, hj] at hn
      exact absurd (mem i (by simpa using hi)) (List.nodup_cons.1 hn).1
    | i + 1, j + 1 =>
      simp at hi hj
      rw [nodup_filterMap_inj f l hn' i j d (by simpa using hi) (by simpa using hj)]

theorem Form.of_B {N : Nat} {ops : Array Oper} (h : formB N ops = true) : Form N ops := by
  simp only [formB, Bool.and_eq_true, decide_eq_true_eq] at h
  obtain ⟨⟨h1, h2⟩, h3⟩ := h
  have hd : ∀ i, dstOf ops i = (ops.toList[i]?).bind (·.dst) := fun i => rfl
  refine ⟨fun i o ho e he hb => ?_, fun i j d hi hj => nodup_filterMap_inj _ _ h2 i j d (by rw [← hd]; exact hi) (by rw [← hd]; exact hj), fun i d hi => ?_⟩
  · have hm : (o, i) ∈ ops.toList.zipIdx := by
      rw [List.mk_mem_zipIdx_iff_getElem?]; simpa using ho
    have := (List.all_eq_true.1 ((List.all_eq_true.1 h1) _ hm)) e (by simpa using he)
    simpa [hb] using this
  · rw [hd] at hi
    obtain ⟨y, hy, hf⟩ := Option.bind_eq_some_iff.1 hi
    have := (List.all_eq_true.1 h3) d (List.mem_filterMap.2 ⟨y, List.mem_of_getElem? hy, hf⟩)
    simpa using this

structure Mid (N : Nat) (D : List Deferred) (ops : Array Oper) (Φ : Nat → Pr) (a0 : Act) (σ0 : GW) (L : Nat → Bool) (a : Act) (σ : GW) : Prop where
  stp : Stp 0 σ0 σ
  ok : Ok N D a
  done : ∀ j, L j = true → rd ops Φ j a σ
  same : ∀ t, (∀ j, dstOf ops j = some t → L j = false) → a.eval (.tmp t) = a0.eval (.tmp t)

theorem Deps.elim {ops : Array Oper} {Φ : Nat → Pr} {a : Act} {σ : GW} {R : Prop} : ∀ (l : List Edge), (∀ e ∈ l, Region.binds .any e = true → rd ops Φ e.on a σ) → Deps ops Φ a σ l R → R
  | [], _, h => h
  | e :: es, hd, h => Deps.elim es (fun x hx => hd x (List.mem_cons_of_mem _ hx)) (h (hd e (by simp)))

theorem Mid.op {N : Nat} {D : List Deferred} {ops : Array Oper} {Φ : Nat → Pr} {a0 : Act} {σ0 : GW} {L : Nat → Bool} {a : Act} {σ : GW} {i : Nat} {o : Oper} {Q : Exit → Act → World → Prop} {K : Act → World → Prop}
    (hF : Form N ops) (hm : Mid N D ops Φ a0 σ0 L a σ) (ho : ops[i]? = some o) (hL : L i = false) (hob : Obl P N D ops Φ a0 σ0 i o)
    (hall : ∀ e ∈ o.after, Region.binds .any e = true → L e.on = true) (hclosed : ∀ (j : Nat) oj, ops[j]? = some oj → L j = true → ∀ e ∈ oj.after, Region.binds .any e = true → L e.on = true)
    (hK : ∀ a' σ', Mid N D ops Φ a0 σ0 (fun j => L j || j == i) a' σ' → K a' σ'.w) : wpOp P ops Q i K a σ.w := by
  have hdi : dstOf ops i = o.dst := by simp [dstOf, ho]
  have hsame : ∀ t, free ops i t = true → a.eval (.tmp t) = a0.eval (.tmp t) := by
    intro t ht
    refine hm.same t fun j hj => ?_
    cases hLj : L j with
    | false => rfl
    | true =>
      exfalso
      unfold dstOf at hj
      obtain ⟨oj, hoj, hd⟩ := Option.bind_eq_some_iff.1 hj
      unfold free at ht
      have := (List.all_eq_true.1 ht) oj (List.mem_of_getElem? hoj)
      simp only [hd, bne_self_eq_false, Bool.false_or, List.any_eq_true, Bool.and_eq_true, beq_iff_eq] at this
      obtain ⟨e, he, hb, hon⟩ := this
      have := hclosed j oj (by simpa using hoj) hLj e (by simpa using he) hb
      rw [hon, hL] at this
      cases this
  have hrun : Run P ops o a σ (Φ i) :=
    Deps.elim o.after.toList (fun e he hb => hm.done e.on (hall e (by simpa using he) hb)) (hob a σ hm.stp hm.ok hsame)
  have next : ∀ v τ, Stp 0 σ τ → (Φ i).has τ v → K (a.put o.dst v) τ.w := by
    intro v τ hs hv
    refine hK _ τ ⟨hm.stp.trans hs, hm.ok.put _ _, fun j hLj => ?_, fun t ht => ?_⟩
    · by_cases hji : j = i
      · subst hji
        unfold rd
        cases hd : dstOf ops j with
        | none => trivial
        | some d =>
          have : o.dst = some d := by rw [← hdi]; exact hd
          simp only [this]
          rw [eval_put_same hm.ok (hF.lt j d hd)]
          exact hv
      · have hLj' : L j = true := by simpa [hji] using hLj
        have h0 := hm.done j hLj'
        unfold rd at h0 ⊢
        cases hd : dstOf ops j with
        | none => trivial
        | some d =>
          rw [hd] at h0
          simp only at h0 ⊢
          rw [eval_put_ne (fun he => hji (hF.uniq j i d hd (by rw [hdi]; exact he)))]
          exact (Φ j).up hs h0
    · have h1 : o.dst ≠ some t := fun he => by
        have := ht i (by rw [hdi]; exact he)
        simp at this
      rw [eval_put_ne h1]
      exact hm.same t fun j hj => by
        have := ht j hj
        simp at this
        exact this.1
  unfold wpOp
  simp only [ho]
  by_cases hw : Region.wanted o (yielded ops a.tmps) = true
  · rw [if_pos hw]
    exact .inl (hrun.1 hw K Q next)
  · rw [if_neg hw]
    exact next undef σ (Stp.refl _ _) (hrun.2 (by simpa using hw))

theorem Mid.start {N : Nat} {D : List Deferred} {ops : Array Oper} {Φ : Nat → Pr} {a : Act} {σ : GW} (ok : Ok N D a) : Mid N D ops Φ a σ (fun _ => false) a σ :=
  ⟨Stp.refl _ _, ok, fun _ h => (by cases h), fun _ _ => rfl⟩

def GW.drew (σ : GW) : GW := ⟨σ.w.drew, σ.st, σ.lt⟩
theorem Stp.drew (σ : GW) : Stp 0 σ σ.drew := ⟨rfl, rfl, rfl, .inl (Nat.le_succ _), Nat.le_refl _, fun _ _ _ => rfl, fun _ _ _ => rfl⟩

structure Done (N : Nat) (D : List Deferred) (ops : Array Oper) (Φ : Nat → Pr) (a0 : Act) (σ0 : GW) (a : Act) (σ : GW) : Prop where
  stp : Stp 0 σ0 σ
  ok : Ok N D a
  done : ∀ j, rd ops Φ j a σ
  same : ∀ t, (ops.toList.all fun o => o.dst != some t) = true → a.eval (.tmp t) = a0.eval (.tmp t)

theorem Mid.fin {N : Nat} {D : List Deferred} {ops : Array Oper} {Φ : Nat → Pr} {a0 : Act} {σ0 : GW} {L : Nat → Bool} {a : Act} {σ : GW} (h : Mid N D ops Φ a0 σ0 L a σ) (hL : ∀ j, j < ops.size → L j = true) : Done N D ops Φ a0 σ0 a σ := by
  refine ⟨h.stp, h.ok, fun j => ?_, fun t ht => h.same t fun j hj => ?_⟩
  · by_cases hj : j < ops.size
    · exact h.done j (hL j hj)
    · unfold rd dstOf; rw [List.getElem?_eq_none (by simpa using hj)]; trivial
  · obtain ⟨o, ho, hd⟩ := Option.bind_eq_some_iff.1 hj
    have := (List.all_eq_true.1 ht) o (List.mem_of_getElem? ho)
    simp [hd] at this

theorem ops_seq {N : Nat} {D : List Deferred} {ops : Array Oper} {Φ : Nat → Pr} {a0 : Act} {σ0 : GW} {Q : Exit → Act → World → Prop} (hF : Form N ops) (hob : Obls P N D ops Φ a0 σ0 0 ops.toList)
    (hQ : ∀ a σ, Done N D ops Φ a0 σ0 a σ → Q .normal a σ.w) : ∀ (m k : Nat) (a : Act) (σ : GW), k + m = ops.size → Mid N D ops Φ a0 σ0 (fun j => decide (j < k)) a σ → wpOps P ops Q (List.range' k m) a σ.w
  | 0, k, a, σ, hk, hm => hQ a σ (hm.fin fun j hj => by simp; omega)
  | m + 1, k, a, σ, hk, hm => by
    rw [List.range'_succ, wpOps_cons]
    obtain ⟨o, ho⟩ : ∃ o, ops[k]? = some o := ⟨ops[k]'(by omega), by simp⟩
    have hb := hF.back
    refine Mid.op hF hm ho (by simp) (by simpa using Obls.get ops.toList 0 hob k o (by simpa using ho)) (fun e he hbi => by simpa using hb k o ho e he hbi)
      (fun j oj hj hlt e he hbi => by have := hb j oj hj e he hbi; simp at hlt ⊢; omega) fun a' σ' hm' => ops_seq hF hob hQ m (k + 1) a' σ' (by omega) ?_
    have : (fun j => decide (j < k) || j == k) = (fun j => decide (j < k + 1)) := by
      funext j; rw [Bool.eq_iff_iff]; simp; omega
    rwa [this] at hm'

def left (n : Nat) (l : Array Bool) : Nat := (List.range n).countP fun i => !l.getD i true

theorem countP_upd (p q : Nat → Bool) (i : Nat) : ∀ (l : List Nat), l.Nodup → i ∈ l → p i = true → q i = false → (∀ j, j ≠ i → q j = p j) → l.countP q + 1 = l.countP p
  | [], _, h, _, _, _ => by simp at h
  | x :: l, hn, hi, hp, hq, hs => by
    rw [List.nodup_cons] at hn
    by_cases hx : x = i
    · subst hx
      have : l.countP q = l.countP p := List.countP_congr fun j hj => by rw [hs j (fun e => hn.1 (e ▸ hj))]
      simp [hp, hq, this]
    · have := countP_upd p q i l hn.2 (by simpa [Ne.symm hx] using hi) hp hq hs
      simp only [List.countP_cons, hs x hx]
      omega

theorem left_set {n i : Nat} {l : Array Bool} (hs : l.size = n) (hi : i < n) (h : l.getD i true = false) : left n (l.setIfInBounds i true) + 1 = left n l := by
  refine countP_upd _ _ i _ List.nodup_range (List.mem_range.2 hi) (by rw [h]; rfl) (by simp [hs, hi]) fun j hj => ?_
  rw [getD_set_ne true (Ne.symm hj)]

theorem any_seq {N : Nat} {D : List Deferred} {ops : Array Oper} {Φ : Nat → Pr} {a0 : Act} {σ0 : GW} {Q : Exit → Act → World → Prop} (hF : Form N ops) (hob : Obls P N D ops Φ a0 σ0 0 ops.toList)
    (hQ : ∀ a σ, Done N D ops Φ a0 σ0 a σ → Q .normal a σ.w) : ∀ (f : Nat) (L : Array Bool) (a : Act) (σ : GW), L.size = ops.size → left ops.size L ≤ f →
    (∀ (j : Nat) oj, ops[j]? = some oj → L.getD j true = true → ∀ e ∈ oj.after, Region.binds .any e = true → L.getD e.on true = true) → Mid N D ops Φ a0 σ0 (fun j => decide (j < ops.size) && L.getD j true) a σ → wpAny P .any ops Q f L a σ.w := by
  -- where nothing is ready, all have come up
  have stop : ∀ (L : Array Bool), L.size = ops.size → Region.ready .any ops L = [] → ∀ j, j < ops.size → L.getD j true = true := by
    intro L hs hr j
    induction j using Nat.strongRecOn with
    | _ j ih =>
    intro hj
    cases hL : L.getD j true with
    | true => rfl
    | false =>
      exfalso
      obtain ⟨o, ho⟩ : ∃ o, ops[j]? = some o := ⟨ops[j], by simp [hj]⟩
      have : j ∈ Region.ready .any ops L := mem_ready.2 ⟨hL, o, ho, fun e he hb => by
        have hlt := hF.back j o ho e he hb
        have := ih e.on hlt (Nat.lt_trans hlt hj)
        have hsz : e.on < L.size := by rw [hs]; omega
        simp [hsz] at this ⊢; exact this⟩
      rw [hr] at this; cases this
  have fin : ∀ (L : Array Bool) a σ, L.size = ops.size → Mid N D ops Φ a0 σ0 (fun j => decide (j < ops.size) && L.getD j true) a σ → Region.ready .any ops L = [] → Q .normal a σ.w := fun L a σ hs hm hr =>
    hQ a σ (hm.fin fun j hj => by rw [stop L hs hr j hj]; simp [hj])
  intro f
  induction f with
  | zero =>
    intro L a σ hs hf _ hm
    have hr : Region.ready .any ops L = [] := by
      refine List.eq_nil_iff_forall_not_mem.2 fun i hi => ?_
      obtain ⟨h0, o, ho, _⟩ := mem_ready.1 hi
      have := left_set hs (Array.getElem?_eq_some_iff.1 ho).1 h0
      omega
    exact ⟨hr, fin L a σ hs hm hr⟩
  | succ f ih =>
    intro L a σ hs hf hcl hm
    refine ⟨fin L a σ hs hm, fun i hi => ?_⟩
    obtain ⟨h0, o, ho, hall⟩ := mem_ready.1 hi
    have hi' : i < ops.size := (Array.getElem?_eq_some_iff.1 ho).1
    have up : ∀ k, L.getD k false = true → L.getD k true = true := fun k h => by
      by_cases hk : k < L.size
      · simp [hk] at h ⊢; exact h
      · simp [hk] at h
    refine Mid.op hF hm ho (by simp [h0]) (by simpa using Obls.get ops.toList 0 hob i o (by simpa using ho)) (fun e he hb => ?_) (fun j oj hj hLj e he hb => ?_) fun a' σ' hm' => ih _ a' σ' (by simpa using hs) (by have := left_set hs hi' h0; omega) ?_ ?_
    · have := hF.back i o ho e he hb
      simp only [up _ (hall e he hb), Bool.and_true, decide_eq_true_eq]; omega
    · simp only [Bool.and_eq_true, decide_eq_true_eq] at hLj ⊢
      exact ⟨by have := hF.back j oj hj e he hb; omega, hcl j oj hj hLj.2 e he hb⟩
    · intro j oj hj hLj e he hb
      by_cases hji : j = i
      · subst hji
        rw [ho] at hj; cases hj
        have hne := hF.back j o ho e he hb
        rw [getD_set_ne true (by omega)]
        exact up _ (hall e he hb)
      · rw [getD_set_ne true (Ne.symm hji)] at hLj
        have := hcl j oj hj hLj e he hb
        by_cases hei : e.on = i
        · rw [hei, h0] at this; cases this
        · rw [getD_set_ne true (Ne.symm hei)]; exact this
    · have : (fun j => (decide (j < ops.size) && L.getD j true) || j == i) = (fun j => decide (j < ops.size) && (L.setIfInBounds i true).getD j true) := by
        funext j
        by_cases hji : j = i
        · subst hji; simp [hi', hs]
        · rw [getD_set_ne true (Ne.symm hji)]; simp [hji]
      rwa [this] at hm'

theorem Obls.up {N : Nat} {D : List Deferred} {ops : Array Oper} {Φ : Nat → Pr} {a0 : Act} {σ0 σ1 : GW} (hs : Stp 0 σ0 σ1) : ∀ (l : List Oper) (k : Nat), Obls P N D ops Φ a0 σ0 k l → Obls P N D ops Φ a0 σ1 k l
  | [], _, _ => trivial
  | _ :: l, k, h => ⟨fun a σ h1 => h.1 a σ (hs.trans h1), Obls.up hs l (k + 1) h.2⟩

theorem reg {N : Nat} {D : List Deferred} {ops : Array Oper} {id : Nat} {draw : Bool} {Q : Exit → Act → World → Prop} {a : Act} {σ : GW} (hP : P.follows .mixedOrders = true) (Φ : Nat → Pr) (ok : Ok N D a) (hF : formB N ops = true)
    (hob : Obls P N D ops Φ a σ 0 ops.toList) (hQ : ∀ a' σ', Done N D ops Φ a σ a' σ' → Q .normal a' σ'.w) : (Code.region id ops draw).wp P Q a σ.w := by
  have hF' := Form.of_B hF
  cases draw with
  | false =>
    refine wp_region ?_
    rw [List.range_eq_range']
    refine ops_seq hF' hob hQ _ 0 a σ (by simp) ?_
    have := Mid.start (ops := ops) (Φ := Φ) (σ := σ) ok
    simpa using this
  | true =>
    refine wp_region_any hP ?_
    have hd := Stp.drew σ
    refine any_seq (σ0 := σ.drew) hF' (Obls.up hd _ _ hob) (fun a' σ' h => hQ a' σ' ⟨hd.trans h.stp, h.ok, h.done, h.same⟩) _ _ a σ.drew (by simp) (Nat.le_trans List.countP_le_length (by simp)) ?_ ?_
    · intro j oj hj h
      have : j < ops.size := (Array.getElem?_eq_some_iff.1 hj).1
      simp [this] at h
    · have := Mid.start (ops := ops) (Φ := Φ) (σ := σ.drew) ok
      have e : (fun j => decide (j < ops.size) && (Array.replicate ops.size false).getD j true) = fun _ => false := by
        funext j; by_cases hj : j < ops.size <;> simp [hj]
      rw [e]; exact this

/-! ### A region whose last operations come in one order alone -/
def edges (o : Oper) : List Nat := (o.after.toList.filter (Region.binds .any)).map (·.on)
def ancs : List Oper → List (List Nat) → List (List Nat)
  | [], acc => acc
  | o :: l, acc => ancs l (acc ++ [((edges o).flatMap fun e => e :: acc.getD e []).eraseDups])
def forcedB (m : Nat) (ops : List Oper) : Bool := let t := ancs ops []; (List.range ops.length).all fun i => i < m || (List.range i).all fun j => (t.getD i []).contains j

theorem ancs_spec {all : List Oper} {L : Nat → Bool} (hcl : ∀ (j : Nat) o, all[j]? = some o → L j = true → ∀ e ∈ edges o, L e = true) :
    ∀ (l : List Oper) (acc : List (List Nat)), (∀ j, l[j]? = all[acc.length + j]?) → acc.length + l.length = all.length →
    (∀ (i : Nat) o, all[i]? = some o → i < acc.length → (∀ e ∈ edges o, L e = true) → ∀ j ∈ acc.getD i [], L j = true) →
    ∀ (i : Nat) o, all[i]? = some o → (∀ e ∈ edges o, L e = true) → ∀ j ∈ (ancs l acc).getD i [], L j = true
  | [], acc, _, hlen, hacc, i, o, ho, he, j, hj => hacc i o ho (by have := (List.getElem?_eq_some_iff.1 ho).1; simp at hlen; omega) he j hj
  | x :: l, acc, hl, hlen, hacc, i, o, ho, he, j, hj => by
    refine ancs_spec hcl l _ (fun j => ?_) (by simp at hlen ⊢; omega) (fun i o ho hi he j hj => ?_) i o ho he j hj
    · have := hl (j + 1)
      simp only [List.getElem?_cons_succ] at this
      rw [this]; congr 1; simp; omega
    · by_cases hlt : i < acc.length
      · rw [List.getD_eq_getElem?_getD, List.getElem?_append_left hlt, ← List.getD_eq_getElem?_getD] at hj
        exact hacc i o ho hlt he j hj
      · have hie : i = acc.length := by simp at hi; omega
        subst hie
        have hx : x = o := by
          have := hl 0
          simp at this; rw [ho] at this; exact Option.some.inj this
        subst hx
        simp only [List.getD_eq_getElem?_getD, List.getElem?_append_right (Nat.le_refl _), Nat.sub_self, List.getElem?_cons_zero, Option.getD_some, List.mem_eraseDups, List.mem_flatMap, List.mem_cons] at hj
        obtain ⟨e, hem, rfl | hj⟩ := hj
        · exact he _ hem
        · by_cases hel : e < acc.length
          · obtain ⟨oe, hoe⟩ : ∃ oe, all[e]? = some oe := ⟨all[e]'(by omega), by simp⟩
            exact hacc e oe hoe hel (hcl e oe hoe (he e hem)) j (by rw [List.getD_eq_getElem?_getD]; exact hj)
          · rw [List.getElem?_eq_none (by omega)] at hj
            simp at hj

theorem mem_edges {o : Oper} {e : Nat} : e ∈ edges o ↔ ∃ x ∈ o.after, Region.binds .any x = true ∧ x.on = e := by
  simp [edges, List.mem_map, List.mem_filter, and_assoc]

theorem forced_spec {m : Nat} {ops : Array Oper} {L : Nat → Bool} (hB : forcedB m ops.toList = true) (hcl : ∀ (j : Nat) oj, ops[j]? = some oj → L j = true → ∀ e ∈ oj.after, Region.binds .any e = true → L e.on = true)
    {i : Nat} {o : Oper} (ho : ops[i]? = some o) (hi : m ≤ i) (hall : ∀ e ∈ o.after, Region.binds .any e = true → L e.on = true) : ∀ j, j < i → L j = true := by
  intro j hj
  have ho' : ops.toList[i]? = some o := by simpa using ho
  have h1 := (List.all_eq_true.1 hB) i (List.mem_range.2 (List.getElem?_eq_some_iff.1 ho').1)
  have h2 : (List.range i).all (fun j => ((ancs ops.toList []).getD i []).contains j) = true := by
    rw [Bool.or_eq_true] at h1
    refine h1.resolve_left ?_
    simp; omega
  have h3 := (List.all_eq_true.1 h2) j (List.mem_range.2 hj)
  refine ancs_spec (all := ops.toList) (L := L) (fun j oj hj hL e he => ?_) ops.toList [] (by simp) (by simp) (fun i o _ h => by simp at h) i o ho' (fun e he => ?_) j (by simpa using h3)
  · obtain ⟨x, hx, hb, rfl⟩ := mem_edges.1 he
    exact hcl j oj (by simpa using hj) hL x hx hb
  · obtain ⟨x, hx, hb, rfl⟩ := mem_edges.1 he
    exact hall x hx hb

structure Half (m N : Nat) (D : List Deferred) (ops : Array Oper) (Φ : Nat → Pr) (a0 : Act) (σ0 : GW) (a : Act) (σ : GW) : Prop where
  stp : Stp 0 σ0 σ
  ok : Ok N D a
  done : ∀ j, j < m → rd ops Φ j a σ
  same : ∀ t, ((ops.toList.take m).all fun o => o.dst != some t) = true → a.eval (.tmp t) = a0.eval (.tmp t)

theorem Mid.half {m N : Nat} {D : List Deferred} {ops : Array Oper} {Φ : Nat → Pr} {a0 : Act} {σ0 : GW} {L : Nat → Bool} {a : Act} {σ : GW} (h : Mid N D ops Φ a0 σ0 L a σ) (hL : ∀ j, j < m → L j = true) (hL' : ∀ j, m ≤ j → L j = false) : Half m N D ops Φ a0 σ0 a σ := by
  refine ⟨h.stp, h.ok, fun j hj => h.done j (hL j hj), fun t ht => h.same t fun j hj => ?_⟩
  by_cases hjm : j < m
  · obtain ⟨o, ho, hd⟩ := Option.bind_eq_some_iff.1 hj
    have := (List.all_eq_true.1 ht) o (List.mem_of_getElem? (i := j) (by rw [List.getElem?_take, if_pos hjm]; exact ho))
    simp [hd] at this
  · exact hL' j (by omega)

theorem tail_any {m N : Nat} {ops : Array Oper} {Q : Exit → Act → World → Prop} (hF : Form N ops) (hB : forcedB m ops.toList = true) : ∀ (n k : Nat) (f : Nat) (L : Array Bool) (a : Act) (w : World), k + n = ops.size → m ≤ k → L.size = ops.size → n ≤ f →
    (∀ j, j < ops.size → L.getD j true = decide (j < k)) → wpList P ops Q (ops.toList.drop k) a w → wpAny P .any ops Q f L a w
  | 0, k, f, L, a, w, hk, _, hs, _, hL, h => by
    have hr : Region.ready .any ops L = [] := List.eq_nil_iff_forall_not_mem.2 fun i hi => by
      obtain ⟨h0, o, ho, _⟩ := mem_ready.1 hi
      have hi' : i < ops.size := (Array.getElem?_eq_some_iff.1 ho).1
      rw [hL i hi'] at h0; simp at h0; omega
    rw [List.drop_eq_nil_of_le (by simp; omega)] at h
    cases f with
    | zero => exact ⟨hr, h⟩
    | succ f => exact ⟨fun _ => h, fun i hi => by rw [hr] at hi; cases hi⟩
  | n + 1, k, f + 1, L, a, w, hk, hm, hs, hf, hL, h => by
    have hkk : k < ops.size := by omega
    obtain ⟨o, ho⟩ : ∃ o, ops[k]? = some o := ⟨ops[k], by simp [hkk]⟩
    have hd : ops.toList.drop k = o :: ops.toList.drop (k + 1) := by
      rw [List.drop_eq_getElem_cons (by simpa using hkk)]
      have : ops[k] = o := by simpa [hkk] using ho
      simp [this]
    have hup : ∀ j, j < k → L.getD j false = true := fun j hj => by
      have := hL j (by omega)
      simp [hj, show j < L.size by omega] at this ⊢; exact this
    have hrk : k ∈ Region.ready .any ops L := mem_ready.2 ⟨by rw [hL k hkk]; simp, o, ho, fun e he hb => hup _ (hF.back k o ho e he hb)⟩
    refine ⟨fun hr => (by rw [hr] at hrk; cases hrk), fun i hi => ?_⟩
    obtain ⟨h0, oi, hoi, hall⟩ := mem_ready.1 hi
    have hi' : i < ops.size := (Array.getElem?_eq_some_iff.1 hoi).1
    have hik : i = k := by
      have h1 : ¬ i < k := fun hlt => by rw [hL i hi'] at h0; simp [hlt] at h0
      by_cases h2 : k < i
      · exfalso
        have := forced_spec (L := fun j => decide (j < k)) hB (fun j oj hj hlt e he hb => by have := hF.back j oj hj e he hb; simp at hlt ⊢; omega) hoi (by omega) (fun e he hb => by
          have h3 := hall e he hb
          have h4 : e.on < ops.size := by have := hF.back i oi hoi e he hb; omega
          have h5 := hL e.on h4
          simp [show e.on < L.size by omega] at h3 h5 ⊢
          rw [h3] at h5; simpa using h5.symm) k h2
        simp at this
      · omega
    subst hik
    rw [hoi] at ho; cases ho
    rw [hd] at h
    unfold wpList at h
    unfold wpOp
    simp only [hoi]
    have hL' : ∀ j, j < ops.size → (L.setIfInBounds i true).getD j true = decide (j < i + 1) := fun j hj => by
      by_cases hji : j = i
      · subst hji; simp [hs, hj]
      · rw [getD_set_ne true (Ne.symm hji), hL j hj, Bool.eq_iff_iff]; simp; omega
    have next : ∀ a w, wpList P ops Q (ops.toList.drop (i + 1)) a w → wpAny P .any ops Q f (L.setIfInBounds i true) a w := fun a w hh =>
      tail_any hF hB n (i + 1) f _ a w (by omega) (by omega) (by simpa using hs) (by omega) hL' hh
    split at h
    · rename_i hw
      rw [if_pos hw]
      exact h.imp (Oper.wp_mono next) id
    · rename_i hw
      rw [if_neg hw]
      exact next _ _ h

theorem half_any {m N : Nat} {D : List Deferred} {ops : Array Oper} {Φ : Nat → Pr} {a0 : Act} {σ0 : GW} {Q : Exit → Act → World → Prop} (hF : Form N ops) (hm : m ≤ ops.size) (hB : forcedB m ops.toList = true) (hob : Obls P N D ops Φ a0 σ0 0 (ops.toList.take m))
    (hQ : ∀ a σ, Half m N D ops Φ a0 σ0 a σ → wpList P ops Q (ops.toList.drop m) a σ.w) : ∀ (f : Nat) (L : Array Bool) (a : Act) (σ : GW), L.size = ops.size → left ops.size L ≤ f → (∀ j, j < ops.size → m ≤ j → L.getD j true = false) →
    (∀ (j : Nat) oj, ops[j]? = some oj → L.getD j true = true → ∀ e ∈ oj.after, Region.binds .any e = true → L.getD e.on true = true) → Mid N D ops Φ a0 σ0 (fun j => decide (j < m) && L.getD j true) a σ → wpAny P .any ops Q f L a σ.w := by
  intro f
  induction f with
  | zero =>
    intro L a σ hs hf hLm hcl hmid
    -- nothing is left: then m is the size
    have hnone : ∀ j, j < ops.size → L.getD j true = true := fun j hj => by
      cases h : L.getD j true with
      | true => rfl
      | false => have := left_set hs hj h; omega
    have hmm : m = ops.size := by
      rcases Nat.lt_or_ge m ops.size with h | h
      · have := hnone m h; rw [hLm m h (Nat.le_refl _)] at this; cases this
      · omega
    exact tail_any hF hB 0 m 0 L a σ.w (by omega) (Nat.le_refl _) hs (Nat.le_refl _) (fun j hj => by rw [hnone j hj]; simp; omega) (hQ a σ (hmid.half (fun j hj => by simp [hj, hnone j (by omega)]) (fun j hj => by simp; omega)))
  | succ f ih =>
    intro L a σ hs hf hLm hcl hmid
    by_cases hdone : ∀ j, j < m → L.getD j true = true
    · have hL : ∀ j, j < ops.size → L.getD j true = decide (j < m) := fun j hj => by
        by_cases h : j < m
        · rw [hdone j h]; simp [h]
        · rw [hLm j hj (by omega)]; simp [h]
      refine tail_any hF hB (ops.size - m) m (f + 1) L a σ.w (by omega) (Nat.le_refl _) hs ?_ hL (hQ a σ (hmid.half (fun j hj => by simp [hj, hdone j hj]) (fun j hj => by simp; omega)))
      refine Nat.le_trans ?_ hf
      unfold left
      have : (List.range ops.size).countP (fun i => !L.getD i true) = (List.range ops.size).countP (fun i => decide (m ≤ i)) := List.countP_congr fun i hi => by rw [hL i (List.mem_range.1 hi)]; simp
      rw [this]
      have hcnt : ∀ n, (List.range n).countP (fun i => decide (m ≤ i)) = n - m := fun n => by
        induction n with
        | zero => simp
        | succ n ihn =>
          rw [List.range_succ, List.countP_append, ihn]
          by_cases h : m ≤ n <;> simp [h] <;> omega
      rw [hcnt]
      exact Nat.le_refl _
    · -- some of the first m are left: one of them is ready, and none of the others
      have hsome : ∃ j, j < m ∧ L.getD j true = false := by
        refine Classical.byContradiction fun hn => hdone fun j hj => ?_
        cases h : L.getD j true with
        | true => rfl
        | false => exact absurd ⟨j, hj, h⟩ hn
      have up : ∀ k, L.getD k false = true → L.getD k true = true := fun k h => by
        by_cases hk : k < L.size
        · simp [hk] at h ⊢; exact h
        · simp [hk] at h
      refine ⟨fun hr => ?_, fun i hi => ?_⟩
      · exfalso
        have key : ∀ j, j < m → L.getD j true = true := by
          intro j
          induction j using Nat.strongRecOn with
          | _ j ihj =>
          intro hj
          cases hL : L.getD j true with
          | true => rfl
          | false =>
            exfalso
            obtain ⟨o, ho⟩ : ∃ o, ops[j]? = some o := ⟨ops[j]'(by omega), by simp⟩
            have : j ∈ Region.ready .any ops L := mem_ready.2 ⟨hL, o, ho, fun e he hb => by
              have hlt := hF.back j o ho e he hb
              have := ihj e.on hlt (Nat.lt_trans hlt hj)
              have hsz : e.on < L.size := by rw [hs]; omega
              simp [hsz] at this ⊢; exact this⟩
            rw [hr] at this; cases this
        exact hdone key
      · obtain ⟨h0, o, ho, hall⟩ := mem_ready.1 hi
        have hi' : i < ops.size := (Array.getElem?_eq_some_iff.1 ho).1
        have him : i < m := by
          rcases Nat.lt_or_ge i m with h | h
          · exact h
          · exfalso
            obtain ⟨j, hj, hjL⟩ := hsome
            have := forced_spec (L := fun j => decide (j < ops.size) && L.getD j true) hB (fun j oj hj hLj e he hb => by
              simp only [Bool.and_eq_true, decide_eq_true_eq] at hLj ⊢
              exact ⟨by have := hF.back j oj hj e he hb; omega, hcl j oj hj hLj.2 e he hb⟩) ho h (fun e he hb => by
              simp only [Bool.and_eq_true, decide_eq_true_eq]
              exact ⟨by have := hF.back i o ho e he hb; omega, up _ (hall e he hb)⟩) j (by omega)
            simp only [Bool.and_eq_true] at this
            rw [hjL] at this; cases this.2
        have hget : (ops.toList.take m)[i]? = some o := by rw [List.getElem?_take, if_pos him]; simpa using ho
        refine Mid.op hF hmid ho (by simp [h0]) (by simpa using Obls.get (ops.toList.take m) 0 hob i o hget) (fun e he hb => ?_) (fun j oj hj hLj e he hb => ?_) fun a' σ' hm' => ih _ a' σ' (by simpa using hs) (by have := left_set hs hi' h0; omega) (fun j hj hmj => ?_) ?_ ?_
        · have := hF.back i o ho e he hb
          simp only [up _ (hall e he hb), Bool.and_true, decide_eq_true_eq]; omega
        · simp only [Bool.and_eq_true, decide_eq_true_eq] at hLj ⊢
          exact ⟨by have := hF.back j oj hj e he hb; omega, hcl j oj hj hLj.2 e he hb⟩
        · rw [getD_set_ne true (by omega)]; exact hLm j hj hmj
        · intro j oj hj hLj e he hb
          by_cases hji : j = i
          · subst hji
            rw [ho] at hj; cases hj
            have hne := hF.back j o ho e he hb
            rw [getD_set_ne true (by omega)]
            exact up _ (hall e he hb)
          · rw [getD_set_ne true (Ne.symm hji)] at hLj
            have := hcl j oj hj hLj e he hb
            by_cases hei : e.on = i
            · rw [hei, h0] at this; cases this
            · rw [getD_set_ne true (Ne.symm hei)]; exact this
        · have : (fun j => (decide (j < m) && L.getD j true) || j == i) = (fun j => decide (j < m) && (L.setIfInBounds i true).getD j true) := by
            funext j
            by_cases hji : j = i
            · subst hji; simp [him, hs, hi']
            · rw [getD_set_ne true (Ne.symm hji)]; simp [hji]
          rwa [this] at hm'

theorem half_seq {m N : Nat} {D : List Deferred} {ops : Array Oper} {Φ : Nat → Pr} {a0 : Act} {σ0 : GW} {Q : Exit → Act → World → Prop} (hF : Form N ops) (hm : m ≤ ops.size) (hob : Obls P N D ops Φ a0 σ0 0 (ops.toList.take m))
    (hQ : ∀ a σ, Half m N D ops Φ a0 σ0 a σ → wpOps P ops Q (List.range' m (ops.size - m)) a σ.w) : ∀ (n k : Nat) (a : Act) (σ : GW), k + n = m → Mid N D ops Φ a0 σ0 (fun j => decide (j < k)) a σ → wpOps P ops Q (List.range' k (n + (ops.size - m))) a σ.w
  | 0, k, a, σ, hk, hmid => by
    obtain rfl : k = m := by omega
    rw [Nat.zero_add]
    exact hQ a σ (hmid.half (fun j hj => by simpa using hj) (fun j hj => by simpa using hj))
  | n + 1, k, a, σ, hk, hmid => by
    rw [show n + 1 + (ops.size - m) = (n + (ops.size - m)) + 1 by omega, List.range'_succ, wpOps_cons]
    obtain ⟨o, ho⟩ : ∃ o, ops[k]? = some o := ⟨ops[k]'(by omega), by simp⟩
    have hget : (ops.toList.take m)[k]? = some o := by rw [List.getElem?_take, if_pos (by omega)]; simpa using ho
    refine Mid.op hF hmid ho (by simp) (by simpa using Obls.get (ops.toList.take m) 0 hob k o hget) (fun e he hbi => by simpa using hF.back k o ho e he hbi)
      (fun j oj hj hlt e he hbi => by have := hF.back j oj hj e he hbi; simp at hlt ⊢; omega) fun a' σ' hm' => half_seq hF hm hob hQ n (k + 1) a' σ' (by omega) ?_
    have : (fun j => decide (j < k) || j == k) = (fun j => decide (j < k + 1)) := by
      funext j; rw [Bool.eq_iff_iff]; simp; omega
    rwa [this] at hm'

theorem reg2 {N : Nat} {D : List Deferred} {ops : Array Oper} {id : Nat} {draw : Bool} {Q : Exit → Act → World → Prop} {a : Act} {σ : GW} (hP : P.follows .mixedOrders = true) (m : Nat) (Φ : Nat → Pr) (ok : Ok N D a) (hF : formB N ops = true) (hm : m ≤ ops.size) (hB : (!draw || forcedB m ops.toList) = true)
    (hob : Obls P N D ops Φ a σ 0 (ops.toList.take m)) (hQ : ∀ a' σ', Half m N D ops Φ a σ a' σ' → wpList P ops Q (ops.toList.drop m) a' σ'.w) : (Code.region id ops draw).wp P Q a σ.w := by
  have hF' := Form.of_B hF
  cases draw with
  | false =>
    refine wp_region ?_
    rw [List.range_eq_range']
    have := half_seq (Q := Q) hF' hm hob (fun a' σ' h => ?_) m 0 a σ (by simp) (by have := Mid.start (ops := ops) (Φ := Φ) (σ := σ) ok; simpa using this)
    · rwa [show m + (ops.size - m) = ops.size by omega] at this
    · have := wpOps_eq_wpList (P := P) (ops := ops) (Q := Q) (ops.toList.drop m) m (fun j => by rw [List.getElem?_drop]; simp)
      rw [show (ops.toList.drop m).length = ops.size - m by simp] at this
      rw [this]
      exact hQ a' σ' h
  | true =>
    refine wp_region_any hP ?_
    have hd := Stp.drew σ
    refine half_any (σ0 := σ.drew) hF' hm (by simpa using hB) (Obls.up hd _ _ hob) (fun a' σ' h => hQ a' σ' ⟨hd.trans h.stp, h.ok, h.done, h.same⟩) _ _ a σ.drew (by simp) (Nat.le_trans List.countP_le_length (by simp)) ?_ ?_ ?_
    · intro j hj _; simp [hj]
    · intro j oj hj h
      have : j < ops.size := (Array.getElem?_eq_some_iff.1 hj).1
      simp [this] at h
    · have := Mid.start (ops := ops) (Φ := Φ) (σ := σ.drew) ok
      have e : (fun j => decide (j < m) && (Array.replicate ops.size false).getD j true) = fun _ => false := by
        funext j; by_cases hj : j < ops.size
        · simp [hj]
        · simp; omega
      rw [e]; exact this

def YldM (m : Nat) (P : Program) (o : Oper) (a : Act) (σ : GW) (R : Value → GW → Prop) : Prop :=
  ∀ (K : Act → World → Prop) (Q : Exit → Act → World → Prop), (∀ v τ, Stp m σ τ → R v τ → K (a.put o.dst v) τ.w) → o.wp P a σ.w K Q

theorem Yld.toM {o : Oper} {a : Act} {σ : GW} {R : Pr} (h : Yld P o a σ R) : YldM 0 P o a σ (fun v τ => R.has τ v) := h

theorem tail_step {m N d : Nat} {D : List Deferred} {ops : Array Oper} {Q : Exit → Act → World → Prop} {o : Oper} {rest : List Oper} {a : Act} {σ : GW} {R : Value → GW → Prop} (hg : o.guard = none) (hd : o.dst = some d) (hN : d < N) (ok : Ok N D a) (hy : YldM m P o a σ R)
    (k : ∀ a' τ, Stp m σ τ → Ok N D a' → R (a'.eval (.tmp d)) τ → (∀ t, t ≠ d → a'.eval (.tmp t) = a.eval (.tmp t)) → wpList P ops Q rest a' τ.w) : wpList P ops Q (o :: rest) a σ.w := by
  refine wpList_plain hg fun K hK => hy K Q fun v τ hs hr => hK _ _ ?_
  rw [hd]
  exact k _ τ hs (ok.put _ _) (by rw [eval_put_same ok hN]; exact hr) fun t ht => eval_put_ne (by simpa using Ne.symm ht) v
theorem sl_le {c n : Nat} {ts : List Ty} {σ : GW} {v : Value} (h : (Ty.sl c n ts).has σ v) : n ≤ 9223372036854775807 := by
  obtain ⟨_, _, _, _, _, ⟨h1, h2⟩, _⟩ := h; omega

/-! ### Functions -/
def RetPost (σ0 : GW) (R : Ty) (e : Ending) (w' : World) : Prop := ∃ v τ, τ.w = w' ∧ From σ0 τ ∧ e = .returned v ∧ R.has τ v
def FnC (P : Program) (f : FuncId) (args : Array Value) (σ : GW) (R : Ty) : Prop :=
  Calls P f args σ.w fun e w' => ∃ v τ, τ.w = w' ∧ Stp 0 σ τ ∧ e = .returned v ∧ R.has τ v

def GW.hush (σ : GW) : GW := ⟨σ.w, fun b => if σ.st b = 1 then 1 else 0, fun b h => σ.lt b (by intro e; simp [e] at h)⟩
theorem GW.le_hush (σ : GW) : σ.Le σ.hush := ⟨fun b h => by simp [GW.hush, h], fun _ _ => rfl⟩
theorem From.hush (σ : GW) : From σ.hush σ.hush := ⟨rfl, rfl, rfl, Dr.refl _, Nat.le_refl _, fun _ _ => rfl, fun b _ => ⟨rfl, by simp only [GW.hush]; split <;> omega⟩⟩
def GW.back (σ τ : GW) (h : From σ.hush τ) : GW :=
  ⟨τ.w, fun b => if b < σ.w.heap.size then σ.st b else if τ.st b = 1 then 1 else 0, fun b hb => by
    by_cases hlt : b < σ.w.heap.size
    · exact Nat.lt_of_lt_of_le hlt h.size
    · simp only [hlt, if_false] at hb
      exact τ.lt b (by intro e; simp [e] at hb)⟩
theorem GW.back_stp (σ τ : GW) (h : From σ.hush τ) : Stp 0 σ (σ.back τ h) := ⟨h.os, h.tape, h.output, h.dr, h.size, fun b hb _ => h.blk b hb, fun b hb _ => by simp [GW.back, hb]⟩
theorem GW.back_le (σ τ : GW) (h : From σ.hush τ) : τ.Le (σ.back τ h) := by
  refine ⟨fun b hb => ?_, fun _ _ => rfl⟩
  simp only [GW.back]
  split
  · rename_i hlt
    have := (h.st b hlt).1
    rw [hb] at this
    simp only [GW.hush] at this
    split at this
    · assumption
    · cases this
  · simp

theorem fn_intro {f : FuncId} {fn : Func} {c : Code} {N : Nat} {args : Array Value} {σ : GW} {R : Ty} (hf : P.funcs[f]? = some fn) (hb : fn.body = some c) (hn : fn.ntmps = N) (ha : args.size ≤ N)
    (h : ∀ σ0 a, σ.Le σ0 → From σ0 σ0 → Ok N [] a → (∀ i v, args.toList[i]? = some v → a.eval (.tmp i) = v) → c.wp P (bodyPost P fn (RetPost σ0 R)) a σ0.w) : FnC P f args σ R := by
  refine Calls.mono (calls_of_wp hf hb (h σ.hush _ σ.le_hush (From.hush σ) ⟨by simp; omega, rfl⟩ fun i v hi => ?_)) ?_
  · have hi' : args[i]? = some v := by simpa using hi
    have hlt : i < args.size := (Array.getElem?_eq_some_iff.1 hi').1
    simp [Act.eval, Array.getD_eq_getD_getElem?, Array.getElem?_append, hlt]
    simpa [hlt] using hi'
  · rintro e w' ⟨v, τ, rfl, hF, rfl, hv⟩
    exact ⟨v, σ.back τ hF, rfl, σ.back_stp τ hF, rfl, R.up (σ.back_le τ hF) hv⟩

theorem ret1 {fn : Func} {σ0 σ : GW} {a : Act} {N d : Nat} {T : Ty} (hr : fn.results = #[.tmp d]) (ok : Ok N [] a) (hF : From σ0 σ) (h : At T σ a (.tmp d)) : bodyPost P fn (RetPost σ0 T) .ret a σ.w :=
  bodyPost_ret (results_tmp hr _ _ _) ok.defers ⟨_, σ, rfl, hF, rfl, h⟩
/-! ### Ways on -/
section
variable {Q : Exit → Act → World → Prop} {N : Act → World → Prop} {a : Act} {w : World}
theorem tn (h : N a w) : Exit.then N Q .normal a w := h
theorem tx {i : Nat} (h : Q (.exit i) a w) : Exit.then N Q (.exit i) a w := h
theorem tr (h : Q .ret a w) : Exit.then N Q .ret a w := h
theorem bn {i : Nat} (h : Q .normal a w) : Exit.inBlock i Q .normal a w := h
theorem br {i : Nat} (h : Q .ret a w) : Exit.inBlock i Q .ret a w := h
theorem bx {i : Nat} (h : Q .normal a w) : Exit.inBlock i Q (.exit i) a w := by simp only [Exit.inBlock, if_true]; exact h
theorem bo {i j : Nat} (hij : j ≠ i) (h : Q (.exit j) a w) : Exit.inBlock i Q (.exit j) a w := by simp only [Exit.inBlock, if_neg hij]; exact h
end

theorem loop {c : Code} {Q : Exit → Act → World → Prop} {a : Act} {w : World} (I : Nat → Act → World → Prop) (n : Nat) (h0 : I n a w)
    (round : ∀ n a w, I n a w → c.wp P (Exit.then (fun a' w' => ∃ m, m < n ∧ I m a' w') Q) a w) : (Code.loop c).wp P Q a w := by
  classical
  have key : ∀ (a : Act) (w : World), (∃ n, I n a w) → ∃ n, I n a w ∧ ∀ m, m < n → ¬ I m a w := by
    rintro a w ⟨n, hn⟩
    induction n using Nat.strongRecOn with
    | _ n ih =>
    by_cases h : ∃ m, m < n ∧ I m a w
    · obtain ⟨m, hm, hi⟩ := h; exact ih m hm hi
    · exact ⟨n, hn, fun m hm hi => h ⟨m, hm, hi⟩⟩
  refine wp_loop (fun a w => ∃ n, I n a w) (fun a w => if h : ∃ n, I n a w then Classical.choose (key a w h) else 0) ⟨n, h0⟩ fun a w hI => ?_
  have hs := Classical.choose_spec (key a w hI)
  refine Code.wp_mono (fun e a' w' hq => ?_) (round _ a w hs.1)
  cases e <;> try exact hq
  obtain ⟨m, hm, hi⟩ := hq
  have hex : ∃ n, I n a' w' := ⟨m, hi⟩
  refine ⟨hex, ?_⟩
  have hs' := Classical.choose_spec (key a' w' hex)
  simp only [dif_pos hex, dif_pos hI]
  refine Nat.lt_of_le_of_lt (Nat.le_of_not_lt fun hlt => hs'.2 m hlt hi) hm

theorem cond_t {c : Operand} {x y : Code} {Q : Exit → Act → World → Prop} {a : Act} {σ : GW} {b : Bool} (h : At (.bool b) σ a c) (ht : b = true → x.wp P Q a σ.w) (hf : b = false → y.wp P Q a σ.w) : (Code.cond c x y).wp P Q a σ.w :=
  wp_cond_split (t := b) h ht hf
theorem cond_p {c : Operand} {x y : Code} {Q : Exit → Act → World → Prop} {a : Act} {σ : GW} {p : Prop} [Decidable p] (h : At (.bool (decide p)) σ a c) (ht : p → x.wp P Q a σ.w) (hf : ¬ p → y.wp P Q a σ.w) : (Code.cond c x y).wp P Q a σ.w :=
  wp_cond_split (t := decide p) h (fun e => ht (of_decide_eq_true e)) (fun e => hf (of_decide_eq_false e))

/-! ### Guards -/
theorem run_plain {ops : Array Oper} {o : Oper} {a : Act} {σ : GW} {R : Pr} (hg : o.guard = none) (h : Yld P o a σ R) : Run P ops o a σ R :=
  ⟨fun _ => h, fun hw => by simp [Region.wanted, hg] at hw⟩
theorem yielded_at {N : Nat} {D : List Deferred} {ops : Array Oper} {a : Act} {σ : GW} {j d : Nat} {c : Bool} (ok : Ok N D a) (hd : dstOf ops j = some d) (hN : d < N) (h : At (.bool c) σ a (.tmp d)) : yielded ops a.tmps j = some c := by
  have e : a.tmps[d]? = some (.bool c) := by
    have h' : a.tmps.getD d undef = .bool c := h
    have hlt : d < a.tmps.size := by rw [ok.size]; exact hN
    simp [hlt] at h' ⊢
    exact h'
  unfold yielded
  have : (ops[j]?).bind (·.dst) = some d := by simpa [dstOf] using hd
  simp [this, e]
theorem run_guard {N : Nat} {D : List Deferred} {ops : Array Oper} {o : Oper} {a : Act} {σ : GW} {T : Ty} {j d : Nat} {want c : Bool} (ok : Ok N D a) (hg : o.guard = some (j, want)) (hd : dstOf ops j = some d) (hN : d < N) (h : At (.bool c) σ a (.tmp d))
    (hy : c = want → Yld P o a σ T.pr) : Run P ops o a σ (Ty.grd (c = want) T).pr := by
  have hw : Region.wanted o (yielded ops a.tmps) = (some c == some want) := by simp [Region.wanted, hg, yielded_at ok hd hN h]
  refine ⟨fun e => ?_, fun e => ?_⟩
  · have hc : c = want := by rw [hw] at e; simpa using e
    intro K Q hk
    exact hy hc K Q fun v τ hs hv => hk v τ hs ⟨fun _ => hv, fun h => absurd hc h⟩
  · refine ⟨fun hc => ?_, fun _ => rfl⟩
    rw [hw, hc] at e; simp at e
theorem run_guard2 {N : Nat} {D : List Deferred} {ops : Array Oper} {o : Oper} {a : Act} {σ : GW} {T : Ty} {j d : Nat} {want c : Bool} {p : Prop} (ok : Ok N D a) (hg : o.guard = some (j, want)) (hd : dstOf ops j = some d) (hN : d < N) (h : At (.grd p (.bool c)) σ a (.tmp d))
    (hy : p ∧ c = want → Yld P o a σ T.pr) : Run P ops o a σ (Ty.grd (p ∧ c = want) T).pr := by
  by_cases hp : p
  · have hb : At (.bool c) σ a (.tmp d) := h.1 hp
    have hw : Region.wanted o (yielded ops a.tmps) = (some c == some want) := by simp [Region.wanted, hg, yielded_at ok hd hN hb]
    refine ⟨fun e => ?_, fun e => ?_⟩
    · have hc : c = want := by rw [hw] at e; simpa using e
      intro K Q hk
      exact hy ⟨hp, hc⟩ K Q fun v τ hs hv => hk v τ hs ⟨fun _ => hv, fun h => absurd ⟨hp, hc⟩ h⟩
    · refine ⟨fun hc => ?_, fun _ => rfl⟩
      rw [hw, hc.2] at e; simp at e
  · have hu : a.eval (.tmp d) = undef := h.2 hp
    have hw : Region.wanted o (yielded ops a.tmps) = false := by
      have hd' : (ops[j]?).bind (·.dst) = some d := by simpa [dstOf] using hd
      have e : a.tmps.getD d undef = undef := hu
      simp only [Region.wanted, hg, yielded, hd', Option.bind_some]
      cases ht : a.tmps[d]? with
      | none => rfl
      | some v =>
        have hlt := (Array.getElem?_eq_some_iff.1 ht).1
        have : v = undef := by rw [Array.getD_eq_getD_getElem?, ht] at e; simpa using e
        subst this; rfl
    exact ⟨fun e => (by rw [hw] at e; cases e), fun _ => ⟨fun h => absurd h.1 hp, fun _ => rfl⟩⟩

/-! ### Facts carried on -/
theorem kp {T : Ty} {σ σ' : GW} {a a' : Act} {x y : Operand} (e : a'.eval x = a.eval y) (hs : Stp 0 σ σ') (h : T.has σ (a.eval y)) : T.has σ' (a'.eval x) := by rw [e]; exact T.up hs.le0 h
theorem kpo {R : Pr} {σ σ' : GW} {a a' : Act} {x y : Operand} (e : a'.eval x = a.eval y) (hs : Stp 0 σ σ') (h : R.has σ (a.eval y)) : R.has σ' (a'.eval x) := by rw [e]; exact R.up hs h
theorem Done.kt {N : Nat} {D : List Deferred} {ops : Array Oper} {Φ : Nat → Pr} {a0 a : Act} {σ0 σ : GW} {T : Ty} {t : Nat} (D : Done N D ops Φ a0 σ0 a σ) (h : T.has σ0 (a0.eval (.tmp t))) (ht : (ops.toList.all fun o => o.dst != some t) = true) : T.has σ (a.eval (.tmp t)) := kp (D.same t ht) D.stp h
theorem Done.ko {N : Nat} {D : List Deferred} {ops : Array Oper} {Φ : Nat → Pr} {a0 a : Act} {σ0 σ : GW} {R : Pr} {t : Nat} (D : Done N D ops Φ a0 σ0 a σ) (h : R.has σ0 (a0.eval (.tmp t))) (ht : (ops.toList.all fun o => o.dst != some t) = true) : R.has σ (a.eval (.tmp t)) := kpo (D.same t ht) D.stp h
theorem Half.kt {m N : Nat} {D : List Deferred} {ops : Array Oper} {Φ : Nat → Pr} {a0 a : Act} {σ0 σ : GW} {T : Ty} {t : Nat} (D : Half m N D ops Φ a0 σ0 a σ) (h : T.has σ0 (a0.eval (.tmp t))) (ht : ((ops.toList.take m).all fun o => o.dst != some t) = true) : T.has σ (a.eval (.tmp t)) := kp (D.same t ht) D.stp h
theorem Half.ko {m N : Nat} {D : List Deferred} {ops : Array Oper} {Φ : Nat → Pr} {a0 a : Act} {σ0 σ : GW} {R : Pr} {t : Nat} (D : Half m N D ops Φ a0 σ0 a σ) (h : R.has σ0 (a0.eval (.tmp t))) (ht : ((ops.toList.take m).all fun o => o.dst != some t) = true) : R.has σ (a.eval (.tmp t)) := kpo (D.same t ht) D.stp h
theorem cvt {T U : Ty} {σ : GW} {v : Value} (e : T = U) (h : T.has σ v) : U.has σ v := e ▸ h
theorem cvi {m n : Int} {k : IntKind} {σ : GW} {v : Value} (e : m = n) (h : (Ty.val (.int k m)).has σ v) : (Ty.val (.int k n)).has σ v := e ▸ h
theorem cvb {m n : Bool} {σ : GW} {v : Value} (e : m = n) (h : (Ty.bool m).has σ v) : (Ty.bool n).has σ v := e ▸ h
theorem lst_get {α : Type} (f : α → Ty) (xs : List α) (d : α) (k : Nat) (h : k < xs.length) : (xs.map f)[k]? = some (f (xs.getD k d)) := by simp [h]
end Go.KL

/- Short words for walks. -/
namespace Go.KL
variable {P : Program}
theorem ed {ops : Array Oper} {Φ : Nat → Pr} {j d : Nat} {a : Act} {σ : GW} {T : Ty} {b : Bool} (h : b = true → rd ops Φ j a σ) (hb : b = true) (hd : dstOf ops j = some d) (hT : Φ j = Ty.pr T) : At T σ a (.tmp d) := by
  have h1 := h hb
  unfold rd at h1
  rw [hd, hT] at h1
  exact h1
theorem Done.dn {N : Nat} {D : List Deferred} {ops : Array Oper} {Φ : Nat → Pr} {a0 : Act} {σ0 : GW} {a : Act} {σ : GW} {d : Nat} {T : Ty} (h : Done N D ops Φ a0 σ0 a σ) (j : Nat) (hd : dstOf ops j = some d) (hT : Φ j = Ty.pr T) : At T σ a (.tmp d) := by
  have h1 := h.done j
  unfold rd at h1
  rw [hd, hT] at h1
  exact h1
theorem Half.dn {m N : Nat} {D : List Deferred} {ops : Array Oper} {Φ : Nat → Pr} {a0 : Act} {σ0 : GW} {a : Act} {σ : GW} {d : Nat} {T : Ty} (h : Half m N D ops Φ a0 σ0 a σ) (j : Nat) (hj : j < m) (hd : dstOf ops j = some d) (hT : Φ j = Ty.pr T) : At T σ a (.tmp d) := by
  have h1 := h.done j hj
  unfold rd at h1
  rw [hd, hT] at h1
  exact h1
theorem rP {ops : Array Oper} {o : Oper} {a : Act} {σ : GW} {R : Pr} (h : Yld P o a σ R) (hg : o.guard = none := by rfl) : Run P ops o a σ R := run_plain hg h
def prs (l : List Ty) (i_ : Nat) : Pr := List.getD (l.map Ty.pr) i_ Pr.any
theorem rg {N : Nat} {D : List Deferred} {ops : Array Oper} {id : Nat} {draw : Bool} {Q : Exit → Act → World → Prop} (a : Act) (σ : GW) (l : List Ty) (ok : Ok N D a) (hob : Obls P N D ops (prs l) a σ 0 ops.toList) (hQ : ∀ a' σ', Done N D ops (prs l) a σ a' σ' → Q .normal a' σ'.w)
    (hP : P.follows .mixedOrders = true := by rfl) (hF : formB N ops = true := by rfl) : (Code.region id ops draw).wp P Q a σ.w := reg hP (prs l) ok hF hob hQ
end Go.KL

/- What single operations yield. -/
namespace Go.KL
variable {P : Program} {d : Option Tmp} {ty : TypeId} {pos : String} {af : Array Edge} {g : Option (Nat × Bool)} {a : Act} {σ : GW}

theorem y_move {x : Operand} {R : Pr} (h : R.has σ (a.eval x)) : Yld P ⟨d, .move x, ty, pos, af, g⟩ a σ R := Yld.of_run rfl h
theorem y_assign {x : Operand} {R : Pr} (h : R.has σ (a.eval x)) : Yld P ⟨d, .assign x, ty, pos, af, g⟩ a σ R := Yld.of_run rfl h

section ints
variable {t u : TypeId} {x y : Operand} {k : IntKind} {m n : Int} (hx : a.eval x = .int k m) (hy : a.eval y = .int k n)
include hx hy
theorem y_eql : Yld P ⟨d, .binOp .eql t x y u, ty, pos, af, g⟩ a σ (Ty.bool (decide (m = n))).pr :=
  Yld.of_run (v := .bool (m == n)) (by simp only [execOp, hx, hy]; simp [go_sem]) (by show Value.bool (m == n) = _; congr 1)
theorem y_neq : Yld P ⟨d, .binOp .neq t x y u, ty, pos, af, g⟩ a σ (Ty.bool (decide (m ≠ n))).pr :=
  Yld.of_run (v := .bool (m != n)) (by simp only [execOp, hx, hy]; simp [go_sem]) (by show Value.bool (m != n) = _; congr 1; rw [Bool.eq_iff_iff]; simp)
theorem y_lss : Yld P ⟨d, .binOp .lss t x y u, ty, pos, af, g⟩ a σ (Ty.bool (decide (m < n))).pr :=
  Yld.of_run (by simp only [execOp, hx, hy]; simp [go_sem]) rfl
theorem y_leq : Yld P ⟨d, .binOp .leq t x y u, ty, pos, af, g⟩ a σ (Ty.bool (decide (m ≤ n))).pr :=
  Yld.of_run (by simp only [execOp, hx, hy]; simp [go_sem]) rfl
theorem y_gtr : Yld P ⟨d, .binOp .gtr t x y u, ty, pos, af, g⟩ a σ (Ty.bool (decide (n < m))).pr :=
  Yld.of_run (by simp only [execOp, hx, hy]; simp [go_sem]) rfl
theorem y_geq : Yld P ⟨d, .binOp .geq t x y u, ty, pos, af, g⟩ a σ (Ty.bool (decide (n ≤ m))).pr :=
  Yld.of_run (by simp only [execOp, hx, hy]; simp [go_sem]) rfl
theorem y_add (h : k.wrap (m + n) = m + n) : Yld P ⟨d, .binOp .add t x y u, ty, pos, af, g⟩ a σ (Ty.val (.int k (m + n))).pr :=
  Yld.of_run (by simp only [execOp, hx, hy]; simp [go_sem]; rfl) (by rw [h]; rfl)
theorem y_sub (h : k.wrap (m - n) = m - n) : Yld P ⟨d, .binOp .sub t x y u, ty, pos, af, g⟩ a σ (Ty.val (.int k (m - n))).pr :=
  Yld.of_run (by simp only [execOp, hx, hy]; simp [go_sem]; rfl) (by rw [h]; rfl)
end ints

theorem w64 {n : Int} (h1 : -9223372036854775808 ≤ n) (h2 : n ≤ 9223372036854775807) : IntKind.i64.wrap n = n := IntWalk.i64_in n ⟨h1, h2⟩

theorem y_remN {t u : TypeId} {x y : Operand} {m n : Nat} (hx : a.eval x = .int .i64 m) (hy : a.eval y = .int .i64 n) (hn : 0 < n) : Yld P ⟨d, .binOp .rem t x y u, ty, pos, af, g⟩ a σ (Ty.nat (m % n)).pr := by
  refine Yld.of_run (v := .int .i64 ((m : Int).tmod n)) ?_ ?_
  · simp only [execOp, hx, hy]; simp [go_sem]; omega
  · show Value.int .i64 ((m : Int).tmod n) = .int .i64 ((m % n : Nat) : Int)
    rw [Int.tmod_eq_emod_of_nonneg (by omega)]; rfl
theorem y_neg {t : TypeId} {x : Operand} {m : Int} (hx : a.eval x = .int .i64 m) (h : IntKind.i64.wrap (-m) = -m) : Yld P ⟨d, .unOp .neg t x, ty, pos, af, g⟩ a σ (Ty.int (-m)).pr :=
  Yld.of_run (v := .int .i64 (IntKind.i64.wrap (-m))) (by simp only [execOp, hx]; simp [go_sem]) (by rw [h]; rfl)
theorem y_not {t : TypeId} {x : Operand} {b : Bool} (hx : a.eval x = .bool b) : Yld P ⟨d, .unOp .not t x, ty, pos, af, g⟩ a σ (Ty.bool (!b)).pr :=
  Yld.of_run (v := .bool (!b)) (by simp only [execOp, hx]; simp [go_sem]) rfl

theorem y_pick_or {c x y : Operand} {b e : Bool} (hc : a.eval c = .bool b) (hx : a.eval x = .bool true) (hy : (Ty.grd (b = false) (.bool e)).has σ (a.eval y)) :
    Yld P ⟨d, .pick c x y, ty, pos, af, g⟩ a σ (Ty.bool (b || e)).pr := by
  cases b with
  | true => exact Yld.of_run (v := .bool true) (by simp only [execOp, hc, hx]; simp [go_sem]) rfl
  | false =>
    have h : a.eval y = .bool e := hy.1 rfl
    exact Yld.of_run (v := .bool e) (by simp only [execOp, hc, h]; simp [go_sem]) rfl
theorem y_pick_and {c x y : Operand} {b e : Bool} (hc : a.eval c = .bool b) (hx : (Ty.grd (b = true) (.bool e)).has σ (a.eval x)) (hy : a.eval y = .bool false) :
    Yld P ⟨d, .pick c x y, ty, pos, af, g⟩ a σ (Ty.bool (b && e)).pr := by
  cases b with
  | true =>
    have h : a.eval x = .bool e := hx.1 rfl
    exact Yld.of_run (v := .bool e) (by simp only [execOp, hc, h]; simp [go_sem]) rfl
  | false => exact Yld.of_run (v := .bool false) (by simp only [execOp, hc, hy]; simp [go_sem]) rfl

theorem run_builtin1 {b : Builtin} {x : Operand} {v u : Value} {t : TypeId} {w w' : World} (hx : a.eval x = v) (h : ∀ cs, (builtin b #[t] ty cs #[v]).run P w = .ok (.value u) w') : (execOp a.eval ⟨d, .call ⟨.builtin b, #[x], #[t]⟩, ty, pos, af, g⟩).run P w = .ok (.value u) w' := by
  simp only [execOp, resolve, Sem.run_bind, Sem.run_pure, Result.andThen_ok, invoke, List.map_toArray, List.map_cons, List.map_nil, hx]
  exact h _
theorem y_len {x : Operand} {c n : Nat} {ts : List Ty} {t e : TypeId} (ht : P.underlying t = some (.slice e)) (hx : At (.sl c n ts) σ a x) :
    Yld P ⟨d, .call ⟨.builtin .len, #[x], #[t]⟩, ty, pos, af, g⟩ a σ (Ty.int n).pr := by
  obtain ⟨ad, cap, b, o, e1, _⟩ := hx
  exact Yld.of_run (v := .int .i64 n) (run_builtin1 e1 (fun cs => by simp [builtin, Builtin.len_, run_underlying ht, goInt])) rfl
theorem y_len_str {x : Operand} {s : ByteArray} {t : TypeId} (ht : P.underlying t = some .string) (hx : a.eval x = .string s) :
    Yld P ⟨d, .call ⟨.builtin .len, #[x], #[t]⟩, ty, pos, af, g⟩ a σ (Ty.int s.size).pr :=
  Yld.of_run (v := .int .i64 s.size) (run_builtin1 hx (fun cs => by simp [builtin, Builtin.len_, run_underlying ht, goInt])) rfl

def Info (P : Program) (e : TypeId) (z : Value) (c b : Nat) : Prop := (P.info? e).map (fun i => (i.zero, i.size, i.bytes)) = some (some z, c, b)
theorem Info.size {e : TypeId} {z : Value} {c b : Nat} (h : Info P e z c b) (w : World) : (sizeOf e).run P w = .ok c w := by
  unfold Info at h
  cases hi : P.info? e with
  | none => simp [hi] at h
  | some i =>
    rw [hi] at h; simp at h
    simp [sizeOf, typeInfo, hi, h.2.1]
theorem Info.zero {e : TypeId} {z : Value} {c b : Nat} (h : Info P e z c b) (w : World) : (zeroValue e).run P w = .ok z w := by
  unfold Info at h
  cases hi : P.info? e with
  | none => simp [hi] at h
  | some i =>
    rw [hi] at h; simp at h
    simp [zeroValue, typeInfo, hi, h.1]

theorem y_indexAddr {x y : Operand} {c n : Nat} {ts us : List Ty} {t e : TypeId} {z : Value} {b : Nat} {k : IntKind} {i : Int} (ht : P.underlying t = some (.slice e)) (he : Info P e z c b)
    (hx : At (.sl c n ts) σ a x) (hy : a.eval y = .int k i) (h0 : 0 ≤ i) (h1 : i < n) (hc : 0 < c) (hu : ∀ j, j < c → ts[i.toNat * c + j]? = us[j]?) (hl : us.length = c) :
    Yld P ⟨d, .indexAddr t x y, ty, pos, af, g⟩ a σ (Ty.ref us).pr := by
  obtain ⟨ad, cap, b, o, e1, hn, hlen, hs, hcl⟩ := hx
  have hne : ts ≠ [] := by
    intro h; subst h
    have hp : 0 < n * c := Nat.mul_pos (by omega) hc
    simp at hlen; omega
  obtain ⟨rfl, hst⟩ := hs.resolve_left hne
  refine Yld.of_run (v := .pointer (some ⟨b, o + i.toNat * c, none⟩)) ?_ ⟨b, o + i.toNat * c, rfl, hst, fun j T hj => ?_⟩
  · simp only [execOp, e1, hy]
    simp [Instr.indexAt, asIntOf, run_underlying ht, h0, h1, he.size, Addr.add_lit]
  · have hj' : j < c := by rw [← hl]; exact (List.getElem?_eq_some_iff.1 hj).1
    have := hcl (i.toNat * c + j) T (by rw [hu j hj']; exact hj)
    rwa [← Nat.add_assoc] at this
theorem y_index1 {x y : Operand} {n : Nat} {ts : List Ty} {T : Ty} {t e : TypeId} {z : Value} {b : Nat} {k : IntKind} {i : Int} (ht : P.underlying t = some (.slice e)) (he : Info P e z 1 b)
    (hx : At (.sl 1 n ts) σ a x) (hy : a.eval y = .int k i) (h0 : 0 ≤ i) (hT : ts[i.toNat]? = some T) :
    Yld P ⟨d, .indexAddr t x y, ty, pos, af, g⟩ a σ (Ty.ref [T]).pr := by
  have hlt := (List.getElem?_eq_some_iff.1 hT).1
  have hn : ts.length = n := by obtain ⟨_, _, _, _, _, _, h, _⟩ := hx; omega
  exact y_indexAddr ht he hx hy h0 (by omega) (by decide) (fun j hj => by
    obtain rfl : j = 0 := by omega
    simpa using hT) rfl

theorem y_load {x : Operand} {ts : List Ty} {T : Ty} {t : TypeId} {dd : TypeDesc} (ht : P.underlying t = some dd) (hd : dd.isRow = false) (hx : At (.ref ts) σ a x) (hT : ts[0]? = some T) :
    Yld P ⟨d, .load t x, ty, pos, af, g⟩ a σ T.pr := by
  obtain ⟨b, o, e1, hst, hc⟩ := hx
  obtain ⟨u, hu, hT⟩ := hc 0 T hT
  refine Yld.of_run (v := u) ?_ hT
  have hagg : (isAgg t).run P σ.w = .ok false σ.w := by
    unfold isAgg
    rw [Sem.run_bind, run_underlying ht σ.w]
    cases dd <;> simp_all
  have hu' : σ.w.cell? ⟨b, o, none⟩ = some u := hu
  simp only [execOp, e1]
  simp [Instr.loadAt, Instr.sureAddr, loadVar, Sem.run_bind, hagg, load, Sem.run, hu']

theorem y_call {f : FuncId} {fn : Func} {xs : Array Operand} {tys : Array TypeId} {R : Ty} (args : Array Value) (hf : P.funcs[f]? = some fn) (hn : (fn.name == "runtime.NumGoroutine") = false) (hb : fn.body.isNone = false) (hargs : xs.map a.eval = args) (hc : FnC P f args σ R) :
    Yld P ⟨d, .call ⟨.value (.func f), xs, tys⟩, ty, pos, af, g⟩ a σ R.pr := by
  intro K Q hk
  have hr : (execOp a.eval ⟨d, .call ⟨.value (.func f), xs, tys⟩, ty, pos, af, g⟩).run P σ.w = .ok (.enter f args) σ.w := by
    have hn' : ¬ fn.name = "runtime.NumGoroutine" := by simpa using hn
    have hb' : ¬ fn.body = none := by intro e; simp [e] at hb
    simp only [execOp, resolve, hargs]
    simp [Act.eval, Deferred.ofValue, invoke, callFunc, hf, hn', hb', program, Sem.run, Sem.run_bind]
  unfold Oper.wp
  rw [hr]
  refine Calls.mono hc ?_
  rintro e w' ⟨v, τ, rfl, hs, rfl, hv⟩
  exact hk v τ hs hv

theorem y_ext2_0 {x : Operand} {T U : Ty} (hx : At (.tup2 T U) σ a x) : Yld P ⟨d, .extract x 0, ty, pos, af, g⟩ a σ T.pr := by
  obtain ⟨v, w, e, h, _⟩ := hx
  exact Yld.of_run (v := v) (by simp only [execOp, e]; simp [Instr.extract]) h
theorem y_ext2_1 {x : Operand} {T U : Ty} (hx : At (.tup2 T U) σ a x) : Yld P ⟨d, .extract x 1, ty, pos, af, g⟩ a σ U.pr := by
  obtain ⟨v, w, e, _, h⟩ := hx
  exact Yld.of_run (v := w) (by simp only [execOp, e]; simp [Instr.extract]) h
theorem y_ext3_0 {x : Operand} {T U V : Ty} (hx : At (.tup3 T U V) σ a x) : Yld P ⟨d, .extract x 0, ty, pos, af, g⟩ a σ T.pr := by
  obtain ⟨v, w, z, e, h, _⟩ := hx
  exact Yld.of_run (v := v) (by simp only [execOp, e]; simp [Instr.extract]) h
theorem y_ext3_1 {x : Operand} {T U V : Ty} (hx : At (.tup3 T U V) σ a x) : Yld P ⟨d, .extract x 1, ty, pos, af, g⟩ a σ U.pr := by
  obtain ⟨v, w, z, e, _, h, _⟩ := hx
  exact Yld.of_run (v := w) (by simp only [execOp, e]; simp [Instr.extract]) h
theorem y_ext3_2 {x : Operand} {T U V : Ty} (hx : At (.tup3 T U V) σ a x) : Yld P ⟨d, .extract x 2, ty, pos, af, g⟩ a σ V.pr := by
  obtain ⟨v, w, z, e, _, _, h⟩ := hx
  exact Yld.of_run (v := z) (by simp only [execOp, e]; simp [Instr.extract]) h

def GW.seal (σ : GW) (o : Obj) : GW := ⟨σ.w.alloc o, fun b => if b = σ.w.heap.size then 1 else σ.st b, fun b hb => by
  by_cases e : b = σ.w.heap.size
  · subst e; simp
  · simp only [e, if_false] at hb
    have := σ.lt b hb
    simp; omega⟩
theorem Stp.seal (σ : GW) (o : Obj) : Stp 0 σ (σ.seal o) :=
  ⟨rfl, rfl, rfl, Dr.refl _, by simp [GW.seal], fun b hb _ => heap_alloc_old σ.w o hb, fun b hb _ => by simp only [GW.seal]; rw [if_neg (by omega)]⟩

theorem y_build1 {x : Operand} {t e : TypeId} {T : Ty} {z : Value} {b : Nat} (ht : P.underlying t = some (.slice e)) (he : Info P e z 1 b) (hz : z.cells.size = 1) (hx : At T σ a x) (h1 : (a.eval x).cells = #[a.eval x]) :
    Yld P ⟨d, .buildSlice t 1 #[(0, x)], ty, pos, af, g⟩ a σ (Ty.sl 1 1 [T]).pr := by
  intro K Q hk
  have hr : (execOp a.eval ⟨d, .buildSlice t 1 #[(0, x)], ty, pos, af, g⟩).run P σ.w = .ok (.value (.slice (some ⟨σ.w.heap.size, 0, none⟩) 1 1)) (σ.w.alloc (.cells #[a.eval x] e)) := by
    simp only [execOp, List.map_toArray, List.map_cons, List.map_nil]
    generalize a.eval x = v at h1 ⊢
    have hr : Array.range 1 = #[0] := rfl
    simp [Instr.buildSlice, run_underlying ht, he.size, he.zero, Instr.fill, h1, hz, newRow, newObj, Sem.run, Sem.run_bind, hr]
  unfold Oper.wp
  rw [hr]
  refine hk _ (σ.seal (.cells #[a.eval x] e)) (Stp.seal _ _) ⟨_, 1, σ.w.heap.size, 0, rfl, ⟨Nat.le_refl _, by decide⟩, rfl, .inr ⟨rfl, by simp [GW.seal]⟩, fun j U hj => ?_⟩
  match j, hj with
  | 0, hj =>
    simp at hj; subst hj
    refine ⟨a.eval x, ?_, T.up (Stp.seal _ _).le0 hx⟩
    show World.cell? (σ.w.alloc _) _ = _
    simp only [World.cell?, heap_alloc_new]
    rfl
end Go.KL

/- Rows of cells that the function itself made, and writes. -/
namespace Go.KL
open Go.RowKit
variable {P : Program}

def Own (σ : GW) (k : Nat) (e : TypeId) (c : Nat) (v : Value) (n : Nat) (ts : List Ty) : Prop :=
  ∃ us, σ.w.ownsRow 0 e c v n us ∧ us.length = ts.length ∧ (∀ (j : Nat) (T : Ty) (u : Value), ts[j]? = some T → us[j]? = some u → T.has σ u) ∧ ∀ g, v.ownBlock = some g → σ.st g = k

theorem ownsRow_same {w w' : World} {base : Nat} {e : TypeId} {c : Nat} {v : Value} {n : Nat} {us : List Value} (h : w.ownsRow base e c v n us) (hb : ∀ g, v.ownBlock = some g → w'.heap[g]? = w.heap[g]?) : w'.ownsRow base e c v n us := by
  refine ⟨h.1, ?_⟩
  rcases h.2 with hn | ⟨g, cap, cur, rfl, hbg, hg, rest⟩
  · exact .inl hn
  · exact .inr ⟨g, cap, cur, rfl, hbg, by rw [hb g rfl]; exact hg, rest⟩

theorem Own.keep {m k : Nat} {σ τ : GW} {e : TypeId} {c : Nat} {v : Value} {n : Nat} {ts : List Ty} (h : Own σ k e c v n ts) (hs : Stp m σ τ) (hm : m ≠ 1) (hk : m = 0 ∨ k ≠ m) : Own τ k e c v n ts := by
  obtain ⟨us, h1, h2, h3, h4⟩ := h
  have hlt : ∀ g, v.ownBlock = some g → g < σ.w.heap.size := fun g hg => (h1.lt g hg).2
  have hq : ∀ g, v.ownBlock = some g → m = 0 ∨ σ.st g ≠ m := fun g hg => by rw [h4 g hg]; omega
  exact ⟨us, ownsRow_same h1 (fun g hg => hs.blk g (hlt g hg) (hq g hg)), h2, fun j T u hj hu => T.up (hs.le hm) (h3 j T u hj hu), fun g hg => (hs.st g (hlt g hg) (hq g hg)).trans (h4 g hg)⟩

def Pr.own (k : Nat) (e : TypeId) (c n : Nat) (ts : List Ty) : Pr := ⟨fun σ v => Own σ k e c v n ts, fun hs h => h.keep hs (by decide) (.inl rfl)⟩

theorem Own.nil (σ : GW) (k : Nat) (e : TypeId) (c : Nat) : Own σ k e c (.slice none 0 0) 0 [] :=
  ⟨[], World.ownsRow_nil _ _ _ _, rfl, fun _ _ _ h => by simp at h, fun g h => by simp [Value.ownBlock] at h⟩

theorem Own.len {σ : GW} {k : Nat} {e : TypeId} {c : Nat} {v : Value} {n : Nat} {ts : List Ty} (h : Own σ k e c v n ts) : ts.length = n * c := by
  obtain ⟨us, h1, h2, _⟩ := h
  rw [← h2]; exact h1.1

def GW.shut (σ : GW) (g : Option Nat) : GW := ⟨σ.w, fun b => if g = some b ∧ σ.st b ≠ 0 then 1 else σ.st b, fun b h => σ.lt b (by
  intro e; simp [e] at h)⟩

theorem Own.seal {σ : GW} {k : Nat} {e : TypeId} {c : Nat} {v : Value} {n : Nat} {ts : List Ty} (h : Own σ k e c v n ts) (hk : 2 ≤ k) : ∃ τ : GW, τ.w = σ.w ∧ Stp k σ τ ∧ (Ty.sl c n ts).has τ v := by
  obtain ⟨us, h1, h2, h3, h4⟩ := h
  have hs : Stp k σ (σ.shut v.ownBlock) := ⟨rfl, rfl, rfl, Dr.refl _, Nat.le_refl _, fun _ _ _ => rfl, fun b hb hm => by
    have : σ.st b ≠ k := by omega
    simp only [GW.shut]
    rw [if_neg]
    rintro ⟨hg, _⟩
    exact this (h4 b hg)⟩
  refine ⟨σ.shut v.ownBlock, rfl, hs, ?_⟩
  have hle := hs.le (by omega)
  rcases h1.2 with ⟨rfl, rfl⟩ | ⟨g, cap, cur, rfl, hb, hg, hn, hm, hcs, ht⟩
  · have hus : us = [] := List.eq_nil_of_length_eq_zero (by rw [h1.1]; simp)
    have hts : ts = [] := List.eq_nil_of_length_eq_zero (by rw [← h2, hus]; rfl)
    subst hts
    exact ⟨none, 0, 0, 0, rfl, ⟨Nat.le_refl _, by decide⟩, by simp, .inl rfl, fun j T hj => by simp at hj⟩
  · refine ⟨some ⟨g, 0, none⟩, cap, g, 0, rfl, ⟨hn, hm⟩, by rw [← h2]; exact h1.1, .inr ⟨rfl, ?_⟩, fun j T hj => ?_⟩
    · have := h4 g rfl
      simp only [GW.shut, Value.ownBlock]
      rw [if_pos ⟨trivial, by omega⟩]
    · obtain ⟨u, hu⟩ : ∃ u, us[j]? = some u := ⟨us[j]'(by rw [h2]; exact (List.getElem?_eq_some_iff.1 hj).1), by simp⟩
      refine ⟨u, ?_, T.up hle (h3 j T u hj hu)⟩
      have := h1.cells (g := g) rfl j u hu
      rwa [Addr.add_lit] at this

def One (T : Ty) : Prop := ∀ σ v, T.has σ v → v.oneCell' = true
theorem one_val {v : Value} (h : v.oneCell' = true) : One (.val v) := fun _ u hu => by
  have : u = v := hu
  rw [this]; exact h
theorem one_sl {c n : Nat} {ts : List Ty} : One (.sl c n ts) := fun _ u ⟨_, _, _, _, e, _⟩ => by rw [e]; rfl
theorem one_ref {ts : List Ty} : One (.ref ts) := fun _ u ⟨_, _, e, _⟩ => by rw [e]; rfl
theorem cells_of_one {v : Value} (h : v.oneCell' = true) : v.cells = #[v] := by cases v <;> first | rfl | simp [Value.oneCell'] at h

theorem y_build1o {d : Option Tmp} {ty : TypeId} {pos : String} {af : Array Edge} {g : Option (Nat × Bool)} {a : Act} {σ : GW} {x : Operand} {t e : TypeId} {T : Ty} {z : Value} {b : Nat} (ht : P.underlying t = some (.slice e)) (he : Info P e z 1 b) (hz : z.cells.size = 1) (h1 : One T) (hx : At T σ a x) :
    Yld P ⟨d, .buildSlice t 1 #[(0, x)], ty, pos, af, g⟩ a σ (Ty.sl 1 1 [T]).pr := y_build1 ht he hz hx (cells_of_one (h1 _ _ hx))

def GW.setRow (σ : GW) (g : Nat) (cs : Array Value) : GW := ⟨σ.w.setRow g cs, σ.st, fun b h => by have := σ.lt b h; simpa [World.setRow] using this⟩
theorem Stp.setRow {σ : GW} {g k : Nat} {cs : Array Value} (hg : σ.st g = k) (hk : k ≠ 0) : Stp k σ (σ.setRow g cs) :=
  ⟨rfl, rfl, rfl, Dr.refl _, by simp [GW.setRow, World.setRow], fun b _ hm => setRow_other σ.w g b cs (by rintro rfl; omega), fun _ _ _ => rfl⟩
def GW.mk' (σ : GW) (k : Nat) (o : Obj) : GW := ⟨σ.w.alloc o, fun b => if b = σ.w.heap.size then k else σ.st b, fun b hb => by
  by_cases e : b = σ.w.heap.size
  · subst e; simp
  · simp only [e, if_false] at hb
    have := σ.lt b hb
    simp; omega⟩
theorem Stp.mk' (σ : GW) (k : Nat) (o : Obj) : Stp 0 σ (σ.mk' k o) :=
  ⟨rfl, rfl, rfl, Dr.refl _, by simp [GW.mk'], fun b hb _ => heap_alloc_old σ.w o hb, fun b hb _ => by simp only [GW.mk']; rw [if_neg (by omega)]⟩

theorem Info.get {e : TypeId} {z : Value} {c by_ : Nat} (he : Info P e z c by_) : ∃ i, P.info? e = some i ∧ i.zero = some z ∧ i.size = c ∧ i.bytes = by_ := by
  unfold Info at he
  cases hi : P.info? e with
  | none => simp [hi] at he
  | some i => rw [hi] at he; simp at he; exact ⟨i, rfl, he⟩

theorem Own.intro {σ : GW} {k : Nat} {e : TypeId} {c n cap g : Nat} {cur : Array Value} {us : List Value} {ts : List Ty} (hg : σ.w.heap[g]? = some (.cells cur e (0, 0))) (hst : σ.st g = k) (hn : n ≤ cap) (hcap : cap ≤ maxLen) (hcur : cur.size = cap * c) (hus : cur.toList.take (n * c) = us)
    (hl : us.length = ts.length) (ht : ∀ (j : Nat) (T : Ty) (u : Value), ts[j]? = some T → us[j]? = some u → T.has σ u) : Own σ k e c (.slice (some ⟨g, 0, none⟩) n cap) n ts :=
  ⟨us, ⟨by rw [← hus, List.length_take, Array.length_toList, hcur]; exact Nat.min_eq_left (Nat.mul_le_mul_right _ hn), .inr ⟨g, cap, cur, rfl, Nat.zero_le _, hg, hn, hcap, hcur, hus⟩⟩, hl, ht, fun b hb => by simp [Value.ownBlock] at hb; subst hb; exact hst⟩

theorem typed_append {σ : GW} {ts us : List Ty} {vs ws : List Value} (hl : vs.length = ts.length) (h1 : ∀ (j : Nat) (T : Ty) (u : Value), ts[j]? = some T → vs[j]? = some u → T.has σ u) (h2 : ∀ (j : Nat) (T : Ty) (u : Value), us[j]? = some T → ws[j]? = some u → T.has σ u) :
    ∀ (j : Nat) (T : Ty) (u : Value), (ts ++ us)[j]? = some T → (vs ++ ws)[j]? = some u → T.has σ u := by
  intro j T u hT hu
  by_cases hj : j < ts.length
  · rw [List.getElem?_append_left hj] at hT
    rw [List.getElem?_append_left (by omega)] at hu
    exact h1 j T u hT hu
  · rw [List.getElem?_append_right (by omega)] at hT
    rw [List.getElem?_append_right (by omega), hl] at hu
    exact h2 _ T u hT hu

theorem sl_news {σ : GW} {us : List Ty} {b o : Nat} (hcl : Cells σ b o us) : ∃ ws : List Value, ws.length = us.length ∧ (∀ (j : Nat) (u : Value), ws[j]? = some u → σ.w.cell? ⟨b, o + j, none⟩ = some u) ∧ ∀ (j : Nat) (T : Ty) (u : Value), us[j]? = some T → ws[j]? = some u → T.has σ u := by
  refine ⟨(List.range us.length).map fun j => (σ.w.cell? ⟨b, o + j, none⟩).getD undef, by simp, fun j u hj => ?_, fun j T u hT hu => ?_⟩
  · rw [List.getElem?_map] at hj
    cases hr : (List.range us.length)[j]? with
    | none => simp [hr] at hj
    | some x =>
      have hlt : j < us.length := by have := (List.getElem?_eq_some_iff.1 hr).1; simpa using this
      have hx : x = j := by
        have := List.getElem?_range hlt
        rw [hr] at this; exact Option.some.inj this
      subst hx
      obtain ⟨v, hv, _⟩ := hcl x us[x] (by simp [hlt])
      rw [hr] at hj; simp [hv] at hj
      rw [hv, hj]
  · have hlt := (List.getElem?_eq_some_iff.1 hT).1
    obtain ⟨v, hv, hTv⟩ := hcl j T hT
    rw [List.getElem?_map, List.getElem?_range hlt] at hu
    simp [hv] at hu
    rw [← hu]; exact hTv

theorem own_append {σ : GW} {k : Nat} {t ty e : TypeId} {z : Value} {c by_ : Nat} {v src : Value} {n m : Nat} {ts us : List Ty} (hk : 2 ≤ k) (ht : P.underlying t = some (.slice e)) (he : Info P e z c by_) (hz : z.cells.size = c) (hc : 0 < c)
    (h : Own σ k e c v n ts) (hx : (Ty.sl c m us).has σ src) (h1 : ∀ U, U ∈ us → One U) (hlen : n + m ≤ 9223372036854775807) (hbytes : (n + m) * by_ ≤ 140737488355328) :
    ∃ v' τ, (Builtin.append_ #[t, t] ty #[v, src]).run P σ.w = .ok v' τ.w ∧ Stp k σ τ ∧ Own τ k e c v' (n + m) (ts ++ us) := by
  have h0 := h
  obtain ⟨vs, r1, r2, r3, r4⟩ := h
  obtain ⟨ad, cap0, b, o, rfl, hcap0, hl, hs, hcl⟩ := hx
  obtain ⟨i, hi, hi1, rfl, rfl⟩ := he.get
  obtain ⟨ws, w1, w2, w3⟩ := sl_news hcl
  have hone : ∀ u ∈ ws, u.oneCell' = true := fun u hu => by
    obtain ⟨j, hj⟩ := List.mem_iff_getElem?.1 hu
    obtain ⟨T, hT⟩ : ∃ T, us[j]? = some T := ⟨us[j]'(by rw [← w1]; exact (List.getElem?_eq_some_iff.1 hj).1), by simp⟩
    exact h1 T (List.mem_of_getElem? hT) σ u (w3 j T u hT hj)
  have hlw : ws.length = m * i.size := by rw [w1]; exact hl
  have hl' : (vs ++ ws).length = (ts ++ us).length := by simp [r2, w1]
  -- a new array
  have new : ∀ (old : Nat) (τw : World), old < n + m → τw = σ.w.drew.alloc (.cells (vs.toArray ++ ws.toArray ++ Builtin.zeroCells z.cells (grownCap σ.w (n + m) old e - (n + m))) e) →
      ∃ τ : GW, τ.w = τw ∧ Stp k σ τ ∧ Own τ k e i.size (.slice (some ⟨σ.w.heap.size, 0, none⟩) (n + m) (grownCap σ.w (n + m) old e)) (n + m) (ts ++ us) := by
    intro old τw _ hτ
    subst hτ
    have hge := grownCap_ge σ.w (n + m) old e
    have hcm : grownCap σ.w (n + m) old e ≤ maxLen := grownCap_le_maxLen σ.w (n + m) old e hlen
    have hstp : Stp 0 σ (σ.drew.mk' k (.cells (vs.toArray ++ ws.toArray ++ Builtin.zeroCells z.cells (grownCap σ.w (n + m) old e - (n + m))) e)) := (Stp.drew σ).trans (Stp.mk' σ.drew k _)
    refine ⟨_, rfl, hstp.of0, Own.intro (us := vs ++ ws) (heap_alloc_new σ.w.drew _) (by show (if _ = _ then k else _) = k; rw [if_pos]; rfl) hge hcm ?_ ?_ hl' ?_⟩
    · simp only [Array.size_append, List.size_toArray, size_zeroCells, hz, r1.1, hlw, ← Nat.add_mul]
      congr 1; omega
    · simp only [Array.toList_append, List.append_assoc]
      rw [← List.append_assoc, show (n + m) * i.size = (vs ++ ws).length by rw [List.length_append, r1.1, hlw, Nat.add_mul]]
      exact List.take_left
    · exact typed_append r2 (fun j T u hT hu => T.up hstp.le0 (r3 j T u hT hu)) (fun j T u hT hu => T.up hstp.le0 (w3 j T u hT hu))
  rcases r1.2 with ⟨rfl, rfl⟩ | ⟨g, cap, cur, rfl, _, hg, hn, hm, hcs, htk⟩
  · have hvs : vs = [] := List.eq_nil_of_length_eq_zero (by rw [r1.1]; simp)
    by_cases hm0 : m = 0
    · subst hm0
      have hus : us = [] := List.eq_nil_of_length_eq_zero (by rw [hl]; simp)
      subst hus
      refine ⟨.slice none 0 0, σ, ?_, Stp.refl _ _, by simpa using h0⟩
      cases ad <;> simp [Builtin.append_, run_underlying ht, sizeOf, typeInfo, hi, Builtin.lenOf, Builtin.firstCells, loadCells, loadCellsFrom]
    · have hus : us ≠ [] := by
        intro e; subst e
        have : 0 < m * i.size := Nat.mul_pos (by omega) hc
        simp only [List.length_nil] at hl
        omega
      obtain ⟨rfl, hst⟩ := hs.resolve_left hus
      have hr := run_append_nil (P := P) σ.w t ty e i z ht hi hi1 ⟨b, o, none⟩ m cap0 ws hlw (fun j u hj => by rw [Addr.add_lit]; exact w2 j u hj) (by omega) (by omega) (by simp only [Nat.zero_add] at hbytes; omega)
      obtain ⟨τ, e1, e2, e3⟩ := new 0 _ (by omega) rfl
      simp only [Nat.zero_add] at e1 e3 ⊢
      exact ⟨_, τ, by rw [hr, e1, hvs]; simp, e2, e3⟩
  · have hlt : g < σ.w.heap.size := (Array.getElem?_eq_some_iff.1 hg).1
    have hgk := r4 g rfl
    by_cases hnone : ad = none
    · subst hnone
      have hus : us = [] := hs.resolve_right (fun h => by cases h.1)
      have hm0 : m = 0 := by
        subst hus
        rcases Nat.eq_zero_or_pos m with h | h
        · exact h
        · have : 0 < m * i.size := Nat.mul_pos h hc
          simp only [List.length_nil] at hl
          omega
      subst hm0; subst hus
      refine ⟨_, σ, ?_, Stp.refl _ _, by simpa using h0⟩
      simp [Builtin.append_, run_underlying ht, sizeOf, typeInfo, hi, Builtin.lenOf, Builtin.firstCells, hn, storeCells, loadCells]
    · obtain ⟨ad', rfl⟩ := Option.ne_none_iff_exists'.1 hnone
      have hnews : ∀ (j : Nat) (u : Value), ws[j]? = some u → σ.w.cell? (ad'.add j) = some u := fun j u hj => by
        rcases hs with rfl | ⟨he', _⟩
        · have : ws = [] := List.eq_nil_of_length_eq_zero w1
          subst this; simp at hj
        · cases he'; rw [Addr.add_lit]; exact w2 j u hj
      by_cases hroom : n + m ≤ cap
      · have hfit : n * i.size + ws.length ≤ cur.size := by rw [hlw, hcs, ← Nat.add_mul]; exact Nat.mul_le_mul_right _ hroom
        have hr := run_append_room (P := P) σ.w t ty e i ht hi g n cap cur hg ad' m cap0 ws hlw hnews hone hroom hfit
        have hstp : Stp k σ (σ.setRow g (cur.toList.take (n * i.size) ++ ws ++ cur.toList.drop (n * i.size + ws.length)).toArray) := Stp.setRow hgk (by omega)
        refine ⟨_, _, hr, hstp, Own.intro (us := vs ++ ws) (setRow_heap σ.w g cur _ e (0, 0) hg) hgk hroom hm ?_ ?_ hl' ?_⟩
        · simp only [List.size_toArray, List.length_append, List.length_take, List.length_drop, Array.length_toList]
          omega
        · rw [htk, show (n + m) * i.size = (vs ++ ws).length by rw [List.length_append, r1.1, hlw, Nat.add_mul]]
          exact List.take_left
        · exact typed_append r2 (fun j T u hT hu => T.up (hstp.le (by omega)) (r3 j T u hT hu)) (fun j T u hT hu => T.up (hstp.le (by omega)) (w3 j T u hT hu))
      · have holds : ∀ (j : Nat) (u : Value), vs[j]? = some u → σ.w.cell? ((⟨g, 0, none⟩ : Addr).add j) = some u := r1.cells (g := g) rfl
        have hr := run_append_grow (P := P) σ.w t ty e i z ht hi hi1 ⟨g, 0, none⟩ n cap vs r1.1 holds ad' m cap0 ws hlw hnews (by omega) (by omega) (growslice_fits (by omega) hbytes)
        obtain ⟨τ, e1, e2, e3⟩ := new cap _ (by omega) rfl
        exact ⟨_, τ, by rw [hr, e1], e2, e3⟩

variable {d : Option Tmp} {ty : TypeId} {pos : String} {af : Array Edge} {g : Option (Nat × Bool)} {a : Act} {σ : GW}

theorem m_append {k : Nat} {t e : TypeId} {z : Value} {c by_ : Nat} {x y : Operand} {n m : Nat} {ts us : List Ty} (ht : P.underlying t = some (.slice e)) (he : Info P e z c by_) (hk : 2 ≤ k) (hz : z.cells.size = c) (hc : 0 < c)
    (h : Own σ k e c (a.eval x) n ts) (hx : At (.sl c m us) σ a y) (h1 : ∀ U, U ∈ us → One U) (hlen : n + m ≤ 9223372036854775807) (hbytes : (n + m) * by_ ≤ 140737488355328) :
    YldM k P ⟨d, .call ⟨.builtin .append, #[x, y], #[t, t]⟩, ty, pos, af, g⟩ a σ (fun v τ => Own τ k e c v (n + m) (ts ++ us)) := by
  intro K Q hk'
  obtain ⟨v', τ, hr, hs, ho⟩ := own_append (ty := ty) hk ht he hz hc h hx h1 hlen hbytes
  have hr' : (execOp a.eval ⟨d, .call ⟨.builtin .append, #[x, y], #[t, t]⟩, ty, pos, af, g⟩).run P σ.w = .ok (.value v') τ.w := by
    simp only [execOp, resolve, Sem.run_bind, Sem.run_pure, Result.andThen_ok, invoke, List.map_toArray, List.map_cons, List.map_nil, builtin, hr]
  unfold Oper.wp
  rw [hr']
  exact hk' v' τ hs ho

theorem y_make {k : Nat} {t e : TypeId} {z : Value} {by_ : Nat} {x y : Operand} {kx ky : IntKind} {n : Nat} {T : Ty} (ht : P.underlying t = some (.slice e)) (he : Info P e z 1 by_) (hz : z.cells = #[z]) (hT : ∀ σ, T.has σ z)
    (hx : a.eval x = .int kx n) (hy : a.eval y = .int ky n) (hb : by_ * n ≤ 281474976710656) (hn : n ≤ 9223372036854775807) :
    Yld P ⟨d, .makeSlice t x y, ty, pos, af, g⟩ a σ (Pr.own k e 1 n (List.replicate n T)) := by
  obtain ⟨i, hi, hi1, hi2, rfl⟩ := he.get
  have hb' : (i.bytes : Int) * (n : Int) ≤ 281474976710656 := by
    have h3 : ((i.bytes * n : Nat) : Int) ≤ 281474976710656 := by omega
    rw [← Int.natCast_mul]; exact h3
  have hr := run_make (P := P) σ.w t e i z ht hi hi1 kx ky n n (by omega) (Int.le_refl _) hb' (by omega)
  intro K Q hk
  have hr' : (execOp a.eval ⟨d, .makeSlice t x y, ty, pos, af, g⟩).run P σ.w = .ok (.value (.slice (some ⟨σ.w.heap.size, 0, none⟩) n n)) (σ.w.alloc (.cells (madeCells z.cells (n * 1)) e)) := by
    simp only [execOp, hx, hy, Sem.run_bind, hr, Result.andThen_ok, Sem.run_pure, Int.toNat_natCast, hi2]
  unfold Oper.wp
  rw [hr']
  have hl : (madeCells z.cells (n * 1)).toList = List.replicate n z := by rw [hz, Nat.mul_one]; exact toList_madeCells_one z n
  refine hk _ (σ.mk' k (.cells (madeCells z.cells (n * 1)) e)) (Stp.mk' σ k _) ?_
  refine Own.intro (us := List.replicate n z) (heap_alloc_new σ.w _) (by show (if _ = _ then k else _) = k; rw [if_pos rfl]) (Nat.le_refl _) hn ?_ ?_ (by simp) ?_
  · rw [← Array.length_toList, hl]; simp
  · rw [hl]; simp
  · intro j U u hU hu
    simp only [List.getElem?_replicate] at hU hu
    split at hU
    · cases hU; rw [if_pos (by assumption)] at hu; cases hu; exact hT _
    · cases hU

theorem own_len {k : Nat} {x : Operand} {c n : Nat} {ts : List Ty} {t e e' : TypeId} (ht : P.underlying t = some (.slice e)) (h : Own σ k e' c (a.eval x) n ts) :
    Yld P ⟨d, .call ⟨.builtin .len, #[x], #[t]⟩, ty, pos, af, g⟩ a σ (Ty.int n).pr := by
  have : ∃ ad cap, a.eval x = .slice ad n cap := by
    obtain ⟨us, h1, _⟩ := h
    rcases h1.2 with ⟨e1, e2⟩ | ⟨g, cap, cur, e1, _⟩
    · exact ⟨none, 0, by rw [e1, e2]⟩
    · exact ⟨_, cap, e1⟩
  obtain ⟨ad, cap, e1⟩ := this
  exact Yld.of_run (v := .int .i64 n) (run_builtin1 e1 (fun cs => by simp [builtin, Builtin.len_, run_underlying ht, goInt])) rfl

def cellPtr (v : Value) (i : Nat) : Value := match v with
  | .slice (some a) _ _ => .pointer (some ⟨a.block, i, none⟩)
  | _ => undef

theorem Own.at {k : Nat} {e : TypeId} {c n : Nat} {v : Value} {ts : List Ty} (h : Own σ k e c v n ts) (hn : 0 < n) : ∃ g cap, v = .slice (some ⟨g, 0, none⟩) n cap ∧ σ.st g = k ∧ g < σ.w.heap.size := by
  obtain ⟨us, h1, _, _, h4⟩ := h
  rcases h1.2 with ⟨_, e2⟩ | ⟨g, cap, cur, rfl, _, hg, _⟩
  · omega
  · exact ⟨g, cap, rfl, h4 g rfl, (Array.getElem?_eq_some_iff.1 hg).1⟩

theorem own_index {k : Nat} {x y : Operand} {c n : Nat} {ts : List Ty} {t e : TypeId} {z v : Value} {b : Nat} {ki : IntKind} {i : Int} (ht : P.underlying t = some (.slice e)) (he : Info P e z c b)
    (h : Own σ k e c v n ts) (hx : a.eval x = v) (hy : a.eval y = .int ki i) (h0 : 0 ≤ i) (h1 : i < n) :
    Yld P ⟨d, .indexAddr t x y, ty, pos, af, g⟩ a σ (Ty.val (cellPtr v (i.toNat * c))).pr := by
  obtain ⟨g, cap, rfl, _, _⟩ := h.at (by omega)
  refine Yld.of_run (v := .pointer (some ⟨g, i.toNat * c, none⟩)) ?_ rfl
  simp only [execOp, hx, hy]
  simp [Instr.indexAt, asIntOf, run_underlying ht, h0, h1, he.size, Addr.add_lit]

theorem own_load {k : Nat} {x : Operand} {c n i : Nat} {ts : List Ty} {T : Ty} {t e : TypeId} {v : Value} {dd : TypeDesc} (ht : P.underlying t = some dd) (hd : dd.isRow = false) (h : Own σ k e c v n ts) (hx : a.eval x = cellPtr v i) (hT : ts[i]? = some T) :
    Yld P ⟨d, .load t x, ty, pos, af, g⟩ a σ T.pr := by
  have hlt := (List.getElem?_eq_some_iff.1 hT).1
  have hlen := h.len
  have hn : 0 < n := by
    rcases Nat.eq_zero_or_pos n with h | h
    · subst h; omega
    · exact h
  obtain ⟨g, cap, rfl, _, _⟩ := h.at hn
  obtain ⟨us, r1, r2, r3, _⟩ := h
  obtain ⟨u, hu⟩ : ∃ u, us[i]? = some u := ⟨us[i]'(by omega), by simp⟩
  have hc := r1.cellAt i (by omega)
  rw [hu] at hc
  refine Yld.of_run (v := u) ?_ (r3 i T u hT hu)
  have hagg : (isAgg t).run P σ.w = .ok false σ.w := by
    unfold isAgg
    rw [Sem.run_bind, run_underlying ht σ.w]
    cases dd <;> simp_all
  have hx' : a.eval x = .pointer (some ⟨g, i, none⟩) := hx
  simp only [execOp, hx']
  simp [Instr.loadAt, Instr.sureAddr, loadVar, Sem.run_bind, hagg, load, Sem.run, hc]

theorem m_store {k : Nat} {x y : Operand} {c n i : Nat} {ts : List Ty} {T : Ty} {t e : TypeId} {z v : Value} {by_ : Nat} (he : Info P t z 1 by_) (hk : 2 ≤ k) (h : Own σ k e c v n ts) (hx : a.eval x = cellPtr v i) (hi : i < ts.length) (hy : At T σ a y) (h1 : One T) :
    YldM k P ⟨d, .store t x y, ty, pos, af, g⟩ a σ (fun _ τ => Own τ k e c v n (ts.set i T)) := by
  have hlen := h.len
  have hn : 0 < n := by
    rcases Nat.eq_zero_or_pos n with h | h
    · subst h; omega
    · exact h
  obtain ⟨g, cap, rfl, hst, hg⟩ := h.at hn
  obtain ⟨us, r1, r2, r3, r4⟩ := h
  have ho := h1 _ _ hy
  have hc := r1.cellAt i (by omega)
  rw [List.getElem?_eq_getElem (by omega)] at hc
  have hf := r1.frozenAt i
  intro K Q hK
  have hx' : a.eval x = .pointer (some ⟨g, i, none⟩) := hx
  have hr : (execOp a.eval ⟨d, .store t x y, ty, pos, af, ‹_›⟩).run P σ.w = .ok .skip (σ.w.setCell ⟨g, i, none⟩ (a.eval y)) := by
    simp only [execOp, hx']
    have hst : (store ⟨g, i, none⟩ (a.eval y)).run P σ.w = .ok () (σ.w.setCell ⟨g, i, none⟩ (a.eval y)) := by
      rw [run_store P σ.w _ _ _ ho, hc, hf]; rfl
    simp [Instr.storeAt, Instr.sureAddr, storeVar, Sem.run_bind, cells_of_one ho, he.size, storeCells, Addr.add_zero', hst]
  unfold Oper.wp
  rw [hr]
  have hstp : Stp k σ ⟨σ.w.setCell ⟨g, i, none⟩ (a.eval y), σ.st, fun b h => by have := σ.lt b h; simpa using this⟩ :=
    ⟨rfl, rfl, rfl, Dr.refl _, by simp, fun b hb hm => Below.heap_setCell σ.w _ _ b (by rintro rfl; simp at hm; omega), fun _ _ _ => rfl⟩
  refine hK undef _ hstp ⟨us.set i (a.eval y), (r1.stored i (a.eval y)).1, by simp [r2], fun j U u hU hu => ?_, r4⟩
  by_cases hji : j = i
  · subst hji
    rw [List.getElem?_set_self (by omega)] at hU hu
    cases hU; cases hu
    exact T.up (hstp.le (by omega)) hy
  · rw [List.getElem?_set_ne (Ne.symm hji)] at hU hu
    exact U.up (hstp.le (by omega)) (r3 j U u hU hu)
theorem cvo {k : Nat} {e : TypeId} {c n n' : Nat} {ts us : List Ty} {σ : GW} {v : Value} (h1 : n = n') (h2 : ts = us) (h : (Pr.own k e c n ts).has σ v) : (Pr.own k e c n' us).has σ v := h1 ▸ h2 ▸ h
theorem kpm {m : Nat} {T : Ty} {σ σ' : GW} {a a' : Act} {x : Operand} (hs : Stp m σ σ') (hm : m ≠ 1) (e : a'.eval x = a.eval x) (h : T.has σ (a.eval x)) : T.has σ' (a'.eval x) := by rw [e]; exact T.up (hs.le hm) h
theorem al {R : Pr} {σ : GW} {v w : Value} (e : v = w) (h : R.has σ w) : R.has σ v := e ▸ h

/-! ### A variable of the function's own: a block behind a pointer -/
def OwnP (σ : GW) (k : Nat) (v : Value) (ts : List Ty) : Prop :=
  ∃ g e cur, v = .pointer (some ⟨g, 0, none⟩) ∧ σ.st g = k ∧ σ.w.heap[g]? = some (.cells cur e (0, 0)) ∧ cur.size = ts.length ∧ ∀ (j : Nat) (T : Ty) (u : Value), ts[j]? = some T → cur[j]? = some u → T.has σ u

theorem OwnP.keep {m k : Nat} {σ τ : GW} {v : Value} {ts : List Ty} (h : OwnP σ k v ts) (hs : Stp m σ τ) (hm : m ≠ 1) (hk : m = 0 ∨ k ≠ m) : OwnP τ k v ts := by
  obtain ⟨g, e, cur, h1, h2, h3, h4, h5⟩ := h
  have hlt := (Array.getElem?_eq_some_iff.1 h3).1
  have hq : m = 0 ∨ σ.st g ≠ m := by rw [h2]; omega
  exact ⟨g, e, cur, h1, (hs.st g hlt hq).trans h2, (hs.blk g hlt hq).trans h3, h4, fun j T u hj hu => T.up (hs.le hm) (h5 j T u hj hu)⟩
def Pr.ownp (k : Nat) (ts : List Ty) : Pr := ⟨fun σ v => OwnP σ k v ts, fun hs h => h.keep hs (by decide) (.inl rfl)⟩

theorem OwnP.seal {σ : GW} {k : Nat} {v : Value} {ts : List Ty} (h : OwnP σ k v ts) (hk : 2 ≤ k) : ∃ τ : GW, τ.w = σ.w ∧ Stp k σ τ ∧ (Ty.ref ts).has τ v := by
  obtain ⟨g, e, cur, rfl, h2, h3, h4, h5⟩ := h
  have hs : Stp k σ (σ.shut (some g)) := ⟨rfl, rfl, rfl, Dr.refl _, Nat.le_refl _, fun _ _ _ => rfl, fun b hb hm => by
    have : σ.st b ≠ k := by omega
    simp only [GW.shut]
    rw [if_neg]
    rintro ⟨hg, _⟩
    cases hg
    exact this h2⟩
  refine ⟨σ.shut (some g), rfl, hs, g, 0, rfl, ?_, fun j T hj => ?_⟩
  · simp only [GW.shut]; rw [if_pos ⟨trivial, by omega⟩]
  · have hlt : j < cur.size := by rw [h4]; exact (List.getElem?_eq_some_iff.1 hj).1
    refine ⟨cur[j], ?_, T.up (hs.le (by omega)) (h5 j T _ hj (by simp [hlt]))⟩
    have h3' : (σ.shut (some g)).w.heap[g]? = some (.cells cur e (0, 0)) := h3
    simp [World.cell?, h3', hlt]

theorem y_alloc {k : Nat} {e : TypeId} {z : Value} {c b : Nat} {ts : List Ty} (he : Info P e z c b) (hl : ts.length = z.cells.size) (hT : ∀ (j : Nat) (T : Ty) (u : Value), ts[j]? = some T → z.cells[j]? = some u → ∀ σ, T.has σ u) :
    Yld P ⟨d, .alloc e, ty, pos, af, g⟩ a σ (Pr.ownp k ts) := by
  intro K Q hk
  have hr' : (execOp a.eval ⟨d, .alloc e, ty, pos, af, g⟩).run P σ.w = .ok (.value (.pointer (some ⟨σ.w.heap.size, 0, none⟩))) (σ.w.alloc (.cells z.cells e)) := by
    simp only [execOp]
    simp [Instr.alloc, he.zero, newVar, newRow, newObj, Sem.run, Sem.run_bind]
  unfold Oper.wp
  rw [hr']
  exact hk _ (σ.mk' k (.cells z.cells e)) (Stp.mk' σ k _) ⟨σ.w.heap.size, e, z.cells, rfl, by show (if _ = _ then k else _) = k; rw [if_pos rfl], heap_alloc_new σ.w _, hl.symm, fun j T u hj hu => hT j T u hj hu _⟩

def ptrAt (v : Value) (i : Nat) : Value := match v with
  | .pointer (some a) => .pointer (some ⟨a.block, i, none⟩)
  | _ => undef

theorem ownp_load {k : Nat} {x : Operand} {i : Nat} {ts : List Ty} {T : Ty} {t : TypeId} {v : Value} {dd : TypeDesc} (ht : P.underlying t = some dd) (hd : dd.isRow = false) (h : OwnP σ k v ts) (hx : a.eval x = ptrAt v i) (hT : ts[i]? = some T) :
    Yld P ⟨d, .load t x, ty, pos, af, g⟩ a σ T.pr := by
  obtain ⟨gg, e', cur, rfl, h2, h3, h4, h5⟩ := h
  have hlt : i < cur.size := by rw [h4]; exact (List.getElem?_eq_some_iff.1 hT).1
  refine Yld.of_run (v := cur[i]) ?_ (h5 i T _ hT (by simp [hlt]))
  have hagg : (isAgg t).run P σ.w = .ok false σ.w := by
    unfold isAgg
    rw [Sem.run_bind, run_underlying ht σ.w]
    cases dd <;> simp_all
  have hx' : a.eval x = .pointer (some ⟨gg, i, none⟩) := hx
  have hc : σ.w.cell? ⟨gg, i, none⟩ = some cur[i] := by simp [World.cell?, h3, hlt]
  simp only [execOp, hx']
  simp [Instr.loadAt, Instr.sureAddr, loadVar, Sem.run_bind, hagg, load, Sem.run, hc]

theorem m_storep {k : Nat} {x y : Operand} {i : Nat} {ts : List Ty} {T : Ty} {t : TypeId} {z v : Value} {by_ : Nat} (he : Info P t z 1 by_) (hk : 2 ≤ k) (h : OwnP σ k v ts) (hx : a.eval x = ptrAt v i) (hi : i < ts.length) (hy : At T σ a y) (h1 : One T) :
    YldM k P ⟨d, .store t x y, ty, pos, af, g⟩ a σ (fun _ τ => OwnP τ k v (ts.set i T)) := by
  obtain ⟨gg, e', cur, rfl, h2, h3, h4, h5⟩ := h
  have ho := h1 _ _ hy
  have hlt : i < cur.size := by omega
  have hg := (Array.getElem?_eq_some_iff.1 h3).1
  have hc : σ.w.cell? ⟨gg, i, none⟩ = some cur[i] := by simp [World.cell?, h3, hlt]
  have hf : σ.w.frozen? ⟨gg, i, none⟩ = false := by simp [World.frozen?, h3]
  have hx' : a.eval x = .pointer (some ⟨gg, i, none⟩) := hx
  intro K Q hK
  have hr : (execOp a.eval ⟨d, .store t x y, ty, pos, af, g⟩).run P σ.w = .ok .skip (σ.w.setCell ⟨gg, i, none⟩ (a.eval y)) := by
    simp only [execOp, hx']
    have hst : (store ⟨gg, i, none⟩ (a.eval y)).run P σ.w = .ok () (σ.w.setCell ⟨gg, i, none⟩ (a.eval y)) := by
      rw [run_store P σ.w _ _ _ ho, hc, hf]; rfl
    simp [Instr.storeAt, Instr.sureAddr, storeVar, Sem.run_bind, cells_of_one ho, he.size, storeCells, Addr.add_zero', hst]
  unfold Oper.wp
  rw [hr]
  have hstp : Stp k σ ⟨σ.w.setCell ⟨gg, i, none⟩ (a.eval y), σ.st, fun b h => by have := σ.lt b h; simpa using this⟩ :=
    ⟨rfl, rfl, rfl, Dr.refl _, by simp, fun b hb hm => Below.heap_setCell σ.w _ _ b (by rintro rfl; simp at hm; omega), fun _ _ _ => rfl⟩
  have hh : (σ.w.setCell ⟨gg, i, none⟩ (a.eval y)).heap[gg]? = some (.cells (cur.setIfInBounds i (a.eval y)) e' (0, 0)) := by
    unfold World.setCell
    rw [Array.getElem?_modify, if_pos rfl, h3]
    rfl
  refine hK undef _ hstp ⟨gg, e', _, rfl, h2, hh, by simp [h4], fun j U u hU hu => ?_⟩
  by_cases hji : j = i
  · subst hji
    rw [List.getElem?_set_self (by omega)] at hU
    rw [Array.getElem?_setIfInBounds_self_of_lt hlt] at hu
    cases hU; cases hu
    exact T.up (hstp.le (by omega)) hy
  · rw [List.getElem?_set_ne (Ne.symm hji)] at hU
    rw [Array.getElem?_setIfInBounds_ne (Ne.symm hji)] at hu
    exact U.up (hstp.le (by omega)) (h5 j U u hU hu)

theorem cells_drop {σ : GW} {b o : Nat} {ts : List Ty} (h : Cells σ b o ts) (l n : Nat) : Cells σ b (o + l) ((ts.drop l).take n) := by
  intro j T hj
  rw [List.getElem?_take] at hj
  split at hj
  · rw [List.getElem?_drop] at hj
    have := h (l + j) T hj
    rwa [← Nat.add_assoc] at this
  · cases hj
theorem sl_cut {σ : GW} {c n l h : Nat} {ts : List Ty} {ad : Option Addr} {cap : Nat} (hv : (Ty.sl c n ts).has σ (.slice ad n cap)) (h1 : l ≤ h) (h2 : h ≤ n) : (Ty.sl c (h - l) ((ts.drop (l * c)).take ((h - l) * c))).has σ (sliced ad l h cap c) := by
  obtain ⟨ad', cap', b, o, e1, ⟨hn, hcap⟩, hl, hs, hc⟩ := hv
  cases e1
  have hlc : (h - l) * c ≤ ts.length - l * c := by rw [hl, ← Nat.sub_mul]; exact Nat.mul_le_mul_right _ (by omega)
  refine ⟨if cap = l then ad else ad.map (·.add (l * c)), cap - l, b, o + l * c, rfl, ⟨by omega, by omega⟩, by rw [List.length_take, List.length_drop]; omega, ?_, cells_drop hc _ _⟩
  by_cases he : (ts.drop (l * c)).take ((h - l) * c) = []
  · exact .inl he
  · have hne : ts ≠ [] := by rintro rfl; simp at he
    obtain ⟨rfl, hst⟩ := hs.resolve_left hne
    refine .inr ⟨?_, hst⟩
    by_cases hcl : cap = l
    · have : h - l = 0 := by omega
      rw [this] at he; simp at he
    · simp [hcl, Addr.add_lit]
theorem elem_of {t e : TypeId} (ht : P.underlying t = some (.slice e)) : P.underlying t = some (.slice (P.elem t)) := by
  rw [ht]; simp [Program.elem, ht]
theorem elem_eq {t e : TypeId} (ht : P.underlying t = some (.slice e)) : P.elem t = e := by
  simp [Program.elem, ht]
theorem y_cut_h {x y : Operand} {c n : Nat} {ts : List Ty} {t e : TypeId} {z : Value} {b : Nat} {k : IntKind} {h : Nat} (ht : P.underlying t = some (.slice e)) (he : Info P e z c b) (hx : At (.sl c n ts) σ a x) (hy : a.eval y = .int k h) (hl : h ≤ n) :
    Yld P ⟨d, .slice t x none (some y) none, ty, pos, af, g⟩ a σ (Ty.sl c h (ts.take (h * c))).pr := by
  have hx0 := hx
  obtain ⟨ad, cap, b', o, e1, ⟨hn, hcap⟩, _⟩ := hx
  have hx1 : (Ty.sl c n ts).has σ (.slice ad n cap) := by rw [← e1]; exact hx0
  have hv := sl_cut hx1 (Nat.zero_le h) hl
  simp only [Nat.zero_mul, List.drop_zero, Nat.sub_zero] at hv
  refine Yld.of_run (v := sliced ad 0 h cap c) ?_ hv
  have h1 := run_slice_h (P := P) σ.w t ad n cap (elem_of ht) k (h : Int) (by omega) (by omega)
  rw [elem_eq ht, he.size] at h1
  simp only [execOp, e1, hy, Option.map_some, Option.map_none, Sem.run_bind, run_sliceAt_slice σ.w t _ _ _ _ (elem_of ht), h1, Result.andThen_ok, Sem.run_pure, Int.toNat_natCast]
theorem lst_take {α : Type} {f : α → Ty} {xs : List α} {l : Nat} {σ : GW} {v : Value} (hl : l ≤ xs.length) (h : (Ty.sl 1 l ((xs.map f).take (l * 1))).has σ v) : (Ty.lst f (xs.take l)).has σ v := by
  rw [Nat.mul_one, ← List.map_take] at h
  simpa [Ty.lst, Nat.min_eq_left hl] using h
theorem Yld.mono {o : Oper} {R R' : Pr} (h : Yld P o a σ R) (hr : ∀ τ v, R.has τ v → R'.has τ v) : Yld P o a σ R' := fun K Q hk => h K Q fun v τ hs hv => hk v τ hs (hr τ v hv)
theorem y_take {α : Type} {f : α → Ty} {xs : List α} {x y : Operand} {t e : TypeId} {z : Value} {b : Nat} {k : IntKind} {l : Nat} (ht : P.underlying t = some (.slice e)) (he : Info P e z 1 b) (hx : At (.lst f xs) σ a x) (hy : a.eval y = .int k l) (hl : l ≤ xs.length) :
    Yld P ⟨d, .slice t x none (some y) none, ty, pos, af, g⟩ a σ (Ty.lst f (xs.take l)).pr := (y_cut_h ht he hx hy hl).mono fun _ _ h => lst_take hl h
theorem toN {σ : GW} {v : Value} {k : IntKind} {i : Int} {n : Nat} (h : (Ty.val (.int k i)).has σ v) (e : i = n) : v = .int k n := by
  have h' : v = .int k i := h
  rw [h', e]
theorem cvop {k : Nat} {ts us : List Ty} {σ : GW} {v : Value} (h2 : ts = us) (h : OwnP σ k v ts) : OwnP σ k v us := h2 ▸ h
theorem own_index1 {k : Nat} {x y : Operand} {n : Nat} {ts : List Ty} {t e : TypeId} {z v : Value} {b : Nat} {ki : IntKind} {i : Int} (ht : P.underlying t = some (.slice e)) (he : Info P e z 1 b)
    (h : Own σ k e 1 v n ts) (hx : a.eval x = v) (hy : a.eval y = .int ki i) (h0 : 0 ≤ i) (h1 : i < n) :
    Yld P ⟨d, .indexAddr t x y, ty, pos, af, g⟩ a σ (Ty.val (cellPtr v i.toNat)).pr := by
  have := own_index (d := d) (ty := ty) (pos := pos) (af := af) (g := g) ht he h hx hy h0 h1
  rwa [Nat.mul_one] at this
theorem y_lit0 {k : Nat} {t e : TypeId} {z : Value} {b : Nat} (ht : P.underlying t = some (.slice e)) (he : Info P e z 1 b) :
    Yld P ⟨d, .buildSlice t 0 #[], ty, pos, af, g⟩ a σ (Pr.own k e 1 0 []) := by
  intro K Q hk
  have hr : (execOp a.eval ⟨d, .buildSlice t 0 #[], ty, pos, af, g⟩).run P σ.w = .ok (.value (.slice (some ⟨σ.w.heap.size, 0, none⟩) 0 0)) (σ.w.alloc (.cells #[] e)) := by
    simp only [execOp, List.map_toArray, List.map_nil]
    simp [Instr.buildSlice, run_underlying ht, he.size, Instr.fill, newRow, newObj, Sem.run, Sem.run_bind, Array.range_zero']
  unfold Oper.wp
  rw [hr]
  exact hk _ (σ.mk' k (.cells #[] e)) (Stp.mk' σ k _) (Own.intro (us := []) (heap_alloc_new σ.w _) (by show (if _ = _ then k else _) = k; rw [if_pos rfl]) (Nat.le_refl _) (Nat.zero_le _) rfl rfl rfl (fun j T u h => by simp at h))
end Go.KL

/- Structs as values and behind pointers; strings that are ranged over. -/
namespace Go.KL
open Go.RowKit
variable {P : Program}

def Ty.agg (ts : List Ty) : Ty where
  has σ v := ∃ cs : Array Value, v = .agg cs ∧ cs.size = ts.length ∧ ∀ (j : Nat) (T : Ty) (u : Value), ts[j]? = some T → cs[j]? = some u → T.has σ u
  up h := by
    rintro ⟨cs, e, hl, hc⟩
    exact ⟨cs, e, hl, fun j T u hj hu => T.up h (hc j T u hj hu)⟩
def fieldOf (P : Program) (t : TypeId) (f : Nat) : Option (TypeId × Nat) :=
  match P.underlying t with
  | some (.struct fs) => (fs[f]?).map fun x => (x.type, x.offset)
  | _ => none
theorem fieldOf_iff {t : TypeId} {f off : Nat} {ft : TypeId} (h : fieldOf P t f = some (ft, off)) : ∃ fs x, P.underlying t = some (.struct fs) ∧ fs[f]? = some x ∧ x.type = ft ∧ x.offset = off := by
  unfold fieldOf at h
  split at h
  · rename_i fs hu
    cases hx : fs[f]? with
    | none => rw [hx] at h; simp at h
    | some x => rw [hx] at h; simp at h; exact ⟨fs, x, hu, hx, h.1, h.2⟩
  · cases h

variable {d : Option Tmp} {ty : TypeId} {pos : String} {af : Array Edge} {g : Option (Nat × Bool)} {a : Act} {σ : GW}

theorem run_fieldAt {t ft : TypeId} {f off b o c by_ : Nat} {z : Value} (hf : fieldOf P t f = some (ft, off)) (he : Info P ft z c by_) (hc : 0 < c) (w : World) :
    (Instr.fieldAt t (.pointer (some ⟨b, o, none⟩)) f).run P w = .ok (.pointer (some ⟨b, o + off, none⟩)) w := by
  obtain ⟨fs, x, hu, hx, rfl, rfl⟩ := fieldOf_iff hf
  have hz : (sizeOf x.type).run P w = .ok c w := he.size w
  simp [Instr.fieldAt, Sem.run_bind, run_underlying hu, hx, Instr.sureAddr, fieldPlace, he.size, show c ≠ 0 by omega, Addr.add_lit]

theorem y_field {x : Operand} {ts us : List Ty} {t ft : TypeId} {f off c by_ : Nat} {z : Value} (hf : fieldOf P t f = some (ft, off)) (he : Info P ft z c by_) (hc : 0 < c) (hx : At (.ref ts) σ a x) (hu : ts.drop off = us) :
    Yld P ⟨d, .fieldAddr t x f, ty, pos, af, g⟩ a σ (Ty.ref us).pr := by
  subst hu
  obtain ⟨b, o, e1, hst, hcl⟩ := hx
  refine Yld.of_run (v := .pointer (some ⟨b, o + off, none⟩)) ?_ ⟨b, o + off, rfl, hst, fun j T hj => ?_⟩
  · simp only [execOp, e1]
    simp [run_fieldAt hf he hc]
  · rw [List.getElem?_drop] at hj
    rw [Nat.add_assoc]; exact hcl _ T hj

theorem ownp_field {k : Nat} {x : Operand} {ts : List Ty} {t ft : TypeId} {f off c by_ : Nat} {z v : Value} (hf : fieldOf P t f = some (ft, off)) (he : Info P ft z c by_) (hc : 0 < c) (h : OwnP σ k v ts) (hx : a.eval x = v) :
    Yld P ⟨d, .fieldAddr t x f, ty, pos, af, g⟩ a σ (Ty.val (ptrAt v off)).pr := by
  obtain ⟨gg, e', cur, rfl, _⟩ := h
  refine Yld.of_run (v := .pointer (some ⟨gg, off, none⟩)) ?_ rfl
  simp only [execOp, hx]
  have := run_fieldAt (o := 0) (b := gg) hf he hc σ.w
  rw [Nat.zero_add] at this
  simp [this]

theorem run_loadCellsFrom {w : World} {ad : Addr} : ∀ (us : List Value) (i : Nat) (acc : Array Value), (∀ j u, us[j]? = some u → w.cell? (ad.add (i + j)) = some u) →
    (loadCellsFrom ad i us.length acc).run P w = .ok (acc ++ us.toArray) w
  | [], i, acc, _ => by simp [loadCellsFrom]
  | u :: us, i, acc, h => by
    have h0 : w.cell? (ad.add i) = some u := h 0 u rfl
    have hl : (load (ad.add i)).run P w = .ok u w := by simp [load, Sem.run, h0]
    have ih := run_loadCellsFrom us (i + 1) (acc.push u) (fun j v hj => by rw [show i + 1 + j = i + (j + 1) by omega]; exact h (j + 1) v hj)
    simp only [List.length_cons, loadCellsFrom, Sem.run_bind, hl, Result.andThen_ok, ih]
    simp
theorem run_loadVar {t : TypeId} {fs : Array Field} {z : Value} {c by_ : Nat} (ht : P.underlying t = some (.struct fs)) (he : Info P t z c by_) {w : World} {ad : Addr} {us : List Value} (hl : us.length = c) (h : ∀ j u, us[j]? = some u → w.cell? (ad.add j) = some u) :
    (loadVar t ad).run P w = .ok (.agg us.toArray) w := by
  have hagg : (isAgg t).run P w = .ok true w := by
    unfold isAgg
    rw [Sem.run_bind, run_underlying ht w]
    simp
  have hc := run_loadCellsFrom (P := P) us 0 #[] (fun j u hj => by rw [Nat.zero_add]; exact h j u hj)
  rw [hl] at hc
  simp [loadVar, Sem.run_bind, hagg, he.size, loadCells, hc]
theorem y_loadagg {x : Operand} {ts : List Ty} {t : TypeId} {fs : Array Field} {z : Value} {by_ : Nat} (ht : P.underlying t = some (.struct fs)) (he : Info P t z ts.length by_) (hx : At (.ref ts) σ a x) :
    Yld P ⟨d, .load t x, ty, pos, af, g⟩ a σ (Ty.agg ts).pr := by
  obtain ⟨b, o, e1, hst, hc⟩ := hx
  let us : List Value := (List.range ts.length).map fun j => (σ.w.cell? ⟨b, o + j, none⟩).getD undef
  have hu : ∀ j T, ts[j]? = some T → us[j]? = σ.w.cell? ⟨b, o + j, none⟩ ∧ ∃ u, us[j]? = some u ∧ T.has σ u := fun j T hj => by
    obtain ⟨u, hu, hT⟩ := hc j T hj
    have hlt := (List.getElem?_eq_some_iff.1 hj).1
    have : us[j]? = some u := by simp [us, hlt, hu]
    exact ⟨by rw [this, hu], u, this, hT⟩
  have hl : us.length = ts.length := by simp [us]
  refine Yld.of_run (v := .agg us.toArray) ?_ ⟨us.toArray, rfl, by simp [hl], fun j T u hj hu' => ?_⟩
  · simp only [execOp, e1]
    have := run_loadVar (P := P) ht he (w := σ.w) (ad := ⟨b, o, none⟩) hl (fun j u hj => by
      have hlt := (List.getElem?_eq_some_iff.1 hj).1
      have hT : ts[j]? = some ts[j] := by simp [show j < ts.length by omega]
      rw [Addr.add_lit, ← (hu j _ hT).1]; exact hj)
    simp [Instr.loadAt, Instr.sureAddr, this]
  · obtain ⟨_, u', e, hT⟩ := hu j T hj
    simp at hu'
    rw [hu'] at e
    cases e; exact hT
theorem ownp_loadagg {k : Nat} {x : Operand} {ts : List Ty} {t : TypeId} {fs : Array Field} {z v : Value} {by_ : Nat} (ht : P.underlying t = some (.struct fs)) (he : Info P t z ts.length by_) (h : OwnP σ k v ts) (hx : a.eval x = v) :
    Yld P ⟨d, .load t x, ty, pos, af, g⟩ a σ (Ty.agg ts).pr := by
  obtain ⟨gg, e', cur, rfl, h2, h3, h4, h5⟩ := h
  refine Yld.of_run (v := .agg cur) ?_ ⟨cur, rfl, h4, h5⟩
  simp only [execOp, hx]
  have := run_loadVar (P := P) ht he (w := σ.w) (ad := ⟨gg, 0, none⟩) (us := cur.toList) (by simp [h4]) (fun j u hj => by
    rw [Addr.add_lit, Nat.zero_add]
    simp at hj
    simp [World.cell?, h3, hj])
  simp [Instr.loadAt, Instr.sureAddr, this]
theorem run_box {t : TypeId} {v : Value} (w : World) : (Instr.box t v).run P w = .ok (.pointer (some ⟨w.heap.size, 0, none⟩)) (w.alloc (.cells v.cells t)) := by
  simp [Instr.box, newVar, newRow, newObj, Sem.run]
theorem y_boxagg {x : Operand} {ts : List Ty} {t : TypeId} (hx : At (.agg ts) σ a x) : Yld P ⟨d, .box t x, ty, pos, af, g⟩ a σ (Ty.ref ts).pr := by
  intro K Q hk
  obtain ⟨cs, e1, hl, hc⟩ := hx
  have hr : (execOp a.eval ⟨d, .box t x, ty, pos, af, g⟩).run P σ.w = .ok (.value (.pointer (some ⟨σ.w.heap.size, 0, none⟩))) (σ.w.alloc (.cells cs t)) := by
    simp only [execOp, e1]
    simp [run_box, Value.cells]
  unfold Oper.wp
  rw [hr]
  refine hk _ (σ.seal (.cells cs t)) (Stp.seal _ _) ⟨σ.w.heap.size, 0, rfl, by simp [GW.seal], fun j T hj => ?_⟩
  have hlt := (List.getElem?_eq_some_iff.1 hj).1
  refine ⟨cs[j]'(by omega), ?_, T.up (Stp.seal _ _).le0 (hc j T _ hj (by simp [show j < cs.size by omega]))⟩
  show World.cell? (σ.w.alloc _) _ = _
  simp only [World.cell?, heap_alloc_new]
  simp [show j < cs.size by omega]
theorem y_boxo (k : Nat) {x : Operand} {ts : List Ty} {t : TypeId} (hx : At (.agg ts) σ a x) : Yld P ⟨d, .box t x, ty, pos, af, g⟩ a σ (Pr.ownp k ts) := by
  intro K Q hk
  obtain ⟨cs, e1, hl, hc⟩ := hx
  have hr : (execOp a.eval ⟨d, .box t x, ty, pos, af, g⟩).run P σ.w = .ok (.value (.pointer (some ⟨σ.w.heap.size, 0, none⟩))) (σ.w.alloc (.cells cs t)) := by
    simp only [execOp, e1]
    simp [run_box, Value.cells]
  unfold Oper.wp
  rw [hr]
  exact hk _ (σ.mk' k (.cells cs t)) (Stp.mk' σ k _) ⟨σ.w.heap.size, t, cs, rfl, by show (if _ = _ then k else _) = k; rw [if_pos rfl], heap_alloc_new σ.w _, hl, fun j T u hj hu => T.up (Stp.mk' σ k _).le0 (hc j T u hj hu)⟩
/-! ### A struct that is built of its parts -/
def placesOk (P : Program) (t : TypeId) (l : List (Nat × Nat)) : Bool :=
  match P.underlying t with
  | some (.struct fs) => (fs.toList.map fun f => (P.info? f.type).map fun i => (f.offset, i.size)) == l.map some
  | _ => false
theorem run_mapM {α β : Type} {w : World} (f : α → Sem β) : ∀ (xs : List α) (ys : List β), xs.length = ys.length → (∀ (j : Nat) x y, xs[j]? = some x → ys[j]? = some y → (f x).run P w = .ok y w) → (xs.mapM f).run P w = .ok ys w
  | [], [], _, _ => by simp
  | x :: xs, y :: ys, hl, h => by
    have h0 := h 0 x y rfl rfl
    have ih := run_mapM f xs ys (by simpa using hl) (fun j x' y' hx hy => h (j + 1) x' y' hx hy)
    rw [List.mapM_cons]
    simp [Sem.run_bind, h0, ih]
  | [], _ :: _, hl, _ => by simp at hl
  | _ :: _, [], hl, _ => by simp at hl
theorem run_build {t : TypeId} {l : List (Nat × Nat)} {z : Value} {c by_ : Nat} {parts : Array (Nat × Value)} {cells : Array Value} (hp : placesOk P t l = true) (he : Info P t z c by_) (hf : Instr.fill (fun i => l[i]?) z.cells parts.toList = some cells) (w : World) :
    (Instr.build t parts).run P w = .ok (.agg cells) w := by
  unfold placesOk at hp
  split at hp
  · rename_i fs hu
    have hq : (fs.mapM fun (f : Field) => do pure (f.offset, ← sizeOf f.type)).run P w = .ok l.toArray w := by
      rw [Array.mapM_eq_mapM_toList]
      have hp := LawfulBEq.eq_of_beq hp
      have := run_mapM (P := P) (w := w) (fun f : Field => do pure (f.offset, ← sizeOf f.type)) fs.toList l (by simpa using congrArg List.length hp) (fun j x y hx hy => by
        have e := congrArg (fun q => q[j]?) hp
        simp only [List.getElem?_map, hx, hy, Option.map_some, Option.some.injEq] at e
        cases hi : P.info? x.type with
        | none => rw [hi] at e; simp at e
        | some i =>
          rw [hi] at e; simp at e
          have : (sizeOf x.type).run P w = .ok i.size w := by simp [sizeOf, typeInfo, Sem.run_bind, program, Sem.run, hi]
          rw [Sem.run_bind, this]
          simp [e])
      rw [Sem.run_map, this]; rfl
    have hf' : Instr.fill (fun i => l.toArray[i]?) z.cells parts.toList = some cells := by
      rw [← hf]; congr 1; funext i; simp
    simp only [Instr.build, Sem.run_bind, he.zero, Result.andThen_ok, run_underlying hu, hq, hf', Sem.run_pure]
  · cases hp
end Go.KL

/- Strings: their bytes, and what a loop over one meets. -/
namespace Go.KL
open Go.RowKit
variable {P : Program} {d : Option Tmp} {ty : TypeId} {pos : String} {af : Array Edge} {g : Option (Nat × Bool)} {a : Act} {σ : GW}

theorem grd_part {p q : Prop} {T : Ty} {σ : GW} {v : Value} (hp : p) (h : (Ty.grd (p ∧ q) T).has σ v) : (Ty.grd q T).has σ v := ⟨fun hq => h.1 ⟨hp, hq⟩, fun hq => h.2 fun k => hq k.2⟩
theorem y_sindex {x y : Operand} {t : TypeId} {s : ByteArray} {k : IntKind} {i : Int} (ht : P.underlying t = some .string) (hx : a.eval x = .string s) (hy : a.eval y = .int k i) (h0 : 0 ≤ i) (h1 : i < s.size) :
    Yld P ⟨d, .index t x y, ty, pos, af, g⟩ a σ (Ty.val (.int .u8 ((s.get! i.toNat).toNat : Int))).pr := by
  have hlt : i.toNat < s.size := by omega
  have e : s[i.toNat]? = some (s.get! i.toNat) := by
    rw [getElem?_pos s i.toNat hlt]
    congr 1
    show s.get _ hlt = _
    have hlt' : i.toNat < s.data.size := hlt
    simp [ByteArray.get!, ByteArray.get]
    exact (getElem!_pos s.data i.toNat hlt').symm
  refine Yld.of_run (v := .int .u8 ((s.get! i.toNat).toNat : Int)) ?_ rfl
  simp only [execOp, hx, hy]
  simp [Instr.index, Sem.run_bind, asIntOf, run_underlying ht, h0, e]

def Iter (σ : GW) (k : Nat) (v : Value) (s : ByteArray) (p : Nat) : Prop :=
  ∃ g, v = .pointer (some ⟨g, 0, none⟩) ∧ σ.st g = k ∧ σ.w.heap[g]? = some (.stringIter s p)
theorem Iter.keep {m k : Nat} {σ τ : GW} {v : Value} {s : ByteArray} {p : Nat} (h : Iter σ k v s p) (hs : Stp m σ τ) (_hm : m ≠ 1) (hk : m = 0 ∨ k ≠ m) : Iter τ k v s p := by
  obtain ⟨g, h1, h2, h3⟩ := h
  have hlt := (Array.getElem?_eq_some_iff.1 h3).1
  have hq : m = 0 ∨ σ.st g ≠ m := by rw [h2]; omega
  exact ⟨g, h1, (hs.st g hlt hq).trans h2, (hs.blk g hlt hq).trans h3⟩
def Pr.iter (k : Nat) (s : ByteArray) (p : Nat) : Pr := ⟨fun σ v => Iter σ k v s p, fun hs h => h.keep hs (by decide) (.inl rfl)⟩
theorem y_range (k : Nat) {x : Operand} {t : TypeId} {s : ByteArray} (ht : P.underlying t = some .string) (hx : a.eval x = .string s) :
    Yld P ⟨d, .range t x, ty, pos, af, g⟩ a σ (Pr.iter k s 0) := by
  intro K Q hk
  have hr : (execOp a.eval ⟨d, .range t x, ty, pos, af, g⟩).run P σ.w = .ok (.value (.pointer (some ⟨σ.w.heap.size, 0, none⟩))) (σ.w.alloc (.stringIter s 0)) := by
    simp only [execOp, hx]
    simp [Instr.range, Sem.run_bind, run_underlying ht, newObj, Sem.run]
  unfold Oper.wp
  rw [hr]
  exact hk _ (σ.mk' k (.stringIter s 0)) (Stp.mk' σ k _) ⟨σ.w.heap.size, rfl, by show (if _ = _ then k else _) = k; rw [if_pos rfl], heap_alloc_new σ.w _⟩
def Ty.nxt (b : Bool) (p : Nat) (c : Nat) : Ty := .val (if b then .tuple #[.bool true, .int .i64 p, .int .i32 c] else .tuple #[.bool false])
theorem y_ext_n0 {x : Operand} {b : Bool} {p c : Nat} (hx : At (.nxt b p c) σ a x) : Yld P ⟨d, .extract x 0, ty, pos, af, g⟩ a σ (Ty.bool b).pr := by
  have e : a.eval x = _ := hx
  cases b with
  | true => exact Yld.of_run (v := .bool true) (by simp only [execOp, e]; simp [Instr.extract]) rfl
  | false => exact Yld.of_run (v := .bool false) (by simp only [execOp, e]; simp [Instr.extract]) rfl
theorem y_ext_n2 {x : Operand} {b : Bool} {p c : Nat} (hx : At (.nxt b p c) σ a x) (hb : b = true) : Yld P ⟨d, .extract x 2, ty, pos, af, g⟩ a σ (Ty.val (.int .i32 (c : Int))).pr := by
  subst hb
  have e : a.eval x = _ := hx
  exact Yld.of_run (v := .int .i32 c) (by simp only [execOp, e]; simp [Instr.extract]) rfl
def wid (s : ByteArray) (p : Nat) : Nat := (Utf8.decode s p).2
def run1 (s : ByteArray) (p : Nat) : Nat := (Utf8.decode s p).1
theorem wid_pos (s : ByteArray) (p : Nat) : 1 ≤ wid s p := by
  unfold wid Utf8.decode
  simp only
  repeat' split
  all_goals (show 1 ≤ _; simp)
def stepTo (s : ByteArray) (p : Nat) : Nat := if p < s.size then p + wid s p else p
theorem m_next {k : Nat} {x : Operand} {s : ByteArray} {p : Nat} {v : Value} (hk : 2 ≤ k) (h : Iter σ k v s p) (hx : a.eval x = v) :
    YldM k P ⟨d, .next x true, ty, pos, af, g⟩ a σ (fun u τ => (Ty.nxt (decide (p < s.size)) p (run1 s p)).has τ u ∧ Iter τ k v s (stepTo s p)) := by
  obtain ⟨gg, rfl, h2, h3⟩ := h
  have hg := (Array.getElem?_eq_some_iff.1 h3).1
  intro K Q hK
  by_cases hp : p < s.size
  · have hr : (execOp a.eval ⟨d, .next x true, ty, pos, af, g⟩).run P σ.w = .ok (.value (.tuple #[.bool true, .int .i64 p, .int .i32 (run1 s p)])) { σ.w with heap := σ.w.heap.setIfInBounds gg (.stringIter s (p + wid s p)) } := by
      simp only [execOp, hx]
      simp [Instr.next, Sem.run_bind, getObj, setObj, Sem.run, h3, hp, goInt, run1, wid]
    unfold Oper.wp
    rw [hr]
    have hstp : Stp k σ ⟨{ σ.w with heap := σ.w.heap.setIfInBounds gg (.stringIter s (p + wid s p)) }, σ.st, fun b hb => by have := σ.lt b hb; simpa using this⟩ :=
      ⟨rfl, rfl, rfl, Dr.refl _, by simp, fun b hb hm => by simp only []; rw [Array.getElem?_setIfInBounds_ne (by rintro rfl; omega)], fun _ _ _ => rfl⟩
    refine hK _ _ hstp ⟨by rw [decide_eq_true hp]; rfl, gg, rfl, h2, ?_⟩
    simp only [stepTo, if_pos hp]
    simp [hg]
  · have hr : (execOp a.eval ⟨d, .next x true, ty, pos, af, g⟩).run P σ.w = .ok (.value (.tuple #[.bool false])) σ.w := by
      simp only [execOp, hx]
      simp [Instr.next, Sem.run_bind, getObj, Sem.run, h3, hp]
    unfold Oper.wp
    rw [hr]
    refine hK _ σ ⟨rfl, rfl, rfl, Dr.refl _, Nat.le_refl _, fun _ _ _ => rfl, fun _ _ _ => rfl⟩ ⟨by rw [decide_eq_false hp]; rfl, gg, rfl, h2, ?_⟩
    rw [stepTo, if_neg hp]; exact h3

/-! ### The runes of a string -/
def runesF (s : ByteArray) : Nat → Nat → List Nat
  | 0, _ => []
  | f + 1, p => if p < s.size then run1 s p :: runesF s f (p + wid s p) else []
def runesL (s : ByteArray) : List Nat := runesF s s.size 0
theorem runesF_end {s : ByteArray} {f p : Nat} (h : s.size ≤ p) : runesF s f p = [] := by cases f <;> simp [runesF, show ¬ p < s.size by omega]
theorem runesF_step {s : ByteArray} {f p : Nat} {xs zs : List Nat} (h : xs ++ runesF s f p = zs) (hp : p < s.size) (hf : s.size ≤ f + p) : (xs ++ [run1 s p]) ++ runesF s (f - 1) (p + wid s p) = zs := by
  obtain ⟨f, rfl⟩ : ∃ g, f = g + 1 := ⟨f - 1, by omega⟩
  rw [runesF, if_pos hp] at h
  rw [← h]; simp
end Go.KL

/- A struct is stored whole; results that lie in variables. -/
namespace Go.KL
open Go.RowKit
variable {P : Program} {d : Option Tmp} {ty : TypeId} {pos : String} {af : Array Edge} {g : Option (Nat × Bool)} {a : Act} {σ : GW}

theorem drawn_setCells {b : Nat} : ∀ (vs : List Value) (o : Nat) (w : World), (w.setCells b o vs).drawn = w.drawn
  | [], _, _ => rfl
  | v :: vs, o, w => by rw [World.setCells, drawn_setCells vs]; rfl
theorem heap_setCells {b : Nat} {e : TypeId} : ∀ (vs : List Value) (o : Nat) (w : World) (cur : Array Value), w.heap[b]? = some (.cells cur e (0, 0)) → o + vs.length ≤ cur.size →
    ∃ cur', (w.setCells b o vs).heap[b]? = some (.cells cur' e (0, 0)) ∧ cur'.size = cur.size ∧ (∀ j, j < vs.length → cur'[o + j]? = vs[j]?) ∧ (∀ i, i < o → cur'[i]? = cur[i]?) ∧ (w.setCells b o vs).heap.size = w.heap.size ∧ (w.setCells b o vs).tape = w.tape
  | [], o, w, cur, h, _ => ⟨cur, h, rfl, fun j hj => by simp at hj, fun _ _ => rfl, rfl, rfl⟩
  | v :: vs, o, w, cur, h, hl => by
    simp only [List.length_cons] at hl
    have h2 : (w.setCell ⟨b, o, none⟩ v).heap[b]? = some (.cells (cur.setIfInBounds o v) e (0, 0)) := by
      unfold World.setCell
      rw [Array.getElem?_modify, if_pos rfl, h]
      rfl
    obtain ⟨cur', h3, h4, h5, h6, h7, h8⟩ := heap_setCells vs (o + 1) (w.setCell ⟨b, o, none⟩ v) _ h2 (by simp; omega)
    refine ⟨cur', h3, by simpa using h4, fun j hj => ?_, fun i hi => ?_, by rw [World.setCells, h7]; simp [World.setCell], by rw [World.setCells, h8]; rfl⟩
    · cases j with
      | zero =>
        rw [Nat.add_zero, h6 o (by omega)]
        simp [show o < cur.size by omega]
      | succ j =>
        have := h5 j (by simpa using hj)
        rw [show o + (j + 1) = o + 1 + j by omega, this]; rfl
    · rw [h6 i (by omega), Array.getElem?_setIfInBounds_ne (by omega)]

theorem m_storeagg {k : Nat} {x y : Operand} {ts us : List Ty} {t : TypeId} {z v : Value} {by_ : Nat} (he : Info P t z us.length by_) (hk : 2 ≤ k) (h : OwnP σ k v ts) (hx : a.eval x = v) (hl : ts.length = us.length) (hy : At (.agg us) σ a y) (h1 : ∀ U, U ∈ us → One U) :
    YldM k P ⟨d, .store t x y, ty, pos, af, g⟩ a σ (fun _ τ => OwnP τ k v us) := by
  obtain ⟨gg, e', cur, rfl, h2, h3, h4, h5⟩ := h
  obtain ⟨cs, ey, hcl, hc⟩ := hy
  have hg := (Array.getElem?_eq_some_iff.1 h3).1
  have hone : cs.all (·.oneCell') = true := by
    rw [Array.all_eq_true]
    intro i hi
    have hT : us[i]? = some us[i] := by simp [show i < us.length by omega]
    exact h1 us[i] (List.getElem_mem _) _ _ (hc i _ cs[i] hT (by simp [hi]))
  intro K Q hK
  have hst : (storeVar t ⟨gg, 0, none⟩ (.agg cs)).run P σ.w = .ok () (σ.w.setCells gg 0 cs.toList) := by
    refine run_storeVar_mid σ.w gg 0 t cs (fun j hj => ?_) ?_ hone
    · rw [Nat.zero_add]
      exact ⟨by simp [World.cell?, h3, show j < cur.size by omega], by simp [World.frozen?, h3]⟩
    · obtain ⟨i, hi, _, hs, _⟩ := he.get
      rw [hi]; simp [hs, hcl]
  have hr : (execOp a.eval ⟨d, .store t x y, ty, pos, af, g⟩).run P σ.w = .ok .skip (σ.w.setCells gg 0 cs.toList) := by
    simp only [execOp, hx, ey]
    simp [Instr.storeAt, Instr.sureAddr, hst]
  unfold Oper.wp
  rw [hr]
  obtain ⟨cur', c1, c2, c3, _, c5, c6⟩ := heap_setCells (b := gg) (e := e') cs.toList 0 σ.w cur h3 (by simp; omega)
  have hstp : Stp k σ ⟨σ.w.setCells gg 0 cs.toList, σ.st, fun b hb => by rw [c5]; exact σ.lt b hb⟩ :=
    ⟨World.os_setCells _ _ _ _, c6, World.output_setCells _ _ _ _, by (refine .inl ?_; show _ ≤ (σ.w.setCells gg 0 cs.toList).drawn; rw [drawn_setCells]; exact Nat.le_refl _), by rw [c5]; exact Nat.le_refl _, fun b hb hm => World.heap_setCells_other _ _ _ _ hb (by rintro rfl; omega), fun _ _ _ => rfl⟩
  refine hK _ _ hstp ⟨gg, e', cur', rfl, h2, c1, by rw [c2, h4, hl], fun j T u hj hu => ?_⟩
  have hlt := (List.getElem?_eq_some_iff.1 hj).1
  have := c3 j (by simp; omega)
  rw [Nat.zero_add] at this
  rw [this] at hu
  exact T.up (hstp.le (by omega)) (hc j T u hj (by simpa using hu))

theorem alloc_vals {vs : List Value} {z : Value} (h : z.cells = vs.toArray) : ∀ (j : Nat) (T : Ty) (u : Value), (vs.map Ty.val)[j]? = some T → z.cells[j]? = some u → ∀ σ, T.has σ u := by
  intro j T u h1 h2 σ
  rw [h] at h2
  simp at h1 h2
  obtain ⟨v, e, rfl⟩ := h1
  rw [e] at h2; cases h2; rfl
end Go.KL

/- Calls that write what they are lent: steps by lists of tags, contracts, tags renamed at a call. -/
namespace Go.KL
open Go.RowKit
variable {P : Program}

structure StpL (L : List Nat) (σ τ : GW) : Prop where
  os : τ.w.os = σ.w.os
  tape : τ.w.tape = σ.w.tape
  output : τ.w.output = σ.w.output
  dr : Dr σ.w.drawn τ.w.drawn
  size : σ.w.heap.size ≤ τ.w.heap.size
  blk : ∀ b, b < σ.w.heap.size → σ.st b ∉ L → τ.w.heap[b]? = σ.w.heap[b]?
  st : ∀ b, b < σ.w.heap.size → σ.st b ∉ L → τ.st b = σ.st b

theorem StpL.refl (L : List Nat) (σ : GW) : StpL L σ σ := ⟨rfl, rfl, rfl, Dr.refl _, Nat.le_refl _, fun _ _ _ => rfl, fun _ _ _ => rfl⟩
theorem StpL.trans {L : List Nat} {σ τ ρ : GW} (h : StpL L σ τ) (k : StpL L τ ρ) : StpL L σ ρ :=
  ⟨k.os.trans h.os, k.tape.trans h.tape, k.output.trans h.output, h.dr.trans k.dr, Nat.le_trans h.size k.size,
   fun b hb hm => (k.blk b (Nat.lt_of_lt_of_le hb h.size) (by rw [h.st b hb hm]; exact hm)).trans (h.blk b hb hm),
   fun b hb hm => (k.st b (Nat.lt_of_lt_of_le hb h.size) (by rw [h.st b hb hm]; exact hm)).trans (h.st b hb hm)⟩
theorem Stp.toL0 {L : List Nat} {σ τ : GW} (h : Stp 0 σ τ) : StpL L σ τ :=
  ⟨h.os, h.tape, h.output, h.dr, h.size, fun b hb _ => h.blk b hb (.inl rfl), fun b hb _ => h.st b hb (.inl rfl)⟩
theorem Stp.toL {m : Nat} {L : List Nat} {σ τ : GW} (h : Stp m σ τ) (hm : m ∈ L) : StpL L σ τ :=
  ⟨h.os, h.tape, h.output, h.dr, h.size, fun b hb hn => h.blk b hb (.inr fun e => hn (e ▸ hm)), fun b hb hn => h.st b hb (.inr fun e => hn (e ▸ hm))⟩
theorem StpL.le {L : List Nat} {σ τ : GW} (h : StpL L σ τ) (hL : 1 ∉ L) : σ.Le τ :=
  ⟨fun b hb => (h.st b (σ.lt b (by omega)) (by rw [hb]; exact hL)).trans hb, fun b hb => h.blk b (σ.lt b (by omega)) (by rw [hb]; exact hL)⟩

theorem Own.keepL {L : List Nat} {k : Nat} {σ τ : GW} {e : TypeId} {c : Nat} {v : Value} {n : Nat} {ts : List Ty} (h : Own σ k e c v n ts) (hs : StpL L σ τ) (h1 : 1 ∉ L) (hk : k ∉ L) : Own τ k e c v n ts := by
  obtain ⟨us, r1, r2, r3, r4⟩ := h
  have hlt : ∀ g, v.ownBlock = some g → g < σ.w.heap.size := fun g hg => (r1.lt g hg).2
  have hq : ∀ g, v.ownBlock = some g → σ.st g ∉ L := fun g hg => by rw [r4 g hg]; exact hk
  exact ⟨us, ownsRow_same r1 (fun g hg => hs.blk g (hlt g hg) (hq g hg)), r2, fun j T u hj hu => T.up (hs.le h1) (r3 j T u hj hu), fun g hg => (hs.st g (hlt g hg) (hq g hg)).trans (r4 g hg)⟩
theorem OwnP.keepL {L : List Nat} {k : Nat} {σ τ : GW} {v : Value} {ts : List Ty} (h : OwnP σ k v ts) (hs : StpL L σ τ) (h1 : 1 ∉ L) (hk : k ∉ L) : OwnP τ k v ts := by
  obtain ⟨g, e, cur, rfl, r2, r3, r4, r5⟩ := h
  have hg := (Array.getElem?_eq_some_iff.1 r3).1
  have hq : σ.st g ∉ L := by rw [r2]; exact hk
  exact ⟨g, e, cur, rfl, (hs.st g hg hq).trans r2, (hs.blk g hg hq).trans r3, r4, fun j T u hj hu => T.up (hs.le h1) (r5 j T u hj hu)⟩
theorem Iter.keepL {L : List Nat} {k : Nat} {σ τ : GW} {v : Value} {s : ByteArray} {p : Nat} (h : Iter σ k v s p) (hs : StpL L σ τ) (_h1 : 1 ∉ L) (hk : k ∉ L) : Iter τ k v s p := by
  obtain ⟨g, r1, r2, r3⟩ := h
  have hlt := (Array.getElem?_eq_some_iff.1 r3).1
  have hq : σ.st g ∉ L := by rw [r2]; exact hk
  exact ⟨g, r1, (hs.st g hlt hq).trans r2, (hs.blk g hlt hq).trans r3⟩

structure Ren (k k' : Nat) (σ τ : GW) : Prop where
  w : τ.w = σ.w
  le : σ.Le τ
  st : ∀ b, σ.st b = k → τ.st b = k'
theorem Own.ren {k k' : Nat} {σ τ : GW} {e : TypeId} {c : Nat} {v : Value} {n : Nat} {ts : List Ty} (h : Own σ k e c v n ts) (r : Ren k k' σ τ) : Own τ k' e c v n ts := by
  obtain ⟨us, r1, r2, r3, r4⟩ := h
  exact ⟨us, by rw [r.w]; exact r1, r2, fun j T u hj hu => T.up r.le (r3 j T u hj hu), fun g hg => r.st g (r4 g hg)⟩
theorem OwnP.ren {k k' : Nat} {σ τ : GW} {v : Value} {ts : List Ty} (h : OwnP σ k v ts) (r : Ren k k' σ τ) : OwnP τ k' v ts := by
  obtain ⟨g, e, cur, rfl, r2, r3, r4, r5⟩ := h
  exact ⟨g, e, cur, rfl, r.st g r2, by rw [r.w]; exact r3, r4, fun j T u hj hu => T.up r.le (r5 j T u hj hu)⟩
theorem Iter.ren {k k' : Nat} {σ τ : GW} {v : Value} {s : ByteArray} {p : Nat} (h : Iter σ k v s p) (r : Ren k k' σ τ) : Iter τ k' v s p := by
  obtain ⟨g, r1, r2, r3⟩ := h
  exact ⟨g, r1, r.st g r2, by rw [r.w]; exact r3⟩

structure FromL (L : List Nat) (σ τ : GW) : Prop where
  stp : StpL L σ τ
  low : ∀ b, σ.st b ∉ L → σ.st b ≤ 1
theorem FromL.stepL {L M : List Nat} {σ τ ρ : GW} (h : FromL L σ τ) (k : StpL M τ ρ) (hM : ∀ m ∈ M, 2 ≤ m) : FromL L σ ρ := by
  have hx : ∀ b, b < σ.w.heap.size → σ.st b ∉ L → τ.st b ∉ M := fun b hb hn hm => by
    have h1 := hM _ hm
    rw [h.stp.st b hb hn] at h1
    have := h.low b hn
    omega
  refine ⟨⟨k.os.trans h.stp.os, k.tape.trans h.stp.tape, k.output.trans h.stp.output, h.stp.dr.trans k.dr, Nat.le_trans h.stp.size k.size, fun b hb hn => ?_, fun b hb hn => ?_⟩, h.low⟩
  · exact (k.blk b (Nat.lt_of_lt_of_le hb h.stp.size) (hx b hb hn)).trans (h.stp.blk b hb hn)
  · exact (k.st b (Nat.lt_of_lt_of_le hb h.stp.size) (hx b hb hn)).trans (h.stp.st b hb hn)
theorem FromL.step0 {L : List Nat} {σ τ ρ : GW} (h : FromL L σ τ) (k : Stp 0 τ ρ) : FromL L σ ρ := h.stepL (M := []) k.toL0 (by simp)
theorem FromL.step {L : List Nat} {m : Nat} {σ τ ρ : GW} (h : FromL L σ τ) (k : Stp m τ ρ) (hm : 2 ≤ m) : FromL L σ ρ := h.stepL (M := [m]) (k.toL (by simp)) (by simpa using hm)

def FnL (P : Program) (f : FuncId) (args : Array Value) (σ : GW) (L : List Nat) (R : Value → GW → Prop) : Prop :=
  Calls P f args σ.w fun e w' => ∃ v τ, τ.w = w' ∧ StpL L σ τ ∧ e = .returned v ∧ R v τ
def Low (L : List Nat) (σ : GW) : Prop := ∀ b, σ.st b ∉ L → σ.st b ≤ 1
def RetL (σ : GW) (L : List Nat) (R : Value → GW → Prop) (e : Ending) (w' : World) : Prop := ∃ v τ, τ.w = w' ∧ FromL L σ τ ∧ e = .returned v ∧ R v τ

theorem fn_introL {f : FuncId} {fn : Func} {c : Code} {N : Nat} {args : Array Value} {σ : GW} {L : List Nat} {R : Value → GW → Prop} (hσ : Low L σ) (hf : P.funcs[f]? = some fn) (hb : fn.body = some c) (hn : fn.ntmps = N) (ha : args.size ≤ N)
    (h : ∀ a, FromL L σ σ → Ok N [] a → (∀ i v, args.toList[i]? = some v → a.eval (.tmp i) = v) → c.wp P (bodyPost P fn (RetL σ L R)) a σ.w) : FnL P f args σ L R := by
  refine Calls.mono (calls_of_wp hf hb (h _ ⟨StpL.refl _ _, hσ⟩ ⟨by simp; omega, rfl⟩ fun i v hi => ?_)) ?_
  · have hi' : args[i]? = some v := by simpa using hi
    have hlt : i < args.size := (Array.getElem?_eq_some_iff.1 hi').1
    simp [Act.eval, Array.getD_eq_getD_getElem?, Array.getElem?_append, hlt]
    simpa [hlt] using hi'
  · rintro e w' ⟨v, τ, rfl, hF, rfl, hv⟩
    exact ⟨v, τ, rfl, hF.stp, rfl, hv⟩

theorem FnL.toC {f : FuncId} {args : Array Value} {σ : GW} {R : Ty} (h : FnL P f args σ.hush [] (fun v τ => R.has τ v)) : FnC P f args σ R := by
  refine Calls.mono (show Calls P f args σ.w _ from h) ?_
  rintro e w' ⟨v, τ, rfl, hs, rfl, hv⟩
  have hF : From σ.hush τ := ⟨hs.os, hs.tape, hs.output, hs.dr, hs.size, fun b hb => hs.blk b hb (by simp), fun b hb => by
    have := hs.st b hb (by simp)
    refine ⟨this, ?_⟩
    rw [this]; simp only [GW.hush]; split <;> omega⟩
  exact ⟨v, σ.back τ hF, rfl, σ.back_stp τ hF, rfl, R.up (σ.back_le τ hF) hv⟩
theorem Low.hush (σ : GW) : Low [] σ.hush := fun b _ => by simp only [GW.hush]; split <;> omega
theorem fn_intro0 {f : FuncId} {fn : Func} {c : Code} {N : Nat} {args : Array Value} {σ : GW} {R : Ty} (hf : P.funcs[f]? = some fn) (hb : fn.body = some c) (hn : fn.ntmps = N) (ha : args.size ≤ N)
    (h : ∀ σ0 a, σ.Le σ0 → FromL [] σ0 σ0 → Ok N [] a → (∀ i v, args.toList[i]? = some v → a.eval (.tmp i) = v) → c.wp P (bodyPost P fn (RetL σ0 [] (fun v τ => R.has τ v))) a σ0.w) : FnC P f args σ R :=
  (fn_introL (Low.hush σ) hf hb hn ha (fun a => h σ.hush a σ.le_hush)).toC

def renTag (l : List (Nat × Nat)) (k : Nat) : Nat := match l.lookup k with | some k' => k' | none => 0
theorem renTag_mem {l : List (Nat × Nat)} {k : Nat} (h : renTag l k ≠ 0) : (k, renTag l k) ∈ l := by
  unfold renTag at h ⊢
  cases e : l.lookup k with
  | none => simp [e] at h
  | some k' =>
    simp only
    rw [List.lookup_eq_some_iff] at e
    obtain ⟨l1, l2, rfl, _⟩ := e
    simp
def GW.lend (σ : GW) (l : List (Nat × Nat)) : GW := ⟨σ.w, fun b => if σ.st b = 1 then 1 else if σ.st b = 0 then 0 else renTag l (σ.st b), fun b h => σ.lt b (by intro e; simp [e] at h)⟩
theorem GW.le_lend (σ : GW) (l : List (Nat × Nat)) : σ.Le (σ.lend l) := ⟨fun b h => by simp [GW.lend, h], fun _ _ => rfl⟩
theorem GW.ren_lend (σ : GW) (l : List (Nat × Nat)) {k k' : Nat} (hk : 2 ≤ k) (h : l.lookup k = some k') : Ren k k' σ (σ.lend l) :=
  ⟨rfl, σ.le_lend l, fun b hb => by simp only [GW.lend]; rw [hb, if_neg (by omega), if_neg (by omega), renTag, h]⟩
theorem GW.low_lend (σ : GW) {l : List (Nat × Nat)} {L : List Nat} (h : ∀ x ∈ l, x.2 ∈ L) : Low L (σ.lend l) := by
  intro b hb
  simp only [GW.lend] at hb ⊢
  split
  · omega
  · rename_i h1
    rw [if_neg h1] at hb
    split
    · omega
    · rename_i h0
      rw [if_neg h0] at hb
      by_cases h2 : renTag l (σ.st b) = 0
      · omega
      · exact absurd (h _ (renTag_mem h2)) hb
def GW.took (σ : GW) (l n : List (Nat × Nat)) (τ : GW) (hsz : σ.w.heap.size ≤ τ.w.heap.size) : GW :=
  ⟨τ.w, fun b => if b < σ.w.heap.size ∧ (l.lookup (σ.st b)).isNone then σ.st b else if τ.st b = 1 then 1 else if τ.st b = 0 then 0 else renTag n (τ.st b), fun b h => by
    by_cases hb : b < σ.w.heap.size
    · omega
    · simp only [hb, false_and, if_false] at h
      refine τ.lt b ?_
      intro e; simp [e] at h⟩
structure Back (n : List (Nat × Nat)) (τ τ' : GW) : Prop where
  w : τ'.w = τ.w
  le : τ.Le τ'
  st : ∀ k k', 2 ≤ k → n.lookup k = some k' → ∀ b, τ.st b = k → τ'.st b = k'
theorem Back.ren {n : List (Nat × Nat)} {τ τ' : GW} (h : Back n τ τ') {k k' : Nat} (hk : 2 ≤ k) (e : n.lookup k = some k') : Ren k k' τ τ' := ⟨h.w, h.le, h.st k k' hk e⟩

theorem took_spec {σ τ : GW} {l n : List (Nat × Nat)} {L : List Nat} (hL : ∀ x ∈ l, x.2 ∈ L) (h2 : ∀ x ∈ l, 2 ≤ x.1 ∧ 2 ≤ x.2) (hl : ∀ x ∈ L, 2 ≤ x) (hs : StpL L (σ.lend l) τ) :
    StpL (l.map (·.1)) σ (σ.took l n τ hs.size) ∧ Back n τ (σ.took l n τ hs.size) := by
  have old : ∀ b, b < σ.w.heap.size → (l.lookup (σ.st b)).isNone → τ.w.heap[b]? = σ.w.heap[b]? ∧ τ.st b = (if σ.st b = 1 then 1 else 0) := by
    intro b hb hn
    have h0 : renTag l (σ.st b) = 0 := by
      unfold renTag
      cases e : l.lookup (σ.st b) with
      | none => rfl
      | some x => simp [e] at hn
    have hst : (σ.lend l).st b = if σ.st b = 1 then 1 else 0 := by simp only [GW.lend, h0]; simp
    have hn' : (σ.lend l).st b ∉ L := by
      rw [hst]; intro hm
      have := hl _ hm
      split at this <;> omega
    exact ⟨hs.blk b hb hn', (hs.st b hb hn').trans hst⟩
  have mem_none : ∀ b, σ.st b ∉ l.map (·.1) → (l.lookup (σ.st b)).isNone := by
    intro b hb
    cases e : l.lookup (σ.st b) with
    | none => rfl
    | some k =>
      exfalso
      rw [List.lookup_eq_some_iff] at e
      obtain ⟨l1, l2, e, _⟩ := e
      exact hb (List.mem_map.2 ⟨(σ.st b, k), by rw [e]; simp, rfl⟩)
  refine ⟨⟨hs.os, hs.tape, hs.output, hs.dr, hs.size, fun b hb hm => (old b hb (mem_none b hm)).1, fun b hb hm => ?_⟩, rfl, ⟨fun b hb => ?_, fun _ _ => rfl⟩, fun k k' hk e b hb => ?_⟩
  · show (if _ then _ else _) = _
    rw [if_pos ⟨hb, mem_none b hm⟩]
  · show (if _ then _ else _) = _
    split
    · rename_i hc
      have := (old b hc.1 hc.2).2
      rw [hb] at this
      split at this
      · assumption
      · cases this
    · simp [hb]
  · show (if _ then _ else _) = _
    split
    · rename_i hc
      have := (old b hc.1 hc.2).2
      split at this <;> omega
    · rw [hb, if_neg (by omega), if_neg (by omega), renTag, e]

def YldL (L : List Nat) (P : Program) (o : Oper) (a : Act) (σ : GW) (R : Value → GW → Prop) : Prop :=
  ∀ (K : Act → World → Prop) (Q : Exit → Act → World → Prop), (∀ v τ, StpL L σ τ → R v τ → K (a.put o.dst v) τ.w) → o.wp P a σ.w K Q
theorem YldM.toL {m : Nat} {o : Oper} {a : Act} {σ : GW} {R : Value → GW → Prop} (h : YldM m P o a σ R) : YldL [m] P o a σ R := fun K Q hk => h K Q fun v τ hs hr => hk v τ (hs.toL (by simp)) hr
theorem Yld.toL {o : Oper} {a : Act} {σ : GW} {R : Pr} (h : Yld P o a σ R) : YldL [] P o a σ (fun v τ => R.has τ v) := fun K Q hk => h K Q fun v τ hs hr => hk v τ hs.toL0 hr
theorem YldL.mono {L : List Nat} {o : Oper} {a : Act} {σ : GW} {R R' : Value → GW → Prop} (h : YldL L P o a σ R) (hr : ∀ v τ, R v τ → R' v τ) : YldL L P o a σ R' := fun K Q hk => h K Q fun v τ hs hv => hk v τ hs (hr v τ hv)

theorem tailL {L : List Nat} {N d : Nat} {D : List Deferred} {ops : Array Oper} {Q : Exit → Act → World → Prop} {o : Oper} {rest : List Oper} {a : Act} {σ : GW} {R : Value → GW → Prop} (hg : o.guard = none) (hd : o.dst = some d) (hN : d < N) (ok : Ok N D a) (hy : YldL L P o a σ R)
    (k : ∀ a' τ, StpL L σ τ → Ok N D a' → R (a'.eval (.tmp d)) τ → (∀ t, t ≠ d → a'.eval (.tmp t) = a.eval (.tmp t)) → wpList P ops Q rest a' τ.w) : wpList P ops Q (o :: rest) a σ.w := by
  refine wpList_plain hg fun K hK => hy K Q fun v τ hs hr => hK _ _ ?_
  rw [hd]
  exact k _ τ hs (ok.put _ _) (by rw [eval_put_same ok hN]; exact hr) fun t ht => eval_put_ne (by simpa using Ne.symm ht) v
theorem tailL0 {L : List Nat} {ops : Array Oper} {Q : Exit → Act → World → Prop} {o : Oper} {rest : List Oper} {a : Act} {σ : GW} {R : Value → GW → Prop} (hg : o.guard = none) (hd : o.dst = none) (hy : YldL L P o a σ R)
    (k : ∀ v τ, StpL L σ τ → R v τ → wpList P ops Q rest a τ.w) : wpList P ops Q (o :: rest) a σ.w := by
  refine wpList_plain hg fun K hK => hy K Q fun v τ hs hr => hK _ _ ?_
  rw [hd]
  exact k v τ hs hr

variable {d : Option Tmp} {ty : TypeId} {pos : String} {af : Array Edge} {g : Option (Nat × Bool)} {a : Act} {σ : GW}
theorem y_callL {f : FuncId} {fn : Func} {xs : Array Operand} {tys : Array TypeId} {R : Value → GW → Prop} {L : List Nat} (l n : List (Nat × Nat)) (args : Array Value) (hL : l.map (·.2) = L) (h2 : ∀ x ∈ l, 2 ≤ x.1 ∧ 2 ≤ x.2)
    (hf : P.funcs[f]? = some fn) (hn : (fn.name == "runtime.NumGoroutine") = false) (hb : fn.body.isNone = false) (hargs : xs.map a.eval = args) (hc : FnL P f args (σ.lend l) L R) :
    YldL (l.map (·.1)) P ⟨d, .call ⟨.value (.func f), xs, tys⟩, ty, pos, af, g⟩ a σ (fun v τ' => ∃ τ, R v τ ∧ Back n τ τ') := by
  intro K Q hk
  have hr : (execOp a.eval ⟨d, .call ⟨.value (.func f), xs, tys⟩, ty, pos, af, g⟩).run P σ.w = .ok (.enter f args) σ.w := by
    have hn' : ¬ fn.name = "runtime.NumGoroutine" := by simpa using hn
    have hb' : ¬ fn.body = none := by intro e; simp [e] at hb
    simp only [execOp, resolve, hargs]
    simp [Act.eval, Deferred.ofValue, invoke, callFunc, hf, hn', hb', program, Sem.run, Sem.run_bind]
  unfold Oper.wp
  rw [hr]
  refine Calls.mono (show Calls P f args σ.w _ from hc) ?_
  rintro e w' ⟨v, τ, rfl, hs, rfl, hv⟩
  obtain ⟨h1, h3⟩ := took_spec (n := n) (fun x hx => by rw [← hL]; exact List.mem_map.2 ⟨x, hx, rfl⟩) h2 (fun x hx => by
    rw [← hL] at hx
    obtain ⟨y, hy, rfl⟩ := List.mem_map.1 hx
    exact (h2 y hy).2) hs
  exact hk v (σ.took l n τ hs.size) h1 ⟨τ, hv, h3⟩

theorem y_nilp {k : Nat} {x : Operand} {ts : List Ty} {v : Value} (h : OwnP σ k v ts) (hx : a.eval x = v) : Yld P ⟨d, .nilCheck x, ty, pos, af, g⟩ a σ (Ty.val v).pr := by
  obtain ⟨gg, e', cur, rfl, _⟩ := h
  exact Yld.of_run (v := .pointer (some ⟨gg, 0, none⟩)) (by simp only [execOp, hx]; simp [go_sem]) rfl
theorem y_nilr {x : Operand} {ts : List Ty} (hx : At (.ref ts) σ a x) : Yld P ⟨d, .nilCheck x, ty, pos, af, g⟩ a σ (Ty.ref ts).pr := by
  obtain ⟨b, o, e1, h⟩ := hx
  exact Yld.of_run (v := .pointer (some ⟨b, o, none⟩)) (by simp only [execOp, e1]; simp [go_sem]) ⟨b, o, rfl, h⟩

theorem ownp_cell {k : Nat} {v : Value} {ts : List Ty} {T : Ty} (j : Nat) (U : Ty) (h : OwnP σ k v ts) (e : ts[j]? = some T) (hTU : ∀ σ u, T.has σ u → U.has σ u) : OwnP σ k v (ts.set j U) := by
  obtain ⟨gg, e', cur, rfl, h2, h3, h4, h5⟩ := h
  refine ⟨gg, e', cur, rfl, h2, h3, by simpa using h4, fun i V u hV hu => ?_⟩
  by_cases hij : i = j
  · subst hij
    rw [List.getElem?_set_self (by exact (List.getElem?_eq_some_iff.1 e).1)] at hV
    cases hV
    exact hTU _ _ (h5 i T u e hu)
  · rw [List.getElem?_set_ne (Ne.symm hij)] at hV
    exact h5 i V u hV hu
end Go.KL

/- Maps of the function's own: what is held for each key. -/
namespace Go.KL
open Go.RowKit
variable {P : Program} {α β : Type}

structure KeyK [DecidableEq α] (P : Program) (kt : TypeId) (kv : α → Value) (d : TypeDesc) : Prop where
  under : P.underlying kt = some d
  same : ∀ a b, Instr.sameNow d (kv a) (kv b) = some (decide (a = b))
  chk : ∀ e w a, (Instr.checkKey e 10000 kt (kv a)).run P w = .ok () w
  bits : ∀ a, Instr.sameBits 10000 (kv a) (kv a) = true

theorem KeyK.inj [DecidableEq α] {kt : TypeId} {kv : α → Value} {d : TypeDesc} (K : KeyK P kt kv d) {a b : α} (h : kv a = kv b) : a = b := by
  have := K.same a b
  have h2 := K.same b b
  rw [h, h2] at this
  simpa using this.symm

structure Ents (F : β → Ty) (kv : α → Value) (σ : GW) (es : List MapEntry) (clock : Nat) (f : α → Option β) : Prop where
  key : ∀ e ∈ es, ∃ i b, e.key = kv i ∧ f i = some b ∧ (F b).has σ e.val
  mem : ∀ i b, f i = some b → ∃ e ∈ es, e.key = kv i
  uniq : es.Pairwise (fun x y => x.key ≠ y.key)
  born : es.Pairwise (fun x y => x.born < y.born)
  lt : ∀ e ∈ es, e.born < clock

theorem Ents.up {F : β → Ty} {kv : α → Value} {σ τ : GW} {es : List MapEntry} {clock : Nat} {f : α → Option β} (h : Ents F kv σ es clock f) (hs : σ.Le τ) : Ents F kv τ es clock f :=
  ⟨fun e he => by obtain ⟨i, b, h1, h2, h3⟩ := h.key e he; exact ⟨i, b, h1, h2, (F b).up hs h3⟩, h.mem, h.uniq, h.born, h.lt⟩

def OwnM (F : β → Ty) (kv : α → Value) (σ : GW) (k : Nat) (v : Value) (f : α → Option β) : Prop :=
  ∃ r es clock, v = .map (some r) ∧ σ.st r = k ∧ σ.w.heap[r]? = some (.map es clock) ∧ Ents F kv σ es.toList clock f
theorem OwnM.keepL {F : β → Ty} {kv : α → Value} {L : List Nat} {k : Nat} {σ τ : GW} {v : Value} {f : α → Option β} (h : OwnM F kv σ k v f) (hs : StpL L σ τ) (h1 : 1 ∉ L) (hk : k ∉ L) : OwnM F kv τ k v f := by
  obtain ⟨r, es, clock, r1, r2, r3, r4⟩ := h
  have hlt := (Array.getElem?_eq_some_iff.1 r3).1
  have hq : σ.st r ∉ L := by rw [r2]; exact hk
  exact ⟨r, es, clock, r1, (hs.st r hlt hq).trans r2, (hs.blk r hlt hq).trans r3, r4.up (hs.le h1)⟩
theorem OwnM.ren {F : β → Ty} {kv : α → Value} {k k' : Nat} {σ τ : GW} {v : Value} {f : α → Option β} (h : OwnM F kv σ k v f) (r : Ren k k' σ τ) : OwnM F kv τ k' v f := by
  obtain ⟨b, es, clock, r1, r2, r3, r4⟩ := h
  exact ⟨b, es, clock, r1, r.st b r2, by rw [r.w]; exact r3, r4.up r.le⟩
variable {d : Option Tmp} {ty : TypeId} {pos : String} {af : Array Edge} {g : Option (Nat × Bool)} {a : Act} {σ : GW}
variable {F : β → Ty} {kv : α → Value} {kt et t : TypeId} {dd : TypeDesc}

theorem pairwise_modify_key {es : List MapEntry} (j : Nat) (u : MapEntry → MapEntry) (hk : ∀ e, es[j]? = some e → (u e).key = e.key ∧ (u e).born = e.born) :
    (es.modify j u).map (fun e => (e.key, e.born)) = es.map (fun e => (e.key, e.born)) := by
  apply List.ext_getElem?
  intro i
  simp only [List.getElem?_map, List.getElem?_modify]
  by_cases hij : j = i
  · subst hij
    cases he : es[j]? with
    | none => simp
    | some e => simp [hk e he]
  · simp [hij]
theorem pairwise_of_map {es fs : List MapEntry} {R : Value × Nat → Value × Nat → Prop} (h : es.map (fun e => (e.key, e.born)) = fs.map (fun e => (e.key, e.born))) (hp : fs.Pairwise (fun x y => R (x.key, x.born) (y.key, y.born))) : es.Pairwise (fun x y => R (x.key, x.born) (y.key, y.born)) := by
  have : (fs.map (fun e => (e.key, e.born))).Pairwise R := List.pairwise_map.2 hp
  rw [← h] at this
  exact List.pairwise_map.1 this

theorem Ents.set [DecidableEq α] {es : List MapEntry} {clock : Nat} {f : α → Option β} (K : KeyK P kt kv dd) (h : Ents F kv σ es clock f) {j : Nat} {e : MapEntry} {i : α} {b : β} {val : Value} (hj : es[j]? = some e) (he : e.key = kv i) (hv : (F b).has σ val) :
    Ents F kv σ (es.modify j fun e => { e with key := kv i, val := val }) clock (fun x => if x = i then some b else f x) := by
  have hm := pairwise_modify_key (es := es) j (fun e => { e with key := kv i, val := val }) (fun e' h' => by rw [hj] at h'; cases h'; exact ⟨he.symm, rfl⟩)
  have hmem : ∀ x, x ∈ (es.modify j fun e => { e with key := kv i, val := val }) → x = { e with key := kv i, val := val } ∨ (∃ m, m ≠ j ∧ es[m]? = some x) := by
    intro x hx
    obtain ⟨m, hm⟩ := List.mem_iff_getElem?.1 hx
    rw [List.getElem?_modify] at hm
    by_cases hjm : j = m
    · subst hjm
      rw [hj] at hm; simp at hm
      exact .inl hm.symm
    · right
      refine ⟨m, fun h => hjm h.symm, ?_⟩
      simpa [hjm] using hm
  refine ⟨fun x hx => ?_, fun x b' hx => ?_, ?_, ?_, fun x hx => ?_⟩
  · rcases hmem x hx with rfl | ⟨m, hmj, hm'⟩
    · exact ⟨i, b, rfl, by simp, hv⟩
    · obtain ⟨i', b', h1, h2, h3⟩ := h.key x (List.mem_of_getElem? hm')
      refine ⟨i', b', h1, ?_, h3⟩
      have hne : i' ≠ i := by
        intro hh; subst hh
        have hu := List.pairwise_iff_getElem.1 h.uniq
        have hml := (List.getElem?_eq_some_iff.1 hm').1
        have hjl := (List.getElem?_eq_some_iff.1 hj).1
        have e1 := (List.getElem?_eq_some_iff.1 hm').2
        have e2 := (List.getElem?_eq_some_iff.1 hj).2
        rcases Nat.lt_or_gt_of_ne hmj with hlt | hlt
        · exact hu m j hml hjl hlt (by rw [e1, e2, h1, he])
        · exact hu j m hjl hml hlt (by rw [e1, e2, h1, he])
      simp [hne, h2]
  · by_cases hxi : x = i
    · subst hxi
      refine ⟨{ e with key := kv x, val := val }, List.mem_iff_getElem?.2 ⟨j, by rw [List.getElem?_modify]; simp [hj]⟩, rfl⟩
    · simp [hxi] at hx
      obtain ⟨e', he', hk⟩ := h.mem x b' hx
      obtain ⟨m, hm'⟩ := List.mem_iff_getElem?.1 he'
      have hjm : j ≠ m := by
        rintro rfl
        rw [hj] at hm'; cases hm'
        exact hxi (K.inj (hk.symm.trans he))
      exact ⟨e', List.mem_iff_getElem?.2 ⟨m, by rw [List.getElem?_modify]; simp [hjm, hm']⟩, hk⟩
  · exact pairwise_of_map (R := fun x y => x.1 ≠ y.1) hm h.uniq
  · exact pairwise_of_map (R := fun x y => x.2 < y.2) hm h.born
  · rcases hmem x hx with rfl | ⟨m, _, hm'⟩
    · exact h.lt e (List.mem_of_getElem? hj)
    · exact h.lt x (List.mem_of_getElem? hm')
theorem Ents.push [DecidableEq α] {es : List MapEntry} {clock : Nat} {f : α → Option β} (K : KeyK P kt kv dd) (h : Ents F kv σ es clock f) {i : α} {b : β} {val : Value} (hi : f i = none) (hv : (F b).has σ val) :
    Ents F kv σ (es ++ [{ key := kv i, val := val, born := clock }]) (clock + 1) (fun x => if x = i then some b else f x) := by
  refine ⟨fun x hx => ?_, fun x b' hx => ?_, ?_, ?_, fun x hx => ?_⟩
  · rcases List.mem_append.1 hx with hx | hx
    · obtain ⟨i', b', h1, h2, h3⟩ := h.key x hx
      have hne : i' ≠ i := by rintro rfl; rw [hi] at h2; cases h2
      exact ⟨i', b', h1, by simp [hne, h2], h3⟩
    · simp at hx; subst hx
      exact ⟨i, b, rfl, by simp, hv⟩
  · by_cases hxi : x = i
    · subst hxi; exact ⟨{ key := kv x, val := val, born := clock }, by simp, rfl⟩
    · simp [hxi] at hx
      obtain ⟨e', he', hk⟩ := h.mem x b' hx
      exact ⟨e', by simp [he'], hk⟩
  · refine List.pairwise_append.2 ⟨h.uniq, by simp, fun x hx y hy => ?_⟩
    simp at hy; subst hy
    obtain ⟨i', b', h1, h2, h3⟩ := h.key x hx
    intro hh
    have : i' = i := K.inj (h1.symm.trans hh)
    subst this; rw [hi] at h2; cases h2
  · refine List.pairwise_append.2 ⟨h.born, by simp, fun x hx y hy => ?_⟩
    simp at hy; subst hy
    exact h.lt x hx
  · rcases List.mem_append.1 hx with hx | hx
    · have := h.lt x hx; omega
    · simp at hx; subst hx; simp
theorem Ents.erase [DecidableEq α] {es : List MapEntry} {clock : Nat} {f : α → Option β} (K : KeyK P kt kv dd) (h : Ents F kv σ es clock f) {j : Nat} {e : MapEntry} {i : α} (hj : es[j]? = some e) (he : e.key = kv i) :
    Ents F kv σ (es.eraseIdx j) clock (fun x => if x = i then none else f x) := by
  have hsub := List.eraseIdx_sublist es j
  refine ⟨fun x hx => ?_, fun x b' hx => ?_, h.uniq.sublist hsub, h.born.sublist hsub, fun x hx => h.lt x (hsub.subset hx)⟩
  · rw [List.mem_eraseIdx_iff_getElem?] at hx
    obtain ⟨m, hmj, hm'⟩ := hx
    obtain ⟨i', b', h1, h2, h3⟩ := h.key x (List.mem_of_getElem? hm')
    refine ⟨i', b', h1, ?_, h3⟩
    have hne : i' ≠ i := by
      intro hh; subst hh
      have hu := List.pairwise_iff_getElem.1 h.uniq
      have hml := (List.getElem?_eq_some_iff.1 hm').1
      have hjl := (List.getElem?_eq_some_iff.1 hj).1
      have e1 := (List.getElem?_eq_some_iff.1 hm').2
      have e2 := (List.getElem?_eq_some_iff.1 hj).2
      rcases Nat.lt_or_gt_of_ne hmj with hlt | hlt
      · exact hu m j hml hjl hlt (by rw [e1, e2, h1, he])
      · exact hu j m hjl hml hlt (by rw [e1, e2, h1, he])
    simp [hne, h2]
  · by_cases hxi : x = i
    · simp [hxi] at hx
    · simp [hxi] at hx
      obtain ⟨e', he', hk⟩ := h.mem x b' hx
      obtain ⟨m, hm'⟩ := List.mem_iff_getElem?.1 he'
      refine ⟨e', ?_, hk⟩
      rw [List.mem_eraseIdx_iff_getElem?]
      refine ⟨m, ?_, hm'⟩
      rintro rfl
      rw [hj] at hm'; cases hm'
      exact hxi (K.inj (hk.symm.trans he))

end Go.KL

/- What the walks of the second kind say: facts carried on, returns, cuts of rows that are owned. -/
namespace Go.KL
open Go.RowKit
variable {P : Program}

theorem Own.k0 {k : Nat} {σ τ : GW} {e : TypeId} {c : Nat} {v : Value} {n : Nat} {ts : List Ty} (h : Own σ k e c v n ts) (hs : Stp 0 σ τ) : Own τ k e c v n ts := h.keepL (L := []) hs.toL0 (by simp) (by simp)
theorem OwnP.k0 {k : Nat} {σ τ : GW} {v : Value} {ts : List Ty} (h : OwnP σ k v ts) (hs : Stp 0 σ τ) : OwnP τ k v ts := h.keepL (L := []) hs.toL0 (by simp) (by simp)
theorem Iter.k0 {k : Nat} {σ τ : GW} {v : Value} {s : ByteArray} {p : Nat} (h : Iter σ k v s p) (hs : Stp 0 σ τ) : Iter τ k v s p := h.keepL (L := []) hs.toL0 (by simp) (by simp)
theorem OwnM.k0 {α β : Type} {F : β → Ty} {kv : α → Value} {k : Nat} {σ τ : GW} {v : Value} {f : α → Option β} (h : OwnM F kv σ k v f) (hs : Stp 0 σ τ) : OwnM F kv τ k v f := h.keepL (L := []) hs.toL0 (by simp) (by simp)
theorem al2 {R : Pr} {σ : GW} {u v : Value} (e : u = v) (h : R.has σ u) : R.has σ v := e ▸ h
theorem kpL {L : List Nat} {T : Ty} {σ σ' : GW} {a a' : Act} {x : Operand} (hs : StpL L σ σ') (hL : 1 ∉ L) (e : a'.eval x = a.eval x) (h : T.has σ (a.eval x)) : T.has σ' (a'.eval x) := by rw [e]; exact T.up (hs.le hL) h
variable {fn : Func} {σ0 σ : GW} {a : Act} {N d e f : Nat} {D : List Deferred} {L : List Nat} {R : Value → GW → Prop}
theorem retL0 (hr : fn.results = #[]) (ok : Ok N [] a) (hF : FromL L σ0 σ) (h : R (.tuple #[]) σ) : bodyPost P fn (RetL σ0 L R) .ret a σ.w :=
  bodyPost_ret (v := .tuple #[]) (by simp [results, hr]) ok.defers ⟨_, σ, rfl, hF, rfl, h⟩
theorem retL1 (hr : fn.results = #[.tmp d]) (ok : Ok N [] a) (hF : FromL L σ0 σ) (h : R (a.eval (.tmp d)) σ) : bodyPost P fn (RetL σ0 L R) .ret a σ.w :=
  bodyPost_ret (results_tmp hr _ _ _) ok.defers ⟨_, σ, rfl, hF, rfl, h⟩
theorem retL2 (hr : fn.results = #[.tmp d, .tmp e]) (ok : Ok N [] a) (hF : FromL L σ0 σ) (h : R (.tuple #[a.eval (.tmp d), a.eval (.tmp e)]) σ) : bodyPost P fn (RetL σ0 L R) .ret a σ.w :=
  bodyPost_ret (results_tmp2 hr _ _ _) ok.defers ⟨_, σ, rfl, hF, rfl, h⟩
theorem retL3 (hr : fn.results = #[.tmp d, .tmp e, .tmp f]) (ok : Ok N [] a) (hF : FromL L σ0 σ) (h : R (.tuple #[a.eval (.tmp d), a.eval (.tmp e), a.eval (.tmp f)]) σ) : bodyPost P fn (RetL σ0 L R) .ret a σ.w :=
  bodyPost_ret (v := .tuple #[a.tmps.getD d undef, a.tmps.getD e undef, a.tmps.getD f undef]) (by simp [results, hr]) ok.defers ⟨_, σ, rfl, hF, rfl, h⟩
theorem nL0 (hr : fn.results = #[]) (ok : Ok N [] a) (hF : FromL L σ0 σ) (h : R (.tuple #[]) σ) : bodyPost P fn (RetL σ0 L R) .normal a σ.w := by
  have := retL0 (P := P) hr ok hF h
  exact this
theorem hasT2 {T U : Ty} {x y : Value} (h : T.has σ x) (k : U.has σ y) : (Ty.tup2 T U).has σ (.tuple #[x, y]) := ⟨x, y, rfl, h, k⟩
theorem hasT3 {T U V : Ty} {x y z : Value} (h : T.has σ x) (k : U.has σ y) (l : V.has σ z) : (Ty.tup3 T U V).has σ (.tuple #[x, y, z]) := ⟨x, y, z, rfl, h, k, l⟩
variable {dd : Option Tmp} {ty : TypeId} {pos : String} {af : Array Edge} {g : Option (Nat × Bool)}
theorem Own.cut {k : Nat} {e : TypeId} {c n : Nat} {v : Value} {ts : List Ty} (h : Own σ k e c v n ts) {m : Nat} (hm : m ≤ n) : ∃ ad cap, v = .slice ad n cap ∧ n ≤ cap ∧ Own σ k e c (.slice ad m cap) m (ts.take (m * c)) := by
  obtain ⟨us, r1, r2, r3, r4⟩ := h
  rcases r1.2 with ⟨rfl, rfl⟩ | ⟨g, cap, cur, rfl, hb, hg, hn, hm', hcs, htk⟩
  · obtain rfl : m = 0 := by omega
    have hts : ts = [] := List.eq_nil_of_length_eq_zero (by rw [← r2, r1.1]; simp)
    subst hts
    exact ⟨none, 0, rfl, Nat.le_refl _, by simpa using Own.nil σ k e c⟩
  · refine ⟨some ⟨g, 0, none⟩, cap, rfl, hn, ?_⟩
    refine Own.intro (us := us.take (m * c)) hg (r4 g rfl) (by omega) hm' hcs ?_ (by simp [r2]) ?_
    · rw [← htk, List.take_take, Nat.min_eq_left (Nat.mul_le_mul_right _ hm)]
    · intro j T u hT hu
      rw [List.getElem?_take] at hT hu
      split at hT
      · rw [if_pos (by assumption)] at hu
        exact r3 j T u hT hu
      · cases hT
theorem y_otake {k : Nat} {x y : Operand} {c n : Nat} {ts : List Ty} {t e e' : TypeId} {z v : Value} {b : Nat} {ki : IntKind} {h : Nat} (ht : P.underlying t = some (.slice e')) (he : Info P e' z c b) (ho : Own σ k e c v n ts) (hx : a.eval x = v) (hy : a.eval y = .int ki h) (hl : h ≤ n) :
    Yld P ⟨dd, .slice t x none (some y) none, ty, pos, af, g⟩ a σ (Pr.own k e c h (ts.take (h * c))) := by
  obtain ⟨ad, cap, rfl, hn, hO⟩ := ho.cut hl
  have hcap : cap ≤ 9223372036854775807 := by
    obtain ⟨us, r1, _⟩ := ho
    rcases r1.2 with ⟨e1, _⟩ | ⟨g, cap', cur, e1, _, _, _, hm', _⟩
    · cases e1; omega
    · cases e1; exact hm'
  refine Yld.of_run (v := sliced ad 0 h cap c) ?_ ?_
  · have h1 := run_slice_h (P := P) σ.w t ad n cap (elem_of ht) ki (h : Int) (by omega) (by omega)
    rw [elem_eq ht, he.size] at h1
    simp only [execOp, hx, hy, Option.map_some, Option.map_none, Sem.run_bind, run_sliceAt_slice σ.w t _ _ _ _ (elem_of ht), h1, Result.andThen_ok, Sem.run_pure, Int.toNat_natCast]
  · show Own σ k e c (sliced ad 0 h cap c) h _
    have : sliced ad 0 h cap c = .slice ad h cap := by
      unfold sliced
      cases ad with
      | none => simp
      | some ad => simp [Addr.add_zero']
    rw [this]; exact hO
theorem own_lst_take {α : Type} {f : α → Ty} {xs : List α} {k : Nat} {e : TypeId} {v : Value} {h : Nat} (hl : h ≤ xs.length) (ho : Own σ k e 1 v h ((xs.map f).take (h * 1))) : Own σ k e 1 v (xs.take h).length ((xs.take h).map f) := by
  rw [Nat.mul_one, ← List.map_take] at ho
  rwa [show (xs.take h).length = h by simp [Nat.min_eq_left hl]]
end Go.KL
namespace Go.KL
variable {P : Program}
theorem Own.one {σ : GW} {k : Nat} {e : TypeId} {c n : Nat} {v : Value} {ts : List Ty} (h : Own σ k e c v n ts) : v.oneCell' = true := by
  obtain ⟨us, r1, _⟩ := h
  rcases r1.2 with ⟨rfl, _⟩ | ⟨g, cap, cur, rfl, _⟩ <;> rfl
theorem OwnP.one {σ : GW} {k : Nat} {v : Value} {ts : List Ty} (h : OwnP σ k v ts) : v.oneCell' = true := by
  obtain ⟨g, e', cur, rfl, _⟩ := h; rfl
theorem OwnM.one {α β : Type} {F : β → Ty} {kv : α → Value} {σ : GW} {k : Nat} {v : Value} {f : α → Option β} (h : OwnM F kv σ k v f) : v.oneCell' = true := by
  obtain ⟨r, es, clock, rfl, _⟩ := h; rfl
theorem ownp_cellq {σ : GW} {k : Nat} {v x : Value} {ts : List Ty} (j : Nat) (U : Ty) (h : OwnP σ k v ts) (e : ts[j]? = some (Ty.val x)) (hx : U.has σ x) : OwnP σ k v (ts.set j U) := by
  obtain ⟨gg, e', cur, rfl, h2, h3, h4, h5⟩ := h
  refine ⟨gg, e', cur, rfl, h2, h3, by simpa using h4, fun i V u hV hu => ?_⟩
  by_cases hij : i = j
  · subst hij
    rw [List.getElem?_set_self (by exact (List.getElem?_eq_some_iff.1 e).1)] at hV
    cases hV
    have hu' : u = x := h5 i _ u e hu
    rw [hu']; exact hx
  · rw [List.getElem?_set_ne (Ne.symm hij)] at hV
    exact h5 i V u hV hu
end Go.KL
namespace Go.KL
variable {P : Program}
def Typed (σ : GW) (cs : Array Value) (ts : List Ty) : Prop := cs.size = ts.length ∧ ∀ (j : Nat) (T : Ty) (u : Value), ts[j]? = some T → cs[j]? = some u → T.has σ u
def bldT (l : List (Nat × Nat)) : List (Nat × Operand × Ty) → List Ty → List Ty
  | [], ts => ts
  | p :: ps, ts => bldT l ps (match l[p.1]? with | some (off, _) => ts.set off p.2.2 | none => ts)
def bldOk (l : List (Nat × Nat)) (n : Nat) (is : List Nat) : Bool := is.all fun i => match l[i]? with | some (off, 1) => decide (off < n) | _ => false
theorem Typed.set {σ : GW} {cs : Array Value} {ts : List Ty} (h : Typed σ cs ts) {off : Nat} {v : Value} {T : Ty} (hv : T.has σ v) : Typed σ (cs.setIfInBounds off v) (ts.set off T) := by
  refine ⟨by simp [h.1], fun j U u hU hu => ?_⟩
  by_cases hj : j = off
  · subst hj
    have hlt : j < cs.size := by have := (Array.getElem?_eq_some_iff.1 hu).1; simpa using this
    rw [List.getElem?_set_self (by rw [← h.1]; exact hlt)] at hU
    rw [Array.getElem?_setIfInBounds_self_of_lt hlt] at hu
    cases hU; cases hu; exact hv
  · rw [List.getElem?_set_ne (Ne.symm hj)] at hU
    rw [Array.getElem?_setIfInBounds_ne (Ne.symm hj)] at hu
    exact h.2 j U u hU hu
theorem fill_typed {σ : GW} {a : Act} {l : List (Nat × Nat)} {n : Nat} : ∀ (ps : List (Nat × Operand × Ty)) (cur : Array Value) (ts : List Ty), cur.size = n → Typed σ cur ts → (∀ p ∈ ps, One p.2.2 ∧ At p.2.2 σ a p.2.1) → bldOk l n (ps.map (·.1)) = true →
    ∃ cells, Instr.fill (fun i => l[i]?) cur (ps.map fun p => (p.1, a.eval p.2.1)) = some cells ∧ Typed σ cells (bldT l ps ts)
  | [], cur, ts, _, h, _, _ => ⟨cur, rfl, h⟩
  | p :: ps, cur, ts, hn, h, hp, hb => by
    obtain ⟨h1, h2⟩ := hp p (by simp)
    have hc := cells_of_one (h1 _ _ h2)
    rw [bldOk, List.map_cons, List.all_cons, Bool.and_eq_true] at hb
    obtain ⟨hb1, hb2⟩ := hb
    cases hl : l[p.1]? with
    | none => rw [hl] at hb1; cases hb1
    | some q =>
      obtain ⟨off, sz⟩ := q
      rw [hl] at hb1
      have hsz : sz = 1 ∧ off < n := by
        split at hb1
        · rename_i e; cases e; exact ⟨rfl, by simpa using hb1⟩
        · cases hb1
      obtain ⟨rfl, hoff⟩ := hsz
      obtain ⟨cells, e1, e2⟩ := fill_typed ps (cur.setIfInBounds off (a.eval p.2.1)) (ts.set off p.2.2) (by simpa using hn) (h.set h2) (fun q hq => hp q (by simp [hq])) hb2
      refine ⟨cells, ?_, ?_⟩
      · rw [List.map_cons, Instr.fill]
        generalize a.eval p.2.1 = v at hc e1 ⊢
        simp only [hl, hc]
        have : ¬ (off + 1 > cur.size) := by omega
        simp [this]
        simpa using e1
      · rw [bldT, hl]; exact e2
variable {d : Option Tmp} {ty : TypeId} {pos : String} {af : Array Edge} {g : Option (Nat × Bool)} {a : Act} {σ : GW}
theorem y_bld {t : TypeId} {l : List (Nat × Nat)} {z : Value} {c by_ : Nat} (ps : List (Nat × Operand × Ty)) (ts : List Ty) (hp : placesOk P t l = true) (he : Info P t z c by_) (hz : z.cells.size = ts.length) (hT : ∀ (j : Nat) (T : Ty) (u : Value), ts[j]? = some T → z.cells[j]? = some u → ∀ σ, T.has σ u)
    (hok : bldOk l z.cells.size (ps.map (·.1)) = true) (hps : ∀ p ∈ ps, One p.2.2 ∧ At p.2.2 σ a p.2.1) :
    Yld P ⟨d, .build t (ps.map fun p => (p.1, p.2.1)).toArray, ty, pos, af, g⟩ a σ (Ty.agg (bldT l ps ts)).pr := by
  obtain ⟨cells, e1, e2⟩ := fill_typed (σ := σ) ps z.cells ts rfl ⟨hz, fun j T u h1 h2 => hT j T u h1 h2 σ⟩ hps hok
  refine Yld.of_run (v := .agg cells) ?_ ⟨cells, rfl, e2.1, e2.2⟩
  simp only [execOp]
  have := run_build (P := P) (parts := (ps.map fun p => (p.1, a.eval p.2.1)).toArray) (cells := cells) hp he (by simpa using e1) σ.w
  simp only [List.map_toArray, List.map_map]
  have e : (fun (p : Nat × Operand) => (p.1, a.eval p.2)) ∘ (fun (p : Nat × Operand × Ty) => (p.1, p.2.1)) = fun p => (p.1, a.eval p.2.1) := rfl
  rw [e]
  simp [this]
end Go.KL

/- A region's obligations, told one by one. -/
namespace Go.KL
variable {P : Program}
def lk (i : Nat) (r : List Pr) (j : Nat) : Pr := List.getD r (i - 1 - j) Pr.any
def OblF (P : Program) (N : Nat) (D : List Deferred) (ops : Array Oper) (Φ : Nat → Pr) (a0 : Act) (σ0 : GW) (i : Nat) (o : Oper) (φ : Pr) : Prop :=
  ∀ a σ, Stp 0 σ0 σ → Ok N D a → (∀ t, free ops i t = true → a.eval (.tmp t) = a0.eval (.tmp t)) → Deps ops Φ a σ o.after.toList (Run P ops o a σ φ)
def RS (P : Program) (N : Nat) (D : List Deferred) (ops : Array Oper) (a : Act) (σ : GW) (G : Prop) (i : Nat) (r : List Pr) : Prop :=
  formB N ops = true → r.length = i → Obls P N D ops (lk i r) a σ 0 (ops.toList.take i) → G
theorem Obls.of {N : Nat} {D : List Deferred} {ops : Array Oper} {Φ : Nat → Pr} {a0 : Act} {σ0 : GW} : ∀ (l : List Oper) (k : Nat), (∀ j o, l[j]? = some o → Obl P N D ops Φ a0 σ0 (k + j) o) → Obls P N D ops Φ a0 σ0 k l
  | [], _, _ => trivial
  | x :: l, k, h => ⟨h 0 x rfl, Obls.of l (k + 1) fun j o hj => by
      have := h (j + 1) o (by simpa using hj)
      rwa [show k + (j + 1) = k + 1 + j by omega] at this⟩
theorem Deps.congr {ops : Array Oper} {Φ Ψ : Nat → Pr} {a : Act} {σ : GW} {R : Prop} : ∀ (l : List Edge), (∀ e ∈ l, Region.binds .any e = true → Ψ e.on = Φ e.on) → Deps ops Φ a σ l R → Deps ops Ψ a σ l R
  | [], _, h => h
  | e :: es, he, h => fun hb => Deps.congr es (fun x hx => he x (List.mem_cons_of_mem _ hx)) (h fun hbe => by
      have h1 := hb hbe
      unfold rd at h1 ⊢
      rw [he e (by simp) hbe] at h1
      exact h1)
theorem gS0 {N : Nat} {D : List Deferred} {ops : Array Oper} {a : Act} {σ : GW} {G : Prop} {i : Nat} {r : List Pr} {φ : Pr} {o : Oper} (h : OblF P N D ops (lk i r) a σ i o φ) (k : RS P N D ops a σ G (i + 1) (φ :: r)) (ho : ops.toList[i]? = some o) : RS P N D ops a σ G i r := by
  intro hF hl hob
  have hF' := Form.of_B hF
  refine k hF (by simp [hl]) (Obls.of _ _ fun j oj hj => ?_)
  rw [Nat.zero_add]
  rw [List.getElem?_take] at hj
  by_cases hji : j < i
  · have hj' : ops.toList[j]? = some oj := by
      split at hj
      · exact hj
      · cases hj
    have e : ∀ m, m < i → lk (i + 1) (φ :: r) m = lk i r m := fun m hm => by
      unfold lk
      rw [show i + 1 - 1 - m = (i - 1 - m) + 1 by omega]
      rfl
    have h1 := Obls.get _ 0 hob j oj (by rw [List.getElem?_take, if_pos hji]; exact hj')
    rw [Nat.zero_add] at h1
    intro a1 σ1 hs hok hsm
    have h2 := h1 a1 σ1 hs hok hsm
    rw [← e j hji] at h2
    refine Deps.congr _ (fun x hx hb => ?_) h2
    have := hF'.back j oj (by simpa using hj') x (by simpa using hx) hb
    exact e x.on (by omega)
  · split at hj
    · have hje : j = i := by omega
      subst hje
      rw [ho] at hj; cases hj
      intro a1 σ1 hs hok hsm
      have h2 := h a1 σ1 hs hok hsm
      have e : lk (j + 1) (φ :: r) j = φ := by
        unfold lk
        rw [show j + 1 - 1 - j = 0 by omega]; rfl
      rw [e]
      refine Deps.congr _ (fun x hx hb => ?_) h2
      have := hF'.back j o (by simpa using ho) x (by simpa using hx) hb
      unfold lk
      rw [show j + 1 - 1 - x.on = (j - 1 - x.on) + 1 by omega]
      rfl
    · cases hj
variable {N : Nat} {D : List Deferred} {ops : Array Oper} {a : Act} {σ : GW} {G : Prop} {i : Nat} {r : List Pr} {o : Oper}
theorem gS {T : Ty} (ho : ops.toList[i]? = some o) (h : OblF P N D ops (lk i r) a σ i o T.pr) (k : RS P N D ops a σ G (i + 1) (T.pr :: r)) : RS P N D ops a σ G i r := gS0 h k ho
theorem gT (T : Ty) (ho : ops.toList[i]? = some o) (h : OblF P N D ops (lk i r) a σ i o T.pr) (k : RS P N D ops a σ G (i + 1) (T.pr :: r)) : RS P N D ops a σ G i r := gS0 h k ho
theorem gR (φ : Pr) (ho : ops.toList[i]? = some o) (h : OblF P N D ops (lk i r) a σ i o φ) (k : RS P N D ops a σ G (i + 1) (φ :: r)) : RS P N D ops a σ G i r := gS0 h k ho
theorem Deps.const {Φ : Nat → Pr} {R : Prop} : ∀ (l : List Edge), R → Deps ops Φ a σ l R
  | [], h => h
  | _ :: es, h => fun _ => Deps.const es h
theorem gM {T : Ty} {d : Option Tmp} {t : Nat} {ty : TypeId} {pos : String} {af : Array Edge} (q : At T σ a (.tmp t)) (k : RS P N D ops a σ G (i + 1) (T.pr :: r)) (ho : ops.toList[i]? = some ⟨d, .move (.tmp t), ty, pos, af, none⟩ := by rfl) (hf : free ops i t = true := by rfl) : RS P N D ops a σ G i r :=
  gS0 (fun _ _ E _ H => Deps.const _ (rP (y_move (kp (H t hf) E q)))) k ho
theorem gC (T : Ty) {d : Option Tmp} {v : Value} {ty : TypeId} {pos : String} {af : Array Edge} (k : RS P N D ops a σ G (i + 1) (T.pr :: r)) (ho : ops.toList[i]? = some ⟨d, .assign (.const v), ty, pos, af, none⟩ := by rfl) (hT : ∀ τ, T.has τ v := by exact fun _ => rfl) : RS P N D ops a σ G i r :=
  gS0 (fun _ _ _ _ _ => Deps.const _ (rP (y_assign (hT _)))) k ho
theorem Deps.nth {Φ : Nat → Pr} {R : Prop} {x : Edge} : ∀ (l : List Edge) (k : Nat), l[k]? = some x → ((Region.binds .any x = true → rd ops Φ x.on a σ) → R) → Deps ops Φ a σ l R
  | [], _, h, _ => by simp at h
  | y :: l, 0, h, f => by
    simp at h; subst h
    exact fun hb => Deps.const _ (f hb)
  | y :: l, k + 1, h, f => fun _ => Deps.nth l k (by simpa using h) f
theorem gB (k : Nat) {T : Ty} {d : Option Tmp} {e : Nat} {ty : TypeId} {pos : String} {af : Array Edge} {x : Edge} (h : RS P N D ops a σ G (i + 1) (T.pr :: r)) (ho : ops.toList[i]? = some ⟨d, .assign (.tmp e), ty, pos, af, none⟩ := by rfl) (hx : af.toList[k]? = some x := by rfl) (hT : lk i r x.on = T.pr := by rfl) (he : dstOf ops x.on = some e := by rfl) (hb : Region.binds .any x = true := by rfl) : RS P N D ops a σ G i r :=
  gS0 (fun A B E _ H => Deps.nth _ k hx fun h1 => by
    have h2 := h1 hb
    unfold rd at h2
    rw [he, hT] at h2
    exact rP (y_assign h2)) h ho
theorem gI {id : Nat} {draw : Bool} {Q : Exit → Act → World → Prop} (a : Act) (σ : GW) (ok : Ok N D a) (k : RS P N D ops a σ ((Code.region id ops draw).wp P Q a σ.w) 0 []) (hF : formB N ops = true := by rfl) : (Code.region id ops draw).wp P Q a σ.w := k hF rfl trivial
theorem gE {id : Nat} {draw : Bool} {Q : Exit → Act → World → Prop} (ok : Ok N D a) (hQ : ∀ a' σ', Ok N D a' → Done N D ops (lk i r) a σ a' σ' → Q .normal a' σ'.w) (hi : ops.toList.length = i := by rfl) (hP : P.follows .mixedOrders = true := by rfl) : RS P N D ops a σ ((Code.region id ops draw).wp P Q a σ.w) i r :=
  fun hF _ hob => reg hP (lk i r) ok hF (by rwa [← hi, List.take_length, hi] at hob) fun a' σ' D => hQ a' σ' D.ok D
theorem gE2 {id : Nat} {draw : Bool} {Q : Exit → Act → World → Prop} (ok : Ok N D a) (hQ : ∀ a' σ', Ok N D a' → Half i N D ops (lk i r) a σ a' σ' → wpList P ops Q (ops.toList.drop i) a' σ'.w) (hi : i ≤ ops.size := by decide) (hB : (!draw || forcedB i ops.toList) = true := by rfl) (hP : P.follows .mixedOrders = true := by rfl) : RS P N D ops a σ ((Code.region id ops draw).wp P Q a σ.w) i r :=
  fun hF _ hob => reg2 hP i (lk i r) ok hF hi hB hob fun a' σ' D => hQ a' σ' D.ok D
theorem y_mv {T : Ty} {d : Option Tmp} {x : Operand} {ty : TypeId} {pos : String} {af : Array Edge} {g : Option (Nat × Bool)} (h : T.has σ (a.eval x)) : Yld P ⟨d, .move x, ty, pos, af, g⟩ a σ T.pr := y_move h
theorem y_as {T : Ty} {d : Option Tmp} {x : Operand} {ty : TypeId} {pos : String} {af : Array Edge} {g : Option (Nat × Bool)} (h : T.has σ (a.eval x)) : Yld P ⟨d, .assign x, ty, pos, af, g⟩ a σ T.pr := y_assign h
/-! Guards. -/
theorem gu {j d : Nat} {want c : Bool} {T : Ty} (ok : Ok N D a) (h : At (.bool c) σ a (.tmp d)) (hy : c = want → Yld P o a σ T.pr) (hg : o.guard = some (j, want) := by rfl) (hd : dstOf ops j = some d := by rfl) (hN : d < N := by decide) : Run P ops o a σ (Ty.grd (c = want) T).pr := run_guard ok hg hd hN h hy
theorem gu2 {j d : Nat} {want c : Bool} {p : Prop} {T : Ty} (ok : Ok N D a) (h : At (.grd p (.bool c)) σ a (.tmp d)) (hy : p ∧ c = want → Yld P o a σ T.pr) (hg : o.guard = some (j, want) := by rfl) (hd : dstOf ops j = some d := by rfl) (hN : d < N := by decide) : Run P ops o a σ (Ty.grd (p ∧ c = want) T).pr := run_guard2 ok hg hd hN h hy
theorem guf {j d : Nat} {p : Prop} [Decidable p] {T : Ty} (ok : Ok N D a) (h : At (.bool (decide p)) σ a (.tmp d)) (hy : decide p = false → ¬ p → Yld P o a σ T.pr) (hg : o.guard = some (j, false) := by rfl) (hd : dstOf ops j = some d := by rfl) (hN : d < N := by decide) : Run P ops o a σ (Ty.grd (decide p = false) T).pr := run_guard ok hg hd hN h fun hg => hy hg (of_decide_eq_false hg)
end Go.KL
namespace Go.KL
theorem pA {T : Ty} {σ s : GW} {a : Act} {i : Nat} {v : Value} (hle : σ.Le s) (e : a.eval (.tmp i) = v) (h : T.has σ v) : At T s a (.tmp i) := by show Ty.has _ _ _; rw [e]; exact Ty.up _ hle h
theorem pB {T : Ty} {σ : GW} {a : Act} {i : Nat} {v : Value} (e : a.eval (.tmp i) = v) (h : T.has σ v) : At T σ a (.tmp i) := by show Ty.has _ _ _; rw [e]; exact h
section
variable {α β : Type} {f : α → β} {x y z u v w s t : α}
theorem my1 : (#[x]).map f = #[f x] := by simp
theorem my2 : (#[x, y]).map f = #[f x, f y] := by simp
theorem my4 : (#[x, y, z, u]).map f = #[f x, f y, f z, f u] := by simp
end
theorem tL {P : Program} {L : List Nat} {N d : Nat} {D : List Deferred} {ops : Array Oper} {Q : Exit → Act → World → Prop} {o : Oper} {rest : List Oper} {a : Act} {σ : GW} {R : Value → GW → Prop} (ok : Ok N D a) (hy : YldL L P o a σ R)
    (k : ∀ a' τ, StpL L σ τ → Ok N D a' → R (a'.eval (.tmp d)) τ → (∀ t, t ≠ d → a'.eval (.tmp t) = a.eval (.tmp t)) → wpList P ops Q rest a' τ.w) (hg : o.guard = none := by rfl) (hd : o.dst = some d := by rfl) (hN : d < N := by decide) : wpList P ops Q (o :: rest) a σ.w := tailL hg hd hN ok hy k
theorem kq {L : List Nat} {T : Ty} {σ σ' : GW} {a a' : Act} {d : Nat} (hs : StpL L σ σ') (sm : ∀ t, t ≠ d → a'.eval (.tmp t) = a.eval (.tmp t)) (i : Nat) (h : T.has σ (a.eval (.tmp i))) (hd : i ≠ d := by decide) (hL : 1 ∉ L := by decide) : T.has σ' (a'.eval (.tmp i)) := kpL hs hL (sm i hd) h
theorem FromL.sl {L M : List Nat} {σ τ ρ : GW} (h : FromL L σ τ) (k : StpL M τ ρ) (hM : ∀ m ∈ M, 2 ≤ m := by decide) : FromL L σ ρ := h.stepL k hM
theorem Own.kl {L : List Nat} {k : Nat} {σ τ : GW} {e : TypeId} {c : Nat} {v : Value} {n : Nat} {ts : List Ty} (h : Own σ k e c v n ts) (hs : StpL L σ τ) (h1 : 1 ∉ L := by decide) (hk : k ∉ L := by decide) : Own τ k e c v n ts := h.keepL hs h1 hk
theorem OwnP.kl {L : List Nat} {k : Nat} {σ τ : GW} {v : Value} {ts : List Ty} (h : OwnP σ k v ts) (hs : StpL L σ τ) (h1 : 1 ∉ L := by decide) (hk : k ∉ L := by decide) : OwnP τ k v ts := h.keepL hs h1 hk
theorem OwnM.kl {α β : Type} {F : β → Ty} {kv : α → Value} {L : List Nat} {k : Nat} {σ τ : GW} {v : Value} {f : α → Option β} (h : OwnM F kv σ k v f) (hs : StpL L σ τ) (h1 : 1 ∉ L := by decide) (hk : k ∉ L := by decide) : OwnM F kv τ k v f := h.keepL hs h1 hk
theorem ef {ops : Array Oper} {Φ : Nat → Pr} {j d : Nat} {a : Act} {σ : GW} {T : Ty} {b : Bool} (h : b = true → rd ops Φ j a σ) (hT : Φ j = Ty.pr T) (hb : b = true := by rfl) (hd : dstOf ops j = some d := by rfl) : At T σ a (.tmp d) := ed h hb hd hT
section
variable {M N : Nat} {D : List Deferred} {ops : Array Oper} {Φ : Nat → Pr} {a0 a : Act} {σ0 σ : GW} {T : Ty} {t : Nat}
theorem Done.k (D : Done N D ops Φ a0 σ0 a σ) (h : T.has σ0 (a0.eval (.tmp t))) (ht : (ops.toList.all fun o => o.dst != some t) = true := by rfl) : T.has σ (a.eval (.tmp t)) := D.kt h ht
theorem Half.k (D : Half M N D ops Φ a0 σ0 a σ) (h : T.has σ0 (a0.eval (.tmp t))) (ht : ((ops.toList.take M).all fun o => o.dst != some t) = true := by rfl) : T.has σ (a.eval (.tmp t)) := D.kt h ht
theorem Done.m (h : Done N D ops Φ a0 σ0 a σ) (j : Nat) (hT : Φ j = Ty.pr T) (hd : dstOf ops j = some t := by rfl) : At T σ a (.tmp t) := h.dn j hd hT
theorem Half.m (h : Half M N D ops Φ a0 σ0 a σ) (j : Nat) (hT : Φ j = Ty.pr T) (hd : dstOf ops j = some t := by rfl) (hj : j < M := by decide) : At T σ a (.tmp t) := h.dn j hj hd hT
end
/-! ### Shorter still -/
theorem oM {p : Prop} (h : p := by omega) : p := h
theorem dE {p : Prop} (h : p := by decide) : p := h
theorem oX {p : Prop} (h : p := by first | omega | assumption) : p := h
theorem wX {n : Int} (h1 : -9223372036854775808 ≤ n := by omega) (h2 : n ≤ 9223372036854775807 := by omega) : IntKind.i64.wrap n = n := w64 h1 h2
theorem cJ {m n : Int} {k : IntKind} {σ : GW} {v : Value} (h : (Ty.val (.int k m)).has σ v) (e : m = n := by first | rfl | omega | (simp_all; done) | (simp_all; omega)) : (Ty.val (.int k n)).has σ v := cvi e h
theorem cN {m n : Int} {k : IntKind} {σ : GW} {v : Value} (h : (Ty.val (.int k m)).has σ v) (e : m = n := by first | omega | exact (Int.natCast_mul _ _).symm) : (Ty.val (.int k n)).has σ v := cvi e h
theorem uL {T : Ty} {σ : GW} {l : List (Nat × Nat)} {v : Value} (h : T.has σ v) : T.has (σ.lend l) v := Ty.up _ (GW.le_lend _ _) h
theorem lW {σ : GW} {l : List (Nat × Nat)} {L : List Nat} (h : ∀ x ∈ l, x.2 ∈ L := by decide) : Low L (σ.lend l) := GW.low_lend _ h
theorem eI {ops : Array Oper} {Φ : Nat → Pr} {j d : Nat} {a : Act} {σ : GW} {T : Ty} {b : Bool} (h : b = true → rd ops Φ j a σ) (hT : Φ j = Ty.pr T := by rfl) (hb : b = true := by rfl) (hd : dstOf ops j = some d := by rfl) : At T σ a (.tmp d) := ed h hb hd hT
end Go.KL

/- Rows that share an array: 'append' leaves alone what is ahead. -/
namespace Go.KL
open Go.RowKit
variable {P : Program}

variable {d : Option Tmp} {ty : TypeId} {pos : String} {af : Array Edge} {g : Option (Nat × Bool)} {a : Act} {σ : GW}

end Go.KL

/- 'append' to a fresh empty row, in any order with what stands beside it. -/
namespace Go.KL
open Go.RowKit
variable {P : Program}

variable {d : Option Tmp} {ty : TypeId} {pos : String} {af : Array Edge} {g : Option (Nat × Bool)} {a : Act} {σ : GW}
end Go.KL

/- Plain mathematics of rows. No program in sight. -/
namespace Go.KL

/-! ### Rows -/
def isRowB (r : List Int) : Bool := decide (∀ b, b < r.length → r.count (b : Int) = 1)
def rowMay (r : List Int) : Int := if r.length < 1 ∨ 12 < r.length then 1 else if isRowB r then 0 else 2
structure IsRow (r : List Int) : Prop where
  pos : 1 ≤ r.length
  le : r.length ≤ 12
  one : ∀ b, b < r.length → r.count (b : Int) = 1

theorem nodup_len : ∀ (n : Nat) (l : List Int), l.Nodup → (∀ x ∈ l, 0 ≤ x ∧ x < n) → l.length ≤ n
  | 0, l, _, h => by
    cases l with
    | nil => simp
    | cons x l => have := h x (by simp); omega
  | n + 1, l, hn, h => by
    have h1 := nodup_len n (l.erase (n : Int)) (hn.erase _) (fun x hx => by
      have hx' := List.mem_of_mem_erase hx
      have := h x hx'
      have hne : x ≠ (n : Int) := fun e => by
        subst e
        exact (List.Nodup.mem_erase_iff hn).1 hx |>.1 rfl
      omega)
    have h2 : l.length ≤ (l.erase (n : Int)).length + 1 := by
      by_cases hm : (n : Int) ∈ l
      · rw [List.length_erase_of_mem hm]; omega
      · rw [List.erase_of_not_mem hm]; omega
    omega

theorem row_all {r : List Int} (hn : r.Nodup) (hb : ∀ x ∈ r, 0 ≤ x ∧ x < r.length) : ∀ b, b < r.length → r.count (b : Int) = 1 := by
  intro b hlt
  have hmem : (b : Int) ∈ r := by
    refine Classical.byContradiction fun hm => ?_
    have := nodup_len r.length (r ++ [(b : Int)]) (by
      rw [List.nodup_append]
      refine ⟨hn, by simp, fun x hx y hy => ?_⟩
      simp at hy; subst hy
      intro e; subst e; exact hm hx) (fun x hx => by
      rcases List.mem_append.1 hx with h | h
      · exact hb x h
      · simp at h; omega)
    simp only [List.length_append, List.length_cons, List.length_nil] at this; omega
  have h1 := List.count_pos_iff.2 hmem
  have h2 := List.nodup_iff_count.1 hn (b : Int)
  omega

theorem countP_lt : ∀ (n : Nat) (r : List Int), (∀ b, b < n → r.count (b : Int) = 1) → r.countP (fun x => decide (0 ≤ x ∧ x < (n : Int))) = n
  | 0, r, _ => by
    rw [List.countP_eq_zero]
    intro x _; simp only [decide_eq_true_eq]; omega
  | n + 1, r, h => by
    have ih := countP_lt n r (fun b hb => h b (by omega))
    have h1 := h n (by omega)
    have : r.countP (fun x => decide (0 ≤ x ∧ x < ((n + 1 : Nat) : Int))) = r.countP (fun x => decide (0 ≤ x ∧ x < (n : Int))) + r.count (n : Int) := by
      clear ih h1 h
      induction r with
      | nil => simp
      | cons x r ih =>
        rw [List.countP_cons, List.count_cons, List.countP_cons, ih]
        by_cases h1 : x = (n : Int)
        · have h2 : decide (0 ≤ x ∧ x < (n : Int)) = false := decide_eq_false (by omega)
          have h3 : decide (0 ≤ x ∧ x < ((n + 1 : Nat) : Int)) = true := decide_eq_true (by omega)
          have h4 : (x == (n : Int)) = true := by rw [h1]; exact beq_self_eq_true _
          rw [h2, h3, h4]; simp only [if_true, Bool.false_eq_true, if_false]; omega
        · have h4 : (x == (n : Int)) = false := beq_eq_false_iff_ne.2 h1
          have h5 : decide (0 ≤ x ∧ x < ((n + 1 : Nat) : Int)) = decide (0 ≤ x ∧ x < (n : Int)) := by
            rw [decide_eq_decide]; omega
          rw [h4, h5]; simp only [Bool.false_eq_true, if_false]; omega
    omega

theorem IsRow.bound {r : List Int} (h : IsRow r) : ∀ x ∈ r, 0 ≤ x ∧ x < r.length := by
  have h1 := countP_lt r.length r h.one
  have h2 := List.countP_eq_length.1 h1
  intro x hx
  simpa using h2 x hx
theorem IsRow.nodup {r : List Int} (h : IsRow r) : r.Nodup := by
  rw [List.nodup_iff_count]
  intro x
  by_cases hx : x ∈ r
  · have hb := h.bound x hx
    have := h.one x.toNat (by omega)
    rw [show ((x.toNat : Nat) : Int) = x by omega] at this
    omega
  · rw [List.count_eq_zero_of_not_mem hx]; omega
theorem IsRow.at {r : List Int} (h : IsRow r) {i : Nat} (hi : i < r.length) : 0 ≤ r.getD i 0 ∧ r.getD i 0 < r.length := by
  have : r.getD i 0 = r[i] := by simp [hi]
  rw [this]; exact h.bound _ (List.getElem_mem hi)
theorem rowMay_ok {r : List Int} : rowMay r = 0 ↔ IsRow r := by
  unfold rowMay isRowB
  constructor
  · intro h
    split at h
    · cases h
    · split at h
      · rename_i h1 h2
        exact ⟨by omega, by omega, of_decide_eq_true h2⟩
      · cases h
  · intro h
    rw [if_neg (by have := h.pos; have := h.le; omega), if_pos (decide_eq_true h.one)]
theorem rowMay_of {r : List Int} (h1 : 1 ≤ r.length) (h2 : r.length ≤ 12) (hn : r.Nodup) (hb : ∀ x ∈ r, 0 ≤ x ∧ x < r.length) : rowMay r = 0 := rowMay_ok.2 ⟨h1, h2, row_all hn hb⟩
/-! ### Check's array -/
def seenL (r : List Int) (k : Nat) : List Int := (List.range 12).map fun (b : Nat) => (((r.take k).count (b : Int) : Nat) : Int)
theorem seenL_get (r : List Int) (k b : Nat) (hb : b < 12) : (seenL r k).getD b 0 = (((r.take k).count (b : Int) : Nat) : Int) := by simp [seenL, hb]
theorem take_snoc {α : Type} (r : List α) (d : α) (k : Nat) (h : k < r.length) : r.take (k + 1) = r.take k ++ [r.getD k d] := by
  rw [List.take_succ_eq_append_getElem h]; simp [h]
theorem gd (l : List Int) (j : Nat) (h : j < l.length) : l[j] = l.getD j 0 := by simp [h]
structure Upto (r : List Int) (k : Nat) : Prop where
  bd : ∀ x ∈ r.take k, 0 ≤ x ∧ x < r.length
  nd : (r.take k).Nodup
theorem Upto.zero (r : List Int) : Upto r 0 := ⟨by simp, by simp⟩
theorem Upto.step {r : List Int} {k : Nat} (h : Upto r k) (hk : k < r.length) (h0 : 0 ≤ r.getD k 0) (h1 : r.getD k 0 < r.length) (h2 : r.length ≤ 12) (h3 : (seenL r k).getD (r.getD k 0).toNat 0 ≤ 0) : Upto r (k + 1) := by
  have hc : (r.take k).count (r.getD k 0) = 0 := by
    rw [seenL_get r k _ (by omega)] at h3
    rw [show (((r.getD k 0).toNat : Nat) : Int) = r.getD k 0 by omega] at h3
    omega
  have hm : r.getD k 0 ∉ r.take k := List.count_eq_zero.1 hc
  refine ⟨fun x hx => ?_, ?_⟩
  · rw [take_snoc r 0 k hk] at hx
    rcases List.mem_append.1 hx with h' | h'
    · exact h.bd x h'
    · simp only [List.mem_singleton] at h'; subst h'; exact ⟨h0, h1⟩
  · rw [take_snoc r 0 k hk, List.nodup_append]
    refine ⟨h.nd, by simp, fun x hx y hy => ?_⟩
    simp only [List.mem_singleton] at hy; subst hy
    intro e; subst e; exact hm hx
theorem Upto.row {r : List Int} (h : Upto r r.length) (h1 : 1 ≤ r.length) (h2 : r.length ≤ 12) : rowMay r = 0 := by
  have hb := h.bd; have hn := h.nd
  rw [List.take_length] at hb hn
  exact rowMay_of h1 h2 hn hb
/-! ### a, changed by b -/
def byL (a b : List Int) : List Int := b.map fun k => a.getD k.toNat 0
theorem byL_len (a b : List Int) : (byL a b).length = b.length := by simp [byL]
/-! ### What undoes a row -/
theorem idxOf_at {r : List Int} (hn : r.Nodup) {k : Nat} (hk : k < r.length) : r.idxOf (r.getD k 0) = k := by
  rw [← gd r k hk]; exact hn.idxOf_getElem k hk
theorem IsRow.mem {r : List Int} (h : IsRow r) {b : Nat} (hb : b < r.length) : (b : Int) ∈ r := List.count_pos_iff.1 (by rw [h.one b hb]; omega)
/-! ### Rounds -/
def roundsL (n : Nat) : List Int := (List.range n).map fun (i : Nat) => (i : Int)
theorem roundsL_len (n : Nat) : (roundsL n).length = n := by simp [roundsL]
theorem roundsL_row {n : Nat} (h1 : 1 ≤ n) (h2 : n ≤ 12) : IsRow (roundsL n) := by
  refine ⟨by rw [roundsL_len]; exact h1, by rw [roundsL_len]; exact h2, row_all ?_ fun x hx => ?_⟩
  · refine List.Pairwise.map _ (R := fun a b => a ≠ b) (fun a b h e => h (by omega)) List.nodup_range
  · rw [roundsL_len]
    simp only [roundsL, List.mem_map, List.mem_range] at hx
    obtain ⟨i, hi, rfl⟩ := hx; omega

/-! ### Two rows -/
/-! ### Lists that are the same; where lists differ -/
end Go.KL

/- The cycles of a row. Plain mathematics. -/
namespace Go.KL

def nxt (r : List Int) (k : Nat) : Nat := (r.getD k 0).toNat
def itr (r : List Int) (b : Nat) : Nat → Nat
  | 0 => b
  | m + 1 => nxt r (itr r b m)

theorem nxt_lt {r : List Int} (h : IsRow r) {k : Nat} (hk : k < r.length) : nxt r k < r.length := by
  have := h.at hk; unfold nxt; omega
theorem nxt_int {r : List Int} (h : IsRow r) {k : Nat} (hk : k < r.length) : ((nxt r k : Nat) : Int) = r.getD k 0 := by
  have := h.at hk; unfold nxt; omega
theorem nxt_inj {r : List Int} (h : IsRow r) {j k : Nat} (hj : j < r.length) (hk : k < r.length) (e : nxt r j = nxt r k) : j = k := by
  have e' : r.getD j 0 = r.getD k 0 := by rw [← nxt_int h hj, ← nxt_int h hk, e]
  rw [← idxOf_at h.nodup hj, ← idxOf_at h.nodup hk, e']
theorem itr_lt {r : List Int} (h : IsRow r) {b : Nat} (hb : b < r.length) : ∀ m, itr r b m < r.length
  | 0 => hb
  | m + 1 => nxt_lt h (itr_lt h hb m)
theorem itr_add (r : List Int) (b m : Nat) : ∀ n, itr r b (m + n) = itr r (itr r b m) n
  | 0 => rfl
  | n + 1 => by rw [Nat.add_succ]; simp only [itr]; rw [itr_add r b m n]
theorem itr_cancel {r : List Int} (h : IsRow r) {b : Nat} (hb : b < r.length) : ∀ (i d : Nat), itr r b i = itr r b (i + d) → b = itr r b d
  | 0, d, e => by simpa [itr] using e
  | i + 1, d, e => by
    refine itr_cancel h hb i d ?_
    rw [show i + 1 + d = (i + d) + 1 by omega] at e
    exact nxt_inj h (itr_lt h hb i) (itr_lt h hb (i + d)) e

theorem collide {n : Nat} (f : Nat → Nat) (hf : ∀ i, f i < n) : ∃ i j, i < j ∧ j ≤ n ∧ f i = f j := by
  refine Classical.byContradiction fun hn => ?_
  have hl := nodup_len n ((List.range (n + 1)).map fun (i : Nat) => ((f i : Nat) : Int)) ?_ ?_
  · simp at hl; omega
  · refine List.Pairwise.map _ (R := fun a b => a < b ∧ b ≤ n) (fun a b hab e => hn ⟨a, b, hab.1, hab.2, by omega⟩) ?_
    rw [List.pairwise_iff_getElem]
    intro i j hi hj hij
    simp at hi hj ⊢
    omega
  · intro x hx
    simp only [List.mem_map, List.mem_range] at hx
    obtain ⟨i, _, rfl⟩ := hx
    have := hf i; omega

theorem back_exists {r : List Int} (h : IsRow r) {b : Nat} (hb : b < r.length) : ∃ m, m < r.length ∧ itr r b (m + 1) = b := by
  obtain ⟨i, j, hij, hj, e⟩ := collide (itr r b) (itr_lt h hb)
  refine ⟨j - i - 1, by omega, ?_⟩
  have := itr_cancel h hb i (j - i) (by rw [show i + (j - i) = j by omega]; exact e)
  rw [show j - i - 1 + 1 = j - i by omega]; exact this.symm

def per (r : List Int) (b : Nat) : Nat := (List.range r.length).findIdx (fun m => itr r b (m + 1) == b) + 1
theorem per_spec {r : List Int} (h : IsRow r) {b : Nat} (hb : b < r.length) : 1 ≤ per r b ∧ per r b ≤ r.length ∧ itr r b (per r b) = b ∧ ∀ m, 0 < m → m < per r b → itr r b m ≠ b := by
  obtain ⟨m, hm, e⟩ := back_exists h hb
  have hx : (List.range r.length).findIdx (fun m => itr r b (m + 1) == b) < (List.range r.length).length := List.findIdx_lt_length_of_exists ⟨m, List.mem_range.2 hm, by simp [e]⟩
  have hx' : (List.range r.length).findIdx (fun m => itr r b (m + 1) == b) < r.length := by simpa using hx
  refine ⟨by unfold per; omega, by unfold per; omega, ?_, fun m h0 hm => ?_⟩
  · have := List.findIdx_getElem (w := hx)
    simp only [List.getElem_range, beq_iff_eq] at this
    exact this
  · have := List.not_of_lt_findIdx (p := fun m => itr r b (m + 1) == b) (xs := List.range r.length) (i := m - 1) (by unfold per at hm; omega)
    simp only [List.getElem_range, beq_eq_false_iff_ne] at this
    rwa [show m - 1 + 1 = m by omega] at this

def orb (r : List Int) (b : Nat) : List Int := (List.range (per r b)).map fun (m : Nat) => ((itr r b m : Nat) : Int)
theorem itr_inj {r : List Int} (h : IsRow r) {b : Nat} (hb : b < r.length) {i j : Nat} (hij : i < j) (hj : j < per r b) : itr r b i ≠ itr r b j := by
  intro e
  have := itr_cancel h hb i (j - i) (by rw [show i + (j - i) = j by omega]; exact e)
  exact (per_spec h hb).2.2.2 (j - i) (by omega) (by omega) this.symm

def least (r : List Int) (b : Nat) : Bool := (List.range (per r b)).all fun m => decide (b ≤ itr r b m)
def cyclesTo (r : List Int) (k : Nat) : List (List Int) := ((List.range k).filter (least r)).map (orb r)
def cyclesL (r : List Int) : List (List Int) := cyclesTo r r.length
theorem cyclesTo_yes (r : List Int) (k : Nat) (h : least r k = true) : cyclesTo r (k + 1) = cyclesTo r k ++ [orb r k] := by simp [cyclesTo, List.range_succ, h]
theorem cyclesTo_no (r : List Int) (k : Nat) (h : least r k = false) : cyclesTo r (k + 1) = cyclesTo r k := by simp [cyclesTo, List.range_succ, h]

def Leads (r : List Int) (b k : Nat) : Prop := ∃ m, itr r b m = k
theorem Leads.small {r : List Int} (h : IsRow r) {b k : Nat} (hb : b < r.length) (hl : Leads r b k) : ∃ m, m < per r b ∧ itr r b m = k := by
  obtain ⟨m, e⟩ := hl
  induction m using Nat.strongRecOn generalizing k with
  | _ m ih =>
  by_cases hm : m < per r b
  · exact ⟨m, hm, e⟩
  · have hp := per_spec h hb
    refine ih (m - per r b) (by omega) ?_
    have := itr_add r b (per r b) (m - per r b)
    rw [hp.2.2.1, show per r b + (m - per r b) = m by omega] at this
    rw [← this]; exact e
theorem Leads.symm {r : List Int} (h : IsRow r) {b k : Nat} (hb : b < r.length) (hl : Leads r b k) : Leads r k b := by
  obtain ⟨m, hm, e⟩ := hl.small h hb
  have hp := per_spec h hb
  refine ⟨per r b - m, ?_⟩
  have := itr_add r b m (per r b - m)
  rw [show m + (per r b - m) = per r b by omega, hp.2.2.1, e] at this
  exact this.symm
theorem Leads.trans {r : List Int} {a b c : Nat} (h : Leads r a b) (k : Leads r b c) : Leads r a c := by
  obtain ⟨m, rfl⟩ := h
  obtain ⟨n, rfl⟩ := k
  exact ⟨m + n, itr_add r a m n⟩
theorem Leads.lt {r : List Int} (h : IsRow r) {b k : Nat} (hb : b < r.length) (hl : Leads r b k) : k < r.length := by
  obtain ⟨m, rfl⟩ := hl; exact itr_lt h hb m
theorem least_iff {r : List Int} (h : IsRow r) {b : Nat} (hb : b < r.length) : least r b = true ↔ ∀ k, Leads r b k → b ≤ k := by
  unfold least
  rw [List.all_eq_true]
  constructor
  · intro hh k hk
    obtain ⟨m, hm, rfl⟩ := hk.small h hb
    exact of_decide_eq_true (hh m (List.mem_range.2 hm))
  · intro hh m _
    exact decide_eq_true (hh _ ⟨m, rfl⟩)

theorem orb_len (r : List Int) (b : Nat) : (orb r b).length = per r b := by simp [orb]
end Go.KL

/- Order of a row; changes. Plain mathematics. -/
namespace Go.KL

/-! ### The order, as the program reckons it -/
def ordTo (l : List (List Int)) (k : Nat) : Nat := (l.take k).foldl (fun o c => o * (c.length / Nat.gcd o c.length)) 1
def oddTo (l : List (List Int)) (k : Nat) : Bool := (l.take k).foldl (fun b c => b != decide (((c.length % 2 : Nat) : Int) = (0 : Int))) false
def ordL (r : List Int) : Nat := ordTo (cyclesL r) (cyclesL r).length
def oddL (r : List Int) : Bool := oddTo (cyclesL r) (cyclesL r).length
theorem cyc_mem {r : List Int} {c : List Int} (h : c ∈ cyclesL r) : ∃ b, b < r.length ∧ least r b = true ∧ c = orb r b := by
  unfold cyclesL cyclesTo at h
  obtain ⟨b, hb, rfl⟩ := List.mem_map.1 h
  rw [List.mem_filter, List.mem_range] at hb
  exact ⟨b, hb.1, hb.2, rfl⟩
/-! ### Pick, ChangeOf -/
def pick (c : Int) (n : Nat) : Nat := if c < 0 then (-(c + 1)).toNat % n else c.toNat % n
theorem pick_lt (c : Int) {n : Nat} (hn : 0 < n) : pick c n < n := by
  unfold pick; split <;> exact Nat.mod_lt _ hn
/-! ### Index -/
def indexL (xs : List Int) (x : Int) : Int := if x ∈ xs then ((xs.idxOf x : Nat) : Int) else -1
theorem indexL_yes {xs : List Int} {x : Int} {k : Nat} (hk : k < xs.length) (h : x = xs.getD k 0) (hno : ∀ j, j < k → xs.getD j 0 ≠ x) : indexL xs x = k := by
  have hm : x ∈ xs := by rw [h, ← gd xs k hk]; exact List.getElem_mem hk
  unfold indexL
  rw [if_pos hm]
  have hl := List.idxOf_lt_length_of_mem hm
  have h1 := List.getElem_idxOf hl
  rw [gd xs _ hl] at h1
  have h2 : ¬ xs.idxOf x < k := fun hlt => hno _ hlt h1
  have h3 : ¬ k < xs.idxOf x := fun hlt => by
    have := List.not_of_lt_findIdx (p := (· == x)) (xs := xs) (i := k) hlt
    simp only [beq_eq_false_iff_ne, ne_eq] at this
    rw [gd xs k hk] at this
    exact this h.symm
  omega
theorem indexL_iff {xs : List Int} {x : Int} : (0 : Int) ≤ indexL xs x ↔ x ∈ xs := by
  unfold indexL
  split
  · rename_i h; exact ⟨fun _ => h, fun _ => by omega⟩
  · rename_i h; exact ⟨fun e => absurd e (by omega), fun e => absurd e h⟩

/-! ### Changes that may be -/
def scanTo (n : Int) (l : List Int) : Nat → Option Int
  | 0 => some 0
  | k + 1 => (scanTo n l k).bind fun z => if l.getD k 0 ≤ z ∨ n < l.getD k 0 ∨ (l.getD k 0 - z).toNat % 2 = 0 then none else some (l.getD k 0)
def chgMay (n : Int) (l : List Int) : Int := if n < 1 ∨ 12 < n then 1 else match scanTo n l l.length with | none => 6 | some z => if (n - z).toNat % 2 = 1 then 6 else 0
theorem scan_none {n : Int} {l : List Int} {k : Nat} (h : scanTo n l k = none) : ∀ m, k ≤ m → scanTo n l m = none
  | 0, hm => by obtain rfl : k = 0 := by omega
                exact h
  | m + 1, hm => by
    by_cases e : k = m + 1
    · subst e; exact h
    · simp only [scanTo]; rw [scan_none h m (by omega)]; rfl
theorem scan_step {n z : Int} {l : List Int} {k : Nat} (h : scanTo n l k = some z) (h1 : ¬ l.getD k 0 ≤ z) (h2 : ¬ n < l.getD k 0) (_h : 0 ≤ z) (h3 : ¬ (((l.getD k 0 - z).toNat % 2 : Nat) : Int) = (0 : Int)) : scanTo n l (k + 1) = some (l.getD k 0) := by
  simp only [scanTo, h, Option.bind_some]
  rw [if_neg (by omega)]
theorem chgMay_cnt {n : Int} {l : List Int} (h : n < 1 ∨ 12 < n) : chgMay n l = 1 := by unfold chgMay; rw [if_pos h]
theorem chgMay_scan {n z : Int} {l : List Int} {k : Nat} (hn : ¬ (n < 1 ∨ 12 < n)) (h : scanTo n l k = some z) (hk : k < l.length) (hc : l.getD k 0 ≤ z ∨ n < l.getD k 0 ∨ (((l.getD k 0 - z).toNat % 2 : Nat) : Int) = (0 : Int)) : chgMay n l = 6 := by
  unfold chgMay
  rw [if_neg hn]
  have h1 : scanTo n l (k + 1) = none := by
    simp only [scanTo, h, Option.bind_some]
    rw [if_pos (by omega)]
  rw [scan_none h1 l.length (by omega)]
theorem chgMay_odd {n z : Int} {l : List Int} (hn : ¬ (n < 1 ∨ 12 < n)) (h : scanTo n l l.length = some z) (hc : (((n - z).toNat % 2 : Nat) : Int) = (1 : Int)) : chgMay n l = 6 := by
  unfold chgMay
  rw [if_neg hn, h]
  simp only
  rw [if_pos (by omega)]
theorem chgMay_ok {n z : Int} {l : List Int} (hn : ¬ (n < 1 ∨ 12 < n)) (h : scanTo n l l.length = some z) (hc : ¬ (((n - z).toNat % 2 : Nat) : Int) = (1 : Int)) : chgMay n l = 0 := by
  unfold chgMay
  rw [if_neg hn, h]
  simp only
  rw [if_neg (by omega)]
end Go.KL

/- Plain maths: the rows of changes. -/
namespace Go.KL

def okL : Int → List Int → Int → Prop
  | z, [], n => z ≤ n ∧ (n - z) % 2 = 0
  | z, p :: l, n => z < p ∧ p ≤ n ∧ (p - z) % 2 = 1 ∧ okL p l n
theorem okL_lt : ∀ {l : List Int} {z n : Int}, okL z l n → ∀ x ∈ l, z < x ∧ x ≤ n
  | [], _, _, _, x, hx => by simp at hx
  | p :: l, z, n, h, x, hx => by
    obtain ⟨h1, h2, _, h4⟩ := h
    rcases List.mem_cons.1 hx with e | hx
    · rw [e]; exact ⟨h1, h2⟩
    · have := okL_lt h4 x hx; omega
theorem okL_scan {n : Int} {l : List Int} (h : okL 0 l n) : ∀ k, k ≤ l.length → ∃ z, scanTo n l k = some z ∧ 0 ≤ z ∧ okL z (l.drop k) n
  | 0, _ => ⟨0, rfl, by omega, by simpa using h⟩
  | k + 1, hk => by
    obtain ⟨z, hs, hz, ho⟩ := okL_scan h k (by omega)
    have e : l.drop k = l.getD k 0 :: l.drop (k + 1) := by rw [List.drop_eq_getElem_cons (show k < l.length by omega), gd]
    rw [e] at ho
    obtain ⟨h1, h2, h3, h4⟩ := ho
    exact ⟨l.getD k 0, scan_step hs (by omega) (by omega) hz (by omega), by omega, h4⟩
theorem chgMay_of_okL {n : Int} {l : List Int} (hn : ¬ (n < 1 ∨ 12 < n)) (h : okL 0 l n) : chgMay n l = 0 := by
  obtain ⟨z, hs, hz, ho⟩ := okL_scan h l.length (Nat.le_refl _)
  rw [List.drop_length] at ho
  obtain ⟨h1, h2⟩ := ho
  exact chgMay_ok hn hs (by omega)
theorem chgMay_n {n : Int} {l : List Int} (h : chgMay n l = 0) : ¬ (n < 1 ∨ 12 < n) := fun hc => by rw [chgMay_cnt hc] at h; omega
theorem okL_of_chgMay {n : Int} {l : List Int} (h : chgMay n l = 0) : okL 0 l n := by
  have hn := chgMay_n h
  have key : ∀ d k, k + d = l.length → ∀ z, 0 ≤ z → z ≤ n → scanTo n l k = some z → okL z (l.drop k) n := by
    intro d
    induction d with
    | zero =>
      intro k hk z hz hzn hs
      have ek : k = l.length := by omega
      subst ek
      rw [List.drop_length]
      refine ⟨hzn, ?_⟩
      apply Classical.byContradiction; intro hc
      have := chgMay_odd hn hs (by omega)
      omega
    | succ d ih =>
      intro k hk z hz hzn hs
      have e : l.drop k = l.getD k 0 :: l.drop (k + 1) := by rw [List.drop_eq_getElem_cons (show k < l.length by omega), gd]
      have hb : ¬ (l.getD k 0 ≤ z ∨ n < l.getD k 0 ∨ (((l.getD k 0 - z).toNat % 2 : Nat) : Int) = 0) := fun hc => by
        have := chgMay_scan hn hs (show k < l.length by omega) hc
        omega
      rw [e]
      exact ⟨by omega, by omega, by omega, ih (k + 1) (by omega) _ (by omega) (by omega) (scan_step hs (by omega) (by omega) hz (by omega))⟩
  have := key l.length 0 (by omega) 0 (by omega) (by omega) rfl
  simpa using this
def rowF (l : List Int) (n : Nat) : Nat → Nat → List Int
  | 0, _ => []
  | f + 1, i => if n ≤ i then [] else if ((i : Int) + 1) ∈ l then (i : Int) :: rowF l n f (i + 1) else ((i : Int) + 1) :: (i : Int) :: rowF l n f (i + 2)
def chgRow (n : Nat) (l : List Int) : List Int := rowF l n n 0
theorem rowF_end {l : List Int} {n f i : Nat} (h : n ≤ i) : rowF l n f i = [] := by cases f <;> simp [rowF, h]
structure AtC (n : Nat) (l : List Int) (i : Nat) where
  ex : ∃ L, okL i L n ∧ ∀ x, (i : Int) < x → (x ∈ l ↔ x ∈ L)
theorem AtC.zero {n : Nat} {l : List Int} (h : okL 0 l n) : AtC n l 0 := ⟨l, h, fun _ _ => Iff.rfl⟩
theorem AtC.le {n : Nat} {l : List Int} {i : Nat} (h : AtC n l i) : i ≤ n := by
  obtain ⟨L, ho, _⟩ := h.ex
  cases L with
  | nil => exact Int.ofNat_le.1 ho.1
  | cons p L => have := ho.1; have := ho.2.1; omega
theorem AtC.yes {n : Nat} {l : List Int} {i : Nat} (h : AtC n l i) (hc : ((i : Int) + 1) ∈ l) : AtC n l (i + 1) := by
  obtain ⟨L, ho, hm⟩ := h.ex
  have hL := (hm _ (by omega)).1 hc
  cases L with
  | nil => simp at hL
  | cons p L =>
    obtain ⟨h1, h2, h3, h4⟩ := ho
    have e : p = (i : Int) + 1 := by
      rcases List.mem_cons.1 hL with e | hm2
      · exact e.symm
      · have := (okL_lt h4 _ hm2).1; omega
    subst e
    refine ⟨L, by simpa using h4, fun x hx => ?_⟩
    rw [hm x (by omega), List.mem_cons]
    exact ⟨fun h => h.resolve_left (by omega), .inr⟩
theorem AtC.no {n : Nat} {l : List Int} {i : Nat} (h : AtC n l i) (hi : i < n) (hc : ((i : Int) + 1) ∉ l) : i + 2 ≤ n ∧ AtC n l (i + 2) := by
  obtain ⟨L, ho, hm⟩ := h.ex
  cases L with
  | nil =>
    obtain ⟨h1, h2⟩ := ho
    exact ⟨by omega, [], ⟨by omega, by omega⟩, fun x hx => hm x (by omega)⟩
  | cons p L =>
    obtain ⟨h1, h2, h3, h4⟩ := ho
    have hp : p ≠ (i : Int) + 1 := fun e => hc ((hm _ (by omega)).2 (by rw [← e]; simp))
    exact ⟨by omega, p :: L, ⟨by omega, h2, by omega, h4⟩, fun x hx => hm x (by omega)⟩
theorem rowF_len {n : Nat} {l : List Int} : ∀ (f i : Nat), AtC n l i → n ≤ f + i → (rowF l n f i).length = n - i
  | 0, i, _, hf => by simp [rowF]; omega
  | f + 1, i, h, hf => by
    by_cases hi : n ≤ i
    · rw [rowF_end hi]; simp; omega
    · by_cases hc : ((i : Int) + 1) ∈ l
      · rw [rowF, if_neg hi, if_pos hc, List.length_cons, rowF_len f _ (h.yes hc) (by omega)]; omega
      · have h2 := h.no (by omega) hc
        rw [rowF, if_neg hi, if_neg hc, List.length_cons, List.length_cons, rowF_len f _ h2.2 (by omega)]; omega
theorem chgRow_len {n : Nat} {l : List Int} (h : okL 0 l n) : (chgRow n l).length = n := by
  unfold chgRow; have := rowF_len n 0 (AtC.zero h) (by omega); simpa using this

end Go.KL

/- Plain maths: a change twice is none; its parity. -/
namespace Go.KL

theorem gd_cons0 (x : Int) (l : List Int) : (x :: l).getD 0 0 = x := rfl
theorem gd_consS (x : Int) (l : List Int) (j : Nat) : (x :: l).getD (j + 1) 0 = l.getD j 0 := rfl
def ups (i : Nat) (l : List Int) : Nat := (List.range l.length).countP fun j => decide (((j + i : Nat) : Int) < l.getD j 0)
theorem ups_nil (i : Nat) : ups i [] = 0 := rfl
theorem ups_cons (i : Nat) (x : Int) (l : List Int) : ups i (x :: l) = (if (i : Int) < x then 1 else 0) + ups (i + 1) l := by
  unfold ups
  rw [List.length_cons, List.range_succ_eq_map, List.countP_cons, List.countP_map]
  have : ((fun j => decide (((j + i : Nat) : Int) < (x :: l).getD j 0)) ∘ Nat.succ) = fun j => decide (((j + (i + 1) : Nat) : Int) < l.getD j 0) := by
    funext j; simp only [Function.comp, Nat.succ_eq_add_one, gd_consS]; congr 2; omega
  rw [this, gd_cons0]
  simp only [Nat.zero_add, decide_eq_true_eq]
  omega

structure Piece (i : Nat) (n : Nat) (r : List Int) : Prop where
  len : r.length = n - i
  bd : ∀ j, i ≤ j → j < n → (i : Int) ≤ r.getD (j - i) 0 ∧ r.getD (j - i) 0 < n
  inv : ∀ j, i ≤ j → j < n → r.getD ((r.getD (j - i) 0).toNat - i) 0 = j
theorem Piece.one {i n : Nat} {r : List Int} (h : Piece (i + 1) n r) (hi : i < n) : Piece i n ((i : Int) :: r) := by
  refine ⟨by rw [List.length_cons, h.len]; omega, fun j h1 h2 => ?_, fun j h1 h2 => ?_⟩
  · by_cases e : j = i
    · subst e; rw [Nat.sub_self, gd_cons0]; omega
    · obtain ⟨d, rfl⟩ : ∃ d, j = i + 1 + d := ⟨j - (i + 1), by omega⟩
      have := h.bd (i + 1 + d) (by omega) h2
      rw [show i + 1 + d - (i + 1) = d by omega] at this
      rw [show i + 1 + d - i = d + 1 by omega, gd_consS]; omega
  · by_cases e : j = i
    · subst e; rw [Nat.sub_self, gd_cons0, Int.toNat_natCast, Nat.sub_self, gd_cons0]
    · obtain ⟨d, rfl⟩ : ∃ d, j = i + 1 + d := ⟨j - (i + 1), by omega⟩
      have hb := h.bd (i + 1 + d) (by omega) h2
      have hv := h.inv (i + 1 + d) (by omega) h2
      rw [show i + 1 + d - (i + 1) = d by omega] at hb hv
      rw [show i + 1 + d - i = d + 1 by omega, gd_consS]
      rw [show (r.getD d 0).toNat - i = ((r.getD d 0).toNat - (i + 1)) + 1 by omega, gd_consS, hv]
theorem Piece.two {i n : Nat} {r : List Int} (h : Piece (i + 2) n r) (hi : i + 2 ≤ n) : Piece i n (((i : Int) + 1) :: (i : Int) :: r) := by
  refine ⟨by rw [List.length_cons, List.length_cons, h.len]; omega, fun j h1 h2 => ?_, fun j h1 h2 => ?_⟩
  · by_cases e : j = i
    · subst e; rw [Nat.sub_self, gd_cons0]; omega
    · by_cases e2 : j = i + 1
      · subst e2; rw [show i + 1 - i = 1 by omega, gd_consS, gd_cons0]; omega
      · obtain ⟨d, rfl⟩ : ∃ d, j = i + 2 + d := ⟨j - (i + 2), by omega⟩
        have := h.bd (i + 2 + d) (by omega) h2
        rw [show i + 2 + d - (i + 2) = d by omega] at this
        rw [show i + 2 + d - i = d + 1 + 1 by omega, gd_consS, gd_consS]; omega
  · by_cases e : j = i
    · subst e; rw [Nat.sub_self, gd_cons0, show ((j : Int) + 1).toNat - j = 1 by omega, gd_consS, gd_cons0]
    · by_cases e2 : j = i + 1
      · subst e2; rw [show i + 1 - i = 1 by omega, gd_consS, gd_cons0, Int.toNat_natCast, Nat.sub_self, gd_cons0]; omega
      · obtain ⟨d, rfl⟩ : ∃ d, j = i + 2 + d := ⟨j - (i + 2), by omega⟩
        have hb := h.bd (i + 2 + d) (by omega) h2
        have hv := h.inv (i + 2 + d) (by omega) h2
        rw [show i + 2 + d - (i + 2) = d by omega] at hb hv
        rw [show i + 2 + d - i = d + 1 + 1 by omega, gd_consS, gd_consS]
        rw [show (r.getD d 0).toNat - i = ((r.getD d 0).toNat - (i + 2)) + 1 + 1 by omega, gd_consS, gd_consS, hv]
theorem Piece.end' (n : Nat) : Piece n n [] := ⟨by simp, fun j h1 h2 => by omega, fun j h1 h2 => by omega⟩
theorem rowF_piece {n : Nat} {l : List Int} : ∀ (f i : Nat) (L : List Int), okL i L n → (∀ x, (i : Int) < x → (x ∈ l ↔ x ∈ L)) → n ≤ f + i → i ≤ n → Piece i n (rowF l n f i) ∧ n - i = 2 * ups i (rowF l n f i) + L.length := by
  intro f
  induction f with
  | zero =>
    intro i L ho hm hf hi
    have e : i = n := by omega
    subst e
    have hL : L = [] := by
      cases L with
      | nil => rfl
      | cons p L => have := ho.1; have := ho.2.1; omega
    subst hL
    rw [rowF, ups_nil]; exact ⟨Piece.end' i, by simp⟩
  | succ f ih =>
    intro i L ho hm hf hi
    by_cases hn : n ≤ i
    · have e : i = n := by omega
      subst e
      have hL : L = [] := by
        cases L with
        | nil => rfl
        | cons p L => have := ho.1; have := ho.2.1; omega
      subst hL
      rw [rowF_end (Nat.le_refl _), ups_nil]; exact ⟨Piece.end' i, by simp⟩
    · by_cases hc : ((i : Int) + 1) ∈ l
      · have hL := (hm _ (by omega)).1 hc
        cases L with
        | nil => simp at hL
        | cons p L =>
          obtain ⟨h1, h2, h3, h4⟩ := ho
          have e : p = (i : Int) + 1 := by
            rcases List.mem_cons.1 hL with e | hm2
            · exact e.symm
            · have := (okL_lt h4 _ hm2).1; omega
          subst e
          have := ih (i + 1) L (by simpa using h4) (fun x hx => by
            rw [hm x (by omega), List.mem_cons]
            exact ⟨fun h => h.resolve_left (by omega), .inr⟩) (by omega) (by omega)
          rw [rowF, if_neg hn, if_pos hc, ups_cons, if_neg (by omega), List.length_cons]
          exact ⟨this.1.one (by omega), by omega⟩
      · have h2 := AtC.no ⟨L, ho, hm⟩ (by omega) hc
        have ho2 : okL ((i + 2 : Nat) : Int) L n := by
          cases L with
          | nil => obtain ⟨h3, h4⟩ := ho; exact ⟨by omega, by omega⟩
          | cons p L =>
            obtain ⟨h3, h4, h5, h6⟩ := ho
            have hp : p ≠ (i : Int) + 1 := fun e => hc ((hm _ (by omega)).2 (by rw [← e]; simp))
            exact ⟨by omega, h4, by omega, h6⟩
        have := ih (i + 2) L ho2 (fun x hx => hm x (by omega)) (by omega) h2.1
        rw [rowF, if_neg hn, if_neg hc, ups_cons, ups_cons, if_pos (by omega), if_neg (by omega)]
        exact ⟨this.1.two h2.1, by rw [show i + 1 + 1 = i + 2 from rfl]; omega⟩
theorem chgRow_piece {n : Nat} {l : List Int} (h : okL 0 l n) : Piece 0 n (chgRow n l) ∧ n = 2 * ups 0 (chgRow n l) + l.length := by
  have := rowF_piece n 0 l h (fun _ _ => Iff.rfl) (by omega) (by omega)
  exact this

/-! ### A row that is none twice -/
theorem piece_row {n : Nat} {r : List Int} (h : Piece 0 n r) (h1 : 1 ≤ n) (h2 : n ≤ 12) : IsRow r := by
  have hl : r.length = n := by have := h.len; omega
  apply rowMay_ok.1
  refine rowMay_of (by omega) (by omega) ?_ ?_
  · rw [List.nodup_iff_pairwise_ne, List.pairwise_iff_getElem]
    intro i j hi hj hij
    rw [gd r i hi, gd r j hj]
    intro e
    have a := h.inv i (by omega) (by omega)
    have b := h.inv j (by omega) (by omega)
    simp only [Nat.sub_zero] at a b
    rw [e] at a; omega
  · intro x hx
    obtain ⟨j, hj, e⟩ := List.getElem_of_mem hx
    rw [gd r j hj] at e
    have := h.bd j (by omega) (by omega)
    simp only [Nat.sub_zero] at this
    omega
theorem ordTo_pre {n : Nat} {r : List Int} (h : Piece 0 n r) (hr : IsRow r) (hl : r.length = n) {b : Nat} (hb : b < r.length) : per r b ≤ 2 ∧ itr r b 1 = (r.getD b 0).toNat ∧ itr r b 2 = b := by
  have hp := per_spec hr hb
  have e2 : itr r b 2 = b := by
    show (r.getD (itr r b 1) 0).toNat = b
    show (r.getD (r.getD b 0).toNat 0).toNat = b
    have := h.inv b (by omega) (by omega)
    simp only [Nat.sub_zero] at this
    rw [this]; rfl
  refine ⟨?_, rfl, e2⟩
  apply Classical.byContradiction; intro hc
  exact hp.2.2.2 2 (by omega) (by omega) e2
theorem per_iff {n : Nat} {r : List Int} (h : Piece 0 n r) (hr : IsRow r) (hl : r.length = n) {b : Nat} (hb : b < r.length) : per r b = if r.getD b 0 = b then 1 else 2 := by
  have hp := per_spec hr hb
  obtain ⟨h2, e1, e2⟩ := ordTo_pre h hr hl hb
  have hbd := h.bd b (by omega) (by omega)
  simp only [Nat.sub_zero] at hbd
  split
  · rename_i e
    apply Classical.byContradiction; intro hc
    exact hp.2.2.2 1 (by omega) (by omega) (by rw [e1, e]; omega)
  · rename_i e
    have : per r b ≠ 1 := fun hc => by
      have := hp.2.2.1; rw [hc, e1] at this; omega
    omega
theorem least_inv {n : Nat} {r : List Int} (h : Piece 0 n r) (hr : IsRow r) (hl : r.length = n) {b : Nat} (hb : b < r.length) : least r b = decide ((b : Int) ≤ r.getD b 0) := by
  have hp := per_iff h hr hl hb
  have hbd := h.bd b (by omega) (by omega)
  simp only [Nat.sub_zero] at hbd
  obtain ⟨h2, e1, e2⟩ := ordTo_pre h hr hl hb
  unfold least
  rw [hp]
  have r2 : List.range 2 = [0, 1] := rfl
  have r1 : List.range 1 = [0] := rfl
  have i0 : itr r b 0 = b := rfl
  split
  · rename_i e; rw [r1]; simp only [List.all_cons, List.all_nil, Bool.and_true, i0, Nat.le_refl, decide_true]; exact (decide_eq_true (by omega)).symm
  · rename_i e
    rw [r2]
    simp only [List.all_cons, List.all_nil, Bool.and_true, i0, e1, Nat.le_refl, decide_true, Bool.true_and, decide_eq_decide]
    omega
theorem oddTo_snoc (l : List (List Int)) (c : List Int) : oddTo (l ++ [c]) (l ++ [c]).length = (oddTo l l.length != decide (((c.length % 2 : Nat) : Int) = 0)) := by
  simp only [oddTo, List.take_length, List.foldl_append, List.foldl_cons, List.foldl_nil]
theorem ordTo_snoc (l : List (List Int)) (c : List Int) : ordTo (l ++ [c]) (l ++ [c]).length = ordTo l l.length * (c.length / Nat.gcd (ordTo l l.length) c.length) := by
  simp only [ordTo, List.take_length, List.foldl_append, List.foldl_cons, List.foldl_nil]
theorem inv_cycles {n : Nat} {r : List Int} (h : Piece 0 n r) (hr : IsRow r) (hl : r.length = n) : ∀ k, k ≤ n →
    (ordTo (cyclesTo r k) (cyclesTo r k).length = 1 ∨ ordTo (cyclesTo r k) (cyclesTo r k).length = 2) ∧
    oddTo (cyclesTo r k) (cyclesTo r k).length = decide ((List.range k).countP (fun (j : Nat) => decide ((j : Int) < r.getD j 0)) % 2 = 1)
  | 0, _ => ⟨.inl rfl, rfl⟩
  | k + 1, hk => by
    have ih := inv_cycles h hr hl k (by omega)
    have hle := least_inv h hr hl (b := k) (by omega)
    have hpe := per_iff h hr hl (b := k) (by omega)
    rw [List.range_succ, List.countP_append, List.countP_cons, List.countP_nil]
    by_cases hlt : (k : Int) ≤ r.getD k 0
    · rw [cyclesTo_yes r k (by rw [hle]; exact decide_eq_true hlt), oddTo_snoc, ordTo_snoc, orb_len, hpe, ih.2]
      by_cases e : r.getD k 0 = k
      · rw [if_pos e]
        refine ⟨?_, ?_⟩
        · rw [Nat.gcd_one_right]; simpa using ih.1
        · have : ¬ ((k : Int) < r.getD k 0) := by omega
          simp only [this, decide_false, Bool.false_eq_true, if_false]
          simp
      · rw [if_neg e]
        have e3 : ((k : Int) < r.getD k 0) := by omega
        refine ⟨?_, ?_⟩
        · rcases ih.1 with h1 | h1 <;> rw [h1] <;> decide
        · simp only [e3, decide_true, if_true]
          rcases Nat.mod_two_eq_zero_or_one ((List.range k).countP (fun (j : Nat) => decide ((j : Int) < r.getD j 0))) with h1 | h1
          · rw [show (0 + 1 : Nat) = 1 from rfl, Nat.add_mod, h1]; decide
          · rw [show (0 + 1 : Nat) = 1 from rfl, Nat.add_mod, h1]; decide
    · rw [cyclesTo_no r k (by rw [hle]; exact decide_eq_false hlt)]
      have e3 : ¬ ((k : Int) < r.getD k 0) := by omega
      simp only [e3, decide_false]
      simpa using ih
theorem ord_inv {n : Nat} {l : List Int} (h : okL 0 l n) (h1 : 1 ≤ n) (h2 : n ≤ 12) : IsRow (chgRow n l) ∧ ordL (chgRow n l) ≤ 2 ∧ oddL (chgRow n l) = decide (((n - l.length) / 2) % 2 = 1) ∧ l.length ≤ n := by
  obtain ⟨hp, hc⟩ := chgRow_piece h
  have hl : (chgRow n l).length = n := chgRow_len h
  have hr := piece_row hp h1 h2
  have hi := inv_cycles hp hr hl n (Nat.le_refl _)
  have e : cyclesL (chgRow n l) = cyclesTo (chgRow n l) n := by unfold cyclesL; rw [hl]
  refine ⟨hr, ?_, ?_, by omega⟩
  · unfold ordL; rw [e]; rcases hi.1 with h | h <;> rw [h] <;> decide
  · unfold oddL; rw [e, hi.2]
    congr 2
    have : (List.range n).countP (fun (j : Nat) => decide ((j : Int) < (chgRow n l).getD j 0)) = ups 0 (chgRow n l) := by
      unfold ups; rw [hl]; rfl
    rw [this]; omega
end Go.KL

/- Plain maths: methods. -/
namespace Go.KL

theorem cvit {σ : GW} {k : Nat} {v : Value} {s : ByteArray} {p q : Nat} (e : p = q) (h : Iter σ k v s p) : Iter σ k v s q := e ▸ h
theorem wid_le (s : ByteArray) (p : Nat) : wid s p ≤ 4 := by
  unfold wid Utf8.decode
  simp only
  repeat' split
  all_goals (show _ ≤ 4; simp)
def letterB (c : Int) : Bool := ((((decide (65 ≤ c) && decide (c ≤ 90)) || (decide (97 ≤ c) && decide (c ≤ 122))) || (decide (48 ≤ c) && decide (c ≤ 57))) || decide (c = 32)) || (((decide (192 ≤ c) && decide (c ≤ 382)) && decide (c ≠ 215)) && decide (c ≠ 247))
def nameL (s : ByteArray) : Bool := (runesL s).all (fun (c : Nat) => letterB (c : Int)) && (decide ((1 : Int) ≤ (((runesL s).length : Nat) : Int)) && decide ((((runesL s).length : Nat) : Int) ≤ (20 : Int)) && decide ((((s.get! 0).toNat : Nat) : Int) ≠ 32) && decide ((((s.get! (s.size - 1)).toNat : Nat) : Int) ≠ 32))
theorem nameL_no {s : ByteArray} {xs : List Nat} {f p : Nat} (h : xs ++ runesF s f p = runesL s) (hp : p < s.size) (hf : s.size ≤ f + p) (hb : letterB (run1 s p : Nat) = false) : nameL s = false := by
  obtain ⟨f, rfl⟩ : ∃ g, f = g + 1 := ⟨f - 1, by omega⟩
  rw [runesF, if_pos hp] at h
  unfold nameL
  rw [← h]
  simp [hb]
theorem nameL_all {s : ByteArray} (h : ∀ c ∈ runesL s, letterB ((c : Nat) : Int) = true) : nameL s = (decide ((1 : Int) ≤ (((runesL s).length : Nat) : Int)) && decide ((((runesL s).length : Nat) : Int) ≤ (20 : Int)) && decide ((((s.get! 0).toNat : Nat) : Int) ≠ 32) && decide ((((s.get! (s.size - 1)).toNat : Nat) : Int) ≠ 32)) := by
  unfold nameL
  rw [List.all_eq_true.2 h, Bool.true_and]

/-! ### Which methods may be -/
def allMay (n : Int) : List (List Int) → Int
  | [] => 0
  | p :: l => if chgMay n p ≠ 0 then chgMay n p else allMay n l
def methMay (s : ByteArray) (n : Int) (l : List (List Int)) : Int :=
  if nameL s = false then 7 else if n < 2 ∨ 12 < n ∨ l.length < 1 ∨ 200 < l.length then 1 else allMay n l
theorem allMay_zero {n : Int} : ∀ {l : List (List Int)}, allMay n l = 0 ↔ ∀ p ∈ l, chgMay n p = 0
  | [] => by simp [allMay]
  | p :: l => by
    rw [allMay]
    split
    · rename_i h; simp [h]
    · rename_i h
      have h := Classical.not_not.1 h
      rw [allMay_zero]; simp [h]
structure MethOk (s : ByteArray) (n : Nat) (l : List (List Int)) : Prop where
  name : nameL s = true
  n1 : 2 ≤ n
  n2 : n ≤ 12
  l1 : 1 ≤ l.length
  l2 : l.length ≤ 200
  ok : ∀ k, k < l.length → okL 0 (l.getD k []) n
theorem methMay_ok {s : ByteArray} {n : Int} {l : List (List Int)} : methMay s n l = 0 ↔ ∃ m : Nat, n = m ∧ MethOk s m l := by
  unfold methMay
  constructor
  · intro h
    split at h
    · omega
    · rename_i h1
      split at h
      · omega
      · rename_i h2
        refine ⟨n.toNat, by omega, by simpa using h1, by omega, by omega, by omega, by omega, fun k hk => ?_⟩
        have := allMay_zero.1 h (l.getD k []) (by rw [List.getD_eq_getElem?_getD]; simp [hk])
        have := okL_of_chgMay this
        rwa [show ((n.toNat : Nat) : Int) = n by omega]
  · rintro ⟨m, rfl, h⟩
    rw [if_neg (by rw [h.name]; simp), if_neg (by have := h.n1; have := h.n2; have := h.l1; have := h.l2; omega), allMay_zero]
    intro p hp
    obtain ⟨k, hk, rfl⟩ := List.getElem_of_mem hp
    have := h.ok k hk
    rw [List.getD_eq_getElem?_getD] at this
    simp [hk] at this
    exact chgMay_of_okL (by have := h.n1; have := h.n2; omega) this

/-! ### Rows that come one behind the other -/
def curL (r : List Int) (l : List (List Int)) (k : Nat) : List Int := (l.take k).foldl (fun r p => byL r (chgRow r.length p)) r
theorem curL_succ (r : List Int) (l : List (List Int)) (k : Nat) (hk : k < l.length) : curL r l (k + 1) = byL (curL r l k) (chgRow (curL r l k).length (l.getD k [])) := by
  unfold curL
  rw [take_snoc l [] k hk, List.foldl_append]; rfl
/-! ### What is made of raw numbers -/
end Go.KL

/- Plain maths: courses. -/
namespace Go.KL

/-! ### A row's order -/
theorem least_of {r : List Int} (hr : IsRow r) : ∀ (b : Nat), b < r.length → ∃ k, k < r.length ∧ least r k = true ∧ Leads r k b := by
  intro b
  induction b using Nat.strongRecOn with
  | ind b ih =>
    intro hb
    by_cases hl : least r b = true
    · exact ⟨b, hb, hl, 0, rfl⟩
    · rw [least_iff hr hb] at hl
      obtain ⟨k, hk⟩ := Classical.not_forall.1 hl
      obtain ⟨h1, h2⟩ := Classical.not_imp.1 hk
      obtain ⟨m, h3, h4, h5⟩ := ih k (by omega) (h1.lt hr hb)
      exact ⟨m, h3, h4, h5.trans (h1.symm hr hb)⟩
/-! ### Products -/
theorem byL_row {a b : List Int} (ha : IsRow a) (hb : IsRow b) (hl : a.length = b.length) : IsRow (byL a b) := by
  apply rowMay_ok.1
  refine rowMay_of (by rw [byL_len]; exact hb.pos) (by rw [byL_len]; exact hb.le) ?_ ?_
  · unfold byL
    rw [List.nodup_iff_pairwise_ne, List.pairwise_iff_getElem]
    intro i j hi hj hij e
    simp only [List.length_map] at hi hj
    simp only [List.getElem_map] at e
    rw [gd b i hi, gd b j hj] at e
    have bi := hb.at hi
    have bj := hb.at hj
    have h1 := idxOf_at ha.nodup (k := (b.getD i 0).toNat) (by omega)
    have h2 := idxOf_at ha.nodup (k := (b.getD j 0).toNat) (by omega)
    rw [e] at h1
    have e2 : b.getD i 0 = b.getD j 0 := by omega
    have h3 := idxOf_at hb.nodup hi
    have h4 := idxOf_at hb.nodup hj
    rw [e2] at h3; omega
  · intro x hx
    unfold byL at hx
    obtain ⟨y, hy, rfl⟩ := List.mem_map.1 hx
    have := hb.bound y hy
    have := ha.at (i := y.toNat) (by omega)
    rw [byL_len]; omega

/-! ### The rows of a lead, of a course -/
theorem curL_row {n : Nat} {l : List (List Int)} (h1 : 1 ≤ n) (h2 : n ≤ 12) (h : ∀ k, k < l.length → okL 0 (l.getD k []) n) : ∀ k, k ≤ l.length → IsRow (curL (roundsL n) l k) ∧ (curL (roundsL n) l k).length = n
  | 0, _ => ⟨roundsL_row h1 h2, roundsL_len n⟩
  | k + 1, hk => by
    obtain ⟨hr, hl⟩ := curL_row h1 h2 h k (by omega)
    have ho := h k (by omega)
    have hc := (ord_inv ho h1 h2).1
    rw [curL_succ _ l k (by omega), hl]
    exact ⟨byL_row hr hc (by rw [hl, chgRow_len ho]), by rw [byL_len, chgRow_len ho]⟩
def headL (n : Nat) (l : List (List Int)) : List Int := curL (roundsL n) l l.length
theorem MethOk.head {s : ByteArray} {n : Nat} {l : List (List Int)} (h : MethOk s n l) : IsRow (headL n l) ∧ (headL n l).length = n := curL_row (by have := h.n1; omega) h.n2 h.ok _ (Nat.le_refl _)
theorem MethOk.may {s : ByteArray} {n : Nat} {l : List (List Int)} (h : MethOk s n l) : methMay s n l = 0 := methMay_ok.2 ⟨n, rfl, h⟩
end Go.KL

/- Plain maths: the sign of a row. -/
namespace Go.KL

theorem par_add (a b : Nat) : decide ((a + b) % 2 = 1) = (decide (a % 2 = 1) != decide (b % 2 = 1)) := by
  rcases Nat.mod_two_eq_zero_or_one a with h | h <;> rcases Nat.mod_two_eq_zero_or_one b with k | k <;> rw [Nat.add_mod, h, k] <;> decide
theorem row_perm {r : List Int} (h : IsRow r) : r.Perm (roundsL r.length) := by
  rw [List.perm_ext_iff_of_nodup h.nodup (roundsL_row h.pos h.le).nodup]
  intro x
  constructor
  · intro hx
    have := h.bound x hx
    exact List.mem_map.2 ⟨x.toNat, List.mem_range.2 (by omega), by omega⟩
  · intro hx
    obtain ⟨k, hk, rfl⟩ := List.mem_map.1 hx
    exact h.mem (List.mem_range.1 hk)
end Go.KL

/- Plain maths: a row's sign, by its cycles and by its inversions. -/
namespace Go.KL

/-! ### Inversions -/
/-! ### Cycles -/
theorem oddF (l : List (List Int)) : oddTo l l.length = decide ((l.flatten.length + l.length) % 2 = 1) := by
  have key : ∀ (l : List (List Int)) (b : Bool), l.foldl (fun b c => b != decide (((c.length % 2 : Nat) : Int) = (0 : Int))) b = (b != decide ((l.flatten.length + l.length) % 2 = 1)) := by
    intro l
    induction l with
    | nil => intro b; simp
    | cons c l ih =>
      intro b
      rw [List.foldl_cons, ih, List.flatten_cons, List.length_append, List.length_cons]
      rw [show c.length + l.flatten.length + (l.length + 1) = (c.length + 1) + (l.flatten.length + l.length) by omega, par_add (c.length + 1) (l.flatten.length + l.length)]
      have e : decide (((c.length % 2 : Nat) : Int) = (0 : Int)) = decide ((c.length + 1) % 2 = 1) := by rw [decide_eq_decide]; omega
      rw [e]
      generalize decide ((c.length + 1) % 2 = 1) = p
      generalize decide ((l.flatten.length + l.length) % 2 = 1) = q
      revert b p q; decide
  unfold oddTo
  rw [List.take_length, key]
  simp
theorem orb_mem {r : List Int} {b : Nat} {x : Int} : x ∈ orb r b ↔ ∃ m, m < per r b ∧ ((itr r b m : Nat) : Int) = x := by
  unfold orb; simp
theorem orb_nodup {r : List Int} (hr : IsRow r) {b : Nat} (hb : b < r.length) : (orb r b).Nodup := by
  unfold orb
  rw [List.nodup_iff_pairwise_ne, List.pairwise_map]
  refine List.Pairwise.imp_of_mem ?_ List.pairwise_lt_range
  intro i j hi hj hij e
  exact itr_inj hr hb hij (List.mem_range.1 hj) (by omega)
theorem cycles_perm {r : List Int} (hr : IsRow r) : (cyclesL r).flatten.Perm (roundsL r.length) := by
  rw [List.perm_ext_iff_of_nodup ?_ (roundsL_row hr.pos hr.le).nodup]
  · intro x
    rw [List.mem_flatten]
    constructor
    · rintro ⟨c, hc, hx⟩
      obtain ⟨b, hb, _, rfl⟩ := cyc_mem hc
      obtain ⟨m, _, rfl⟩ := orb_mem.1 hx
      exact List.mem_map.2 ⟨itr r b m, List.mem_range.2 (itr_lt hr hb m), rfl⟩
    · intro hx
      obtain ⟨k, hk, rfl⟩ := List.mem_map.1 hx
      have hk := List.mem_range.1 hk
      obtain ⟨b, hb, hl, hle⟩ := least_of hr k hk
      obtain ⟨m, hm, e⟩ := hle.small hr hb
      exact ⟨orb r b, List.mem_map.2 ⟨b, List.mem_filter.2 ⟨List.mem_range.2 hb, hl⟩, rfl⟩, orb_mem.2 ⟨m, hm, by rw [e]⟩⟩
  · rw [List.nodup_iff_pairwise_ne, List.pairwise_flatten]
    constructor
    · intro c hc
      obtain ⟨b, hb, _, rfl⟩ := cyc_mem hc
      exact List.nodup_iff_pairwise_ne.1 (orb_nodup hr hb)
    · unfold cyclesL cyclesTo
      rw [List.pairwise_map]
      refine List.Pairwise.imp_of_mem ?_ (List.Pairwise.filter _ List.pairwise_lt_range)
      intro b c hb hc hbc x hx y hy e
      subst e
      obtain ⟨hb1, hb2⟩ := List.mem_filter.1 hb
      obtain ⟨hc1, hc2⟩ := List.mem_filter.1 hc
      have hb1 := List.mem_range.1 hb1
      have hc1 := List.mem_range.1 hc1
      obtain ⟨m, _, e1⟩ := orb_mem.1 hx
      obtain ⟨m', _, e2⟩ := orb_mem.1 hy
      have e3 : itr r b m = itr r c m' := by omega
      have h1 : Leads r b (itr r c m') := ⟨m, e3⟩
      have h2 : Leads r c b := Leads.trans ⟨m', rfl⟩ (h1.symm hr hb1)
      have := (least_iff hr hc1).1 hc2 b h2
      omega
theorem oddL_count {r : List Int} (hr : IsRow r) : oddL r = decide ((r.length + (List.range r.length).countP (least r)) % 2 = 1) := by
  unfold oddL
  rw [oddF]
  have h1 := (cycles_perm hr).length_eq
  rw [roundsL_len] at h1
  have h2 : (cyclesL r).length = (List.range r.length).countP (least r) := by
    unfold cyclesL cyclesTo
    rw [List.length_map, List.countP_eq_length_filter]
  rw [h1, h2]
end Go.KL

/- Plain maths: the largest bell is taken out; the sign by cycles is that by inversions. -/
namespace Go.KL

def cutR (r : List Int) (n p : Nat) : List Int := (r.take n).set p (r.getD n 0)
structure Cut (r : List Int) (n p : Nat) : Prop where
  row : IsRow r
  len : r.length = n + 1
  pos : 1 ≤ n
  at' : r.getD p 0 = n
  le : p ≤ n
theorem Cut.len' {r : List Int} {n p : Nat} (h : Cut r n p) : (cutR r n p).length = n := by
  have := h.len
  simp [cutR]; omega
theorem Cut.get {r : List Int} {n p : Nat} (h : Cut r n p) {k : Nat} (hk : k < n) : (cutR r n p).getD k 0 = if k = p then r.getD n 0 else r.getD k 0 := by
  have hl := h.len
  unfold cutR
  rw [List.getD_eq_getElem?_getD, List.getElem?_set]
  by_cases e : p = k
  · subst e
    rw [if_pos rfl, if_pos rfl, if_pos (by simp; omega)]; rfl
  · rw [if_neg e, if_neg (fun q => e q.symm), List.getElem?_take, if_pos hk, ← List.getD_eq_getElem?_getD]
theorem Cut.only {r : List Int} {n p : Nat} (h : Cut r n p) {k : Nat} (hk : k ≤ n) : r.getD k 0 = n ↔ k = p := by
  have hl := h.len
  constructor
  · intro e
    have h1 := idxOf_at h.row.nodup (k := k) (by omega)
    have h2 := idxOf_at h.row.nodup (k := p) (by have := h.le; omega)
    rw [e] at h1; rw [h.at'] at h2; omega
  · rintro rfl; exact h.at'
theorem Cut.nxt {r : List Int} {n p : Nat} (h : Cut r n p) {k : Nat} (hk : k < n) : nxt (cutR r n p) k = if nxt r k = n then nxt r n else nxt r k := by
  have hl := h.len
  have hb := h.row.at (i := k) (by omega)
  have ho := h.only (k := k) (by omega)
  unfold Go.KL.nxt
  rw [h.get hk]
  by_cases e : k = p
  · have := ho.2 e
    rw [if_pos e, if_pos (by omega)]
  · have : r.getD k 0 ≠ n := fun q => e (ho.1 q)
    rw [if_neg e, if_neg (by omega)]
theorem Cut.row' {r : List Int} {n p : Nat} (h : Cut r n p) : IsRow (cutR r n p) := by
  have hl := h.len
  have hl' := h.len'
  have hle := h.row.le
  have hpos := h.pos
  have hbd : ∀ k, k < n → 0 ≤ (cutR r n p).getD k 0 ∧ (cutR r n p).getD k 0 < n := by
    intro k hk
    rw [h.get hk]
    have hb := h.row.at (i := k) (by omega)
    have hbn := h.row.at (i := n) (by omega)
    have ho := h.only (k := k) (by omega)
    have hon := h.only (k := n) (Nat.le_refl _)
    split
    · rename_i e
      have : ¬ r.getD n 0 = n := fun q => by have := hon.1 q; omega
      omega
    · rename_i e
      have : ¬ r.getD k 0 = n := fun q => e (ho.1 q)
      omega
  apply rowMay_ok.1
  refine rowMay_of (by omega) (by omega) ?_ ?_
  · rw [List.nodup_iff_pairwise_ne, List.pairwise_iff_getElem]
    intro i j hi hj hij
    rw [gd _ i hi, gd _ j hj, h.get (by omega), h.get (by omega)]
    have inj : ∀ a b, a < n + 1 → b < n + 1 → r.getD a 0 = r.getD b 0 → a = b := fun a b ha hb e => by
      have h1 := idxOf_at h.row.nodup (k := a) (by omega)
      have h2 := idxOf_at h.row.nodup (k := b) (by omega)
      rw [e] at h1; omega
    intro e
    split at e <;> split at e
    · omega
    · have := inj _ _ (by omega) (by omega) e; omega
    · have := inj _ _ (by omega) (by omega) e; omega
    · have := inj _ _ (by omega) (by omega) e; omega
  · intro x hx
    obtain ⟨k, hk, e⟩ := List.getElem_of_mem hx
    rw [gd _ k hk] at e
    have := hbd k (by omega)
    omega
theorem itr_one (r : List Int) (b : Nat) : itr r b 1 = nxt r b := rfl
theorem itr_step (r : List Int) (b m : Nat) : itr r b (m + 1) = nxt r (itr r b m) := rfl
theorem Cut.leads {r : List Int} {n p : Nat} (h : Cut r n p) {b : Nat} (hb : b < n) : ∀ m, Leads r b (itr (cutR r n p) b m)
  | 0 => ⟨0, rfl⟩
  | m + 1 => by
    have hi := itr_lt h.row' (b := b) (by rw [h.len']; exact hb) m
    rw [h.len'] at hi
    have ih := h.leads hb m
    rw [itr_step, h.nxt hi]
    split
    · rename_i e
      refine Leads.trans ih ⟨2, ?_⟩
      rw [itr_step, itr_one, e]
    · exact Leads.trans ih ⟨1, rfl⟩
theorem Cut.back {r : List Int} {n p : Nat} (h : Cut r n p) {b : Nat} (hb : b < n) : ∀ m, (itr r b m < n → Leads (cutR r n p) b (itr r b m)) ∧ (itr r b m = n → Go.KL.nxt r n < n → Leads (cutR r n p) b (Go.KL.nxt r n))
  | 0 => ⟨fun _ => ⟨0, rfl⟩, fun e => by have : itr r b 0 = b := rfl; omega⟩
  | m + 1 => by
    obtain ⟨i1, i2⟩ := h.back hb m
    have hl := h.len
    have hlt := itr_lt h.row (b := b) (by omega) m
    rw [itr_step]
    by_cases e : itr r b m = n
    · rw [e]
      refine ⟨fun hn => i2 e hn, fun e2 hn => by omega⟩
    · have hm : itr r b m < n := by omega
      have hx := h.nxt hm
      refine ⟨fun hn => ?_, fun e2 hn => ?_⟩
      · rw [if_neg (by omega)] at hx
        exact Leads.trans (i1 hm) ⟨1, hx⟩
      · rw [if_pos e2] at hx
        exact Leads.trans (i1 hm) ⟨1, hx⟩
theorem Cut.least {r : List Int} {n p : Nat} (h : Cut r n p) {b : Nat} (hb : b < n) : least (cutR r n p) b = Go.KL.least r b := by
  have hl := h.len
  have hl' := h.len'
  rw [Bool.eq_iff_iff, least_iff h.row' (by omega), least_iff h.row (by omega)]
  constructor
  · rintro hc k ⟨m, rfl⟩
    by_cases e : itr r b m < n
    · exact hc _ ((h.back hb m).1 e)
    · omega
  · rintro hc k ⟨m, rfl⟩
    exact hc _ (h.leads hb m)
theorem Cut.top {r : List Int} {n p : Nat} (h : Cut r n p) : Go.KL.least r n = decide (p = n) := by
  have hl := h.len
  have hle := h.le
  rw [Bool.eq_iff_iff, least_iff h.row (by omega), decide_eq_true_iff]
  have hon := h.only (k := n) (Nat.le_refl _)
  have hb := h.row.at (i := n) (by omega)
  constructor
  · intro hc
    have h1 := hc _ ⟨1, rfl⟩
    rw [itr_one] at h1
    unfold Go.KL.nxt at h1
    exact (hon.1 (by omega)).symm
  · rintro rfl k ⟨m, rfl⟩
    have : ∀ m, itr r p m = p := by
      intro m
      induction m with
      | zero => rfl
      | succ m ih => rw [itr_step, ih]; unfold Go.KL.nxt; rw [h.at']; rfl
    rw [this m]; exact Nat.le_refl _
theorem Cut.oddL {r : List Int} {n p : Nat} (h : Cut r n p) : Go.KL.oddL r = (Go.KL.oddL (cutR r n p) != decide (p ≠ n)) := by
  rw [oddL_count h.row, oddL_count h.row', h.len, h.len', List.range_succ, List.countP_append, List.countP_cons, List.countP_nil, h.top]
  have e : (List.range n).countP (Go.KL.least (cutR r n p)) = (List.range n).countP (Go.KL.least r) := by
    apply List.countP_congr
    intro b hb
    rw [h.least (List.mem_range.1 hb)]
  rw [e]
  generalize (List.range n).countP (Go.KL.least r) = c
  by_cases e : p = n
  · have e1 : (n + 1 + (c + (0 + if decide (p = n) = true then 1 else 0))) = (n + c) + 2 := by rw [decide_eq_true e, if_pos rfl]; omega
    rw [e1, Nat.add_mod_right, decide_eq_false (Classical.not_not.2 e)]
    simp
  · have e1 : (n + 1 + (c + (0 + if decide (p = n) = true then 1 else 0))) = (n + c) + 1 := by rw [decide_eq_false e, if_neg (by simp)]; omega
    rw [e1, decide_eq_true e, par_add]
    simp
end Go.KL

