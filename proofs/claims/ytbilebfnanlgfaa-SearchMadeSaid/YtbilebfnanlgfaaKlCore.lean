/- The ground of a small logic of walks: ghost worlds, semantic types, one rule for a region in every order. -/
import Derived.WalkKit
import Derived.WalkSpells
import Derived.WalkLawsBesides
import Derived.Orders
namespace Go.KL

structure GW where
  w : World
  st : Nat → Nat
  lt : ∀ b, st b ≠ 0 → b < w.heap.size

structure GW.Le (σ τ : GW) : Prop where
  st : ∀ b, σ.st b = 1 → τ.st b = 1
  blk : ∀ b, σ.st b = 1 → τ.w.heap[b]? = σ.w.heap[b]?

theorem GW.Le.refl (σ : GW) : σ.Le σ := ⟨fun _ h => h, fun _ _ => rfl⟩
theorem GW.Le.trans {σ τ ρ : GW} (h : σ.Le τ) (k : τ.Le ρ) : σ.Le ρ :=
  ⟨fun b hb => k.st b (h.st b hb), fun b hb => (k.blk b (h.st b hb)).trans (h.blk b hb)⟩

structure Stp (m : Nat) (σ τ : GW) : Prop where
  os : τ.w.os = σ.w.os
  tape : τ.w.tape = σ.w.tape
  output : τ.w.output = σ.w.output
  dr : σ.w.drawn ≤ τ.w.drawn
  size : σ.w.heap.size ≤ τ.w.heap.size
  blk : ∀ b, b < σ.w.heap.size → (m = 0 ∨ σ.st b ≠ m) → τ.w.heap[b]? = σ.w.heap[b]?
  st : ∀ b, b < σ.w.heap.size → (m = 0 ∨ σ.st b ≠ m) → τ.st b = σ.st b

theorem Stp.refl (m : Nat) (σ : GW) : Stp m σ σ := ⟨rfl, rfl, rfl, Nat.le_refl _, Nat.le_refl _, fun _ _ _ => rfl, fun _ _ _ => rfl⟩
theorem Stp.trans {m : Nat} {σ τ ρ : GW} (h : Stp m σ τ) (k : Stp m τ ρ) : Stp m σ ρ :=
  ⟨k.os.trans h.os, k.tape.trans h.tape, k.output.trans h.output, Nat.le_trans h.dr k.dr, Nat.le_trans h.size k.size,
   fun b hb hm => (k.blk b (Nat.lt_of_lt_of_le hb h.size) (by rw [h.st b hb hm]; exact hm)).trans (h.blk b hb hm),
   fun b hb hm => (k.st b (Nat.lt_of_lt_of_le hb h.size) (by rw [h.st b hb hm]; exact hm)).trans (h.st b hb hm)⟩
theorem Stp.of0 {m : Nat} {σ τ : GW} (h : Stp 0 σ τ) : Stp m σ τ :=
  ⟨h.os, h.tape, h.output, h.dr, h.size, fun b hb _ => h.blk b hb (.inl rfl), fun b hb _ => h.st b hb (.inl rfl)⟩
theorem Stp.le {m : Nat} {σ τ : GW} (h : Stp m σ τ) (hm : m ≠ 1) : σ.Le τ :=
  ⟨fun b hb => (h.st b (σ.lt b (by omega)) (.inr (by omega))).trans hb, fun b hb => h.blk b (σ.lt b (by omega)) (.inr (by omega))⟩
theorem Stp.le0 {σ τ : GW} (h : Stp 0 σ τ) : σ.Le τ := h.le (by decide)

structure From (σ τ : GW) : Prop where
  os : τ.w.os = σ.w.os
  tape : τ.w.tape = σ.w.tape
  output : τ.w.output = σ.w.output
  dr : σ.w.drawn ≤ τ.w.drawn
  size : σ.w.heap.size ≤ τ.w.heap.size
  blk : ∀ b, b < σ.w.heap.size → τ.w.heap[b]? = σ.w.heap[b]?
  st : ∀ b, b < σ.w.heap.size → τ.st b = σ.st b ∧ τ.st b ≤ 1

theorem From.step {m : Nat} {σ τ ρ : GW} (h : From σ τ) (k : Stp m τ ρ) (hm : m ≠ 1) : From σ ρ :=
  have hx : ∀ b, b < σ.w.heap.size → m = 0 ∨ τ.st b ≠ m := fun b hb => by have := (h.st b hb).2; omega
  ⟨k.os.trans h.os, k.tape.trans h.tape, k.output.trans h.output, Nat.le_trans h.dr k.dr, Nat.le_trans h.size k.size,
   fun b hb => (k.blk b (Nat.lt_of_lt_of_le hb h.size) (hx b hb)).trans (h.blk b hb),
   fun b hb => by
    have e := k.st b (Nat.lt_of_lt_of_le hb h.size) (hx b hb)
    rw [e]; exact h.st b hb⟩
theorem From.step0 {σ τ ρ : GW} (h : From σ τ) (k : Stp 0 τ ρ) : From σ ρ := h.step k (by decide)
theorem From.le {σ τ : GW} (h : From σ τ) : σ.Le τ :=
  ⟨fun b hb => (h.st b (σ.lt b (by omega))).1.trans hb, fun b hb => h.blk b (σ.lt b (by omega))⟩

structure Pr where
  has : GW → Value → Prop
  up : ∀ {σ τ : GW} {v : Value}, Stp 0 σ τ → has σ v → has τ v

structure Ty where
  has : GW → Value → Prop
  up : ∀ {σ τ : GW} {v : Value}, σ.Le τ → has σ v → has τ v

abbrev Ty.pr (T : Ty) : Pr := ⟨T.has, fun h => T.up h.le0⟩
def Pr.any : Pr := ⟨fun _ _ => True, fun _ h => h⟩

def Ty.val (v : Value) : Ty := ⟨fun _ u => u = v, fun _ h => h⟩
abbrev Ty.int (n : Int) : Ty := .val (.int .i64 n)
abbrev Ty.nat (n : Nat) : Ty := .int (n : Int)
abbrev Ty.bool (b : Bool) : Ty := .val (.bool b)
def Ty.grd (p : Prop) (T : Ty) : Ty := ⟨fun σ u => (p → T.has σ u) ∧ (¬ p → u = undef), fun h k => ⟨fun hp => T.up h (k.1 hp), k.2⟩⟩
def Ty.tup2 (T U : Ty) : Ty := ⟨fun σ u => ∃ x y, u = .tuple #[x, y] ∧ T.has σ x ∧ U.has σ y, fun h ⟨x, y, e, a, b⟩ => ⟨x, y, e, T.up h a, U.up h b⟩⟩
def Cells (σ : GW) (b o : Nat) (ts : List Ty) : Prop :=
  ∀ j T, ts[j]? = some T → ∃ u, σ.w.cell? ⟨b, o + j, none⟩ = some u ∧ T.has σ u

theorem Cells.up {σ τ : GW} {b o : Nat} {ts : List Ty} (h : σ.Le τ) (hb : ts = [] ∨ σ.st b = 1) (hc : Cells σ b o ts) : Cells τ b o ts := by
  intro j T hj
  obtain ⟨u, hu, hT⟩ := hc j T hj
  rcases hb with rfl | hb
  · simp at hj
  · exact ⟨u, by rw [World.cell?_of_block (w := σ.w) (h.blk b hb)]; exact hu, T.up h hT⟩

def Ty.sl (c n : Nat) (ts : List Ty) : Ty where
  has σ v := ∃ a cap b o, v = .slice a n cap ∧ (n ≤ cap ∧ cap ≤ 9223372036854775807) ∧ ts.length = n * c ∧ (ts = [] ∨ (a = some ⟨b, o, none⟩ ∧ σ.st b = 1)) ∧ Cells σ b o ts
  up h := by
    rintro ⟨a, cap, b, o, e, hn, hl, hs, hc⟩
    refine ⟨a, cap, b, o, e, hn, hl, hs.imp id (fun x => ⟨x.1, h.st b x.2⟩), hc.up h (hs.imp id (fun x => x.2))⟩

def Ty.ref (ts : List Ty) : Ty where
  has σ v := ∃ b o, v = .pointer (some ⟨b, o, none⟩) ∧ σ.st b = 1 ∧ Cells σ b o ts
  up h := by
    rintro ⟨b, o, e, hs, hc⟩
    exact ⟨b, o, e, h.st b hs, hc.up h (.inr hs)⟩

abbrev Ty.lst {α : Type} (f : α → Ty) (xs : List α) : Ty := .sl 1 xs.length (xs.map f)
abbrev Ty.ints (xs : List Int) : Ty := .lst .int xs
abbrev Ty.rows (xss : List (List Int)) : Ty := .lst .ints xss

/-! ### Frames -/
structure Ok (N : Nat) (a : Act) : Prop where
  size : a.tmps.size = N
  defers : a.defers = []

abbrev At (T : Ty) (σ : GW) (a : Act) (x : Operand) : Prop := T.has σ (a.eval x)

theorem Ok.put {N : Nat} {a : Act} (h : Ok N a) (d : Option Tmp) (v : Value) : Ok N (a.put d v) := by
  cases d with
  | none => exact h
  | some d => exact ⟨by simp [Act.put, h.size], h.defers⟩
theorem eval_put_same {N : Nat} {a : Act} (h : Ok N a) {d : Nat} (hd : d < N) (v : Value) : (a.put (some d) v).eval (.tmp d) = v := by
  simp [Act.eval, Act.put, h.size, hd]
theorem eval_put_ne {a : Act} {d : Option Nat} {t : Nat} (hd : d ≠ some t) (v : Value) : (a.put d v).eval (.tmp t) = a.eval (.tmp t) := by
  cases d with
  | none => rfl
  | some d => exact Act.eval_put (fun e he => by cases he; intro h; cases h; exact hd rfl)

/-! ### One operation -/
variable {P : Program}
def Yld (P : Program) (o : Oper) (a : Act) (σ : GW) (R : Pr) : Prop :=
  ∀ (K : Act → World → Prop) (Q : Exit → Act → World → Prop), (∀ v τ, Stp 0 σ τ → R.has τ v → K (a.put o.dst v) τ.w) → o.wp P a σ.w K Q

theorem Yld.of_run {o : Oper} {a : Act} {σ : GW} {R : Pr} {v : Value} (hr : (execOp a.eval o).run P σ.w = .ok (.value v) σ.w) (h : R.has σ v) : Yld P o a σ R := by
  intro K Q hk
  unfold Oper.wp
  rw [hr]
  exact hk v σ (Stp.refl _ _) h

def dstOf (ops : Array Oper) (j : Nat) : Option Tmp := (ops.toList[j]?).bind (·.dst)
def rd (ops : Array Oper) (Φ : Nat → Pr) (j : Nat) (a : Act) (σ : GW) : Prop := match dstOf ops j with | some d => (Φ j).has σ (a.eval (.tmp d)) | none => True
def free (ops : Array Oper) (i t : Nat) : Bool := ops.toList.all fun o => o.dst != some t || o.after.toList.any fun e => Region.binds .any e && e.on == i

def Deps (ops : Array Oper) (Φ : Nat → Pr) (a : Act) (σ : GW) : List Edge → Prop → Prop
  | [], R => R
  | e :: es, R => (Region.binds .any e = true → rd ops Φ e.on a σ) → Deps ops Φ a σ es R

def Run (P : Program) (ops : Array Oper) (o : Oper) (a : Act) (σ : GW) (R : Pr) : Prop :=
  (Region.wanted o (yielded ops a.tmps) = true → Yld P o a σ R) ∧ (Region.wanted o (yielded ops a.tmps) = false → R.has σ undef)

def Obl (P : Program) (N : Nat) (ops : Array Oper) (Φ : Nat → Pr) (a0 : Act) (σ0 : GW) (i : Nat) (o : Oper) : Prop :=
  ∀ a σ, Stp 0 σ0 σ → Ok N a → (∀ t, free ops i t = true → a.eval (.tmp t) = a0.eval (.tmp t)) → Deps ops Φ a σ o.after.toList (Run P ops o a σ (Φ i))

def Obls (P : Program) (N : Nat) (ops : Array Oper) (Φ : Nat → Pr) (a0 : Act) (σ0 : GW) : Nat → List Oper → Prop
  | _, [] => True
  | i, o :: l => Obl P N ops Φ a0 σ0 i o ∧ Obls P N ops Φ a0 σ0 (i + 1) l

def formB (N : Nat) (ops : Array Oper) : Bool :=
  (ops.toList.zipIdx.all fun (o, i) => o.after.toList.all fun e => !Region.binds .any e || e.on < i) &&
  decide (ops.toList.filterMap (·.dst)).Nodup && (ops.toList.filterMap (·.dst)).all (· < N)

theorem Obls.get {N : Nat} {ops : Array Oper} {Φ : Nat → Pr} {a0 : Act} {σ0 : GW} : ∀ (l : List Oper) (k : Nat), Obls P N ops Φ a0 σ0 k l → ∀ j o, l[j]? = some o → Obl P N ops Φ a0 σ0 (k + j) o
  | [], _, _, j, o, h => by simp at h
  | x :: l, k, h, 0, o, hj => by simp at hj; subst hj; exact h.1
  | x :: l, k, h, j + 1, o, hj => by
    have := Obls.get l (k + 1) h.2 j o (by simpa using hj)
    rwa [show k + 1 + j = k + (j + 1) by omega] at this

structure Form (N : Nat) (ops : Array Oper) : Prop where
  back : ∀ (i : Nat) o, ops[i]? = some o → ∀ e ∈ o.after, Region.binds .any e = true → e.on < i
  uniq : ∀ i j d, dstOf ops i = some d → dstOf ops j = some d → i = j
  lt : ∀ i d, dstOf ops i = some d → d < N

theorem nodup_filterMap_inj {α : Type} (f : α → Option Nat) : ∀ (l : List α), (l.filterMap f).Nodup → ∀ (i j : Nat) (d : Nat), (l[i]?).bind f = some d → (l[j]?).bind f = some d → i = j
  | [], _, i, j, d, h, _ => by simp at h
  | x :: l, hn, i, j, d, hi, hj => by
    have mem : ∀ k, (l[k]?).bind f = some d → d ∈ l.filterMap f := fun k hk => by
      obtain ⟨y, hy, hf⟩ := Option.bind_eq_some_iff.1 hk
      exact List.mem_filterMap.2 ⟨y, List.mem_of_getElem? hy, hf⟩
    have hn' : (l.filterMap f).Nodup := by
      cases hx : f x <;> simp [hx] at hn
      · exact hn
      · exact hn.2
    match i, j with
    | 0, 0 => rfl
    | 0, j + 1 =>
      simp at hi hj
      rw [List.filterMap_cons, hi] at hn
      exact absurd (mem j (by simpa using hj)) (List.nodup_cons.1 hn).1
    | i + 1, 0 =>
      simp at hi hj
      rw [List.filterMap_cons, hj] at hn
      exact absurd (mem i (by simpa using hi)) (List.nodup_cons.1 hn).1
    | i + 1, j + 1 =>
      simp at hi hj
      rw [nodup_filterMap_inj f l hn' i j d (by simpa using hi) (by simpa using hj)]

theorem Form.of_B {N : Nat} {ops : Array Oper} (h : formB N ops = true) : Form N ops := by
  simp only [formB, Bool.and_eq_true, decide_eq_true_eq] at h
  obtain ⟨⟨h1, h2⟩, h3⟩ := h
  have hd : ∀ i, dstOf ops i = (ops.toList[i]?).bind (·.dst) := fun i => rfl
  refine ⟨fun i o ho e he hb => ?_, fun i j d hi hj => nodup_filterMap_inj _ _ h2 i j d (by rw [← hd]; exact hi) (by rw [← hd]; exact hj), fun i d hi => ?_⟩
  · have hm : (o, i) ∈ ops.toList.zipIdx := by
      rw [List.mk_mem_zipIdx_iff_getElem?]; simpa using ho
    have := (List.all_eq_true.1 ((List.all_eq_true.1 h1) _ hm)) e (by simpa using he)
    simpa [hb] using this
  · rw [hd] at hi
    obtain ⟨y, hy, hf⟩ := Option.bind_eq_some_iff.1 hi
    have := (List.all_eq_true.1 h3) d (List.mem_filterMap.2 ⟨y, List.mem_of_getElem? hy, hf⟩)
    simpa using this

structure Mid (N : Nat) (ops : Array Oper) (Φ : Nat → Pr) (a0 : Act) (σ0 : GW) (L : Nat → Bool) (a : Act) (σ : GW) : Prop where
  stp : Stp 0 σ0 σ
  ok : Ok N a
  done : ∀ j, L j = true → rd ops Φ j a σ
  same : ∀ t, (∀ j, dstOf ops j = some t → L j = false) → a.eval (.tmp t) = a0.eval (.tmp t)

theorem Deps.elim {ops : Array Oper} {Φ : Nat → Pr} {a : Act} {σ : GW} {R : Prop} : ∀ (l : List Edge), (∀ e ∈ l, Region.binds .any e = true → rd ops Φ e.on a σ) → Deps ops Φ a σ l R → R
  | [], _, h => h
  | e :: es, hd, h => Deps.elim es (fun x hx => hd x (List.mem_cons_of_mem _ hx)) (h (hd e (by simp)))

theorem Mid.op {N : Nat} {ops : Array Oper} {Φ : Nat → Pr} {a0 : Act} {σ0 : GW} {L : Nat → Bool} {a : Act} {σ : GW} {i : Nat} {o : Oper} {Q : Exit → Act → World → Prop} {K : Act → World → Prop}
    (hF : Form N ops) (hm : Mid N ops Φ a0 σ0 L a σ) (ho : ops[i]? = some o) (hL : L i = false) (hob : Obl P N ops Φ a0 σ0 i o)
    (hall : ∀ e ∈ o.after, Region.binds .any e = true → L e.on = true) (hclosed : ∀ (j : Nat) oj, ops[j]? = some oj → L j = true → ∀ e ∈ oj.after, Region.binds .any e = true → L e.on = true)
    (hK : ∀ a' σ', Mid N ops Φ a0 σ0 (fun j => L j || j == i) a' σ' → K a' σ'.w) : wpOp P ops Q i K a σ.w := by
  have hdi : dstOf ops i = o.dst := by simp [dstOf, ho]
  have hsame : ∀ t, free ops i t = true → a.eval (.tmp t) = a0.eval (.tmp t) := by
    intro t ht
    refine hm.same t fun j hj => ?_
    cases hLj : L j with
    | false => rfl
    | true =>
      exfalso
      unfold dstOf at hj
      obtain ⟨oj, hoj, hd⟩ := Option.bind_eq_some_iff.1 hj
      unfold free at ht
      have := (List.all_eq_true.1 ht) oj (List.mem_of_getElem? hoj)
      simp only [hd, bne_self_eq_false, Bool.false_or, List.any_eq_true, Bool.and_eq_true, beq_iff_eq] at this
      obtain ⟨e, he, hb, hon⟩ := this
      have := hclosed j oj (by simpa using hoj) hLj e (by simpa using he) hb
      rw [hon, hL] at this
      cases this
  have hrun : Run P ops o a σ (Φ i) :=
    Deps.elim o.after.toList (fun e he hb => hm.done e.on (hall e (by simpa using he) hb)) (hob a σ hm.stp hm.ok hsame)
  have next : ∀ v τ, Stp 0 σ τ → (Φ i).has τ v → K (a.put o.dst v) τ.w := by
    intro v τ hs hv
    refine hK _ τ ⟨hm.stp.trans hs, hm.ok.put _ _, fun j hLj => ?_, fun t ht => ?_⟩
    · by_cases hji : j = i
      · subst hji
        unfold rd
        cases hd : dstOf ops j with
        | none => trivial
        | some d =>
          have : o.dst = some d := by rw [← hdi]; exact hd
          simp only [this]
          rw [eval_put_same hm.ok (hF.lt j d hd)]
          exact hv
      · have hLj' : L j = true := by simpa [hji] using hLj
        have h0 := hm.done j hLj'
        unfold rd at h0 ⊢
        cases hd : dstOf ops j with
        | none => trivial
        | some d =>
          rw [hd] at h0
          simp only at h0 ⊢
          rw [eval_put_ne (fun he => hji (hF.uniq j i d hd (by rw [hdi]; exact he)))]
          exact (Φ j).up hs h0
    · have h1 : o.dst ≠ some t := fun he => by
        have := ht i (by rw [hdi]; exact he)
        simp at this
      rw [eval_put_ne h1]
      exact hm.same t fun j hj => by
        have := ht j hj
        simp at this
        exact this.1
  unfold wpOp
  simp only [ho]
  by_cases hw : Region.wanted o (yielded ops a.tmps) = true
  · rw [if_pos hw]
    exact .inl (hrun.1 hw K Q next)
  · rw [if_neg hw]
    exact next undef σ (Stp.refl _ _) (hrun.2 (by simpa using hw))

theorem Mid.start {N : Nat} {ops : Array Oper} {Φ : Nat → Pr} {a : Act} {σ : GW} (ok : Ok N a) : Mid N ops Φ a σ (fun _ => false) a σ :=
  ⟨Stp.refl _ _, ok, fun _ h => (by cases h), fun _ _ => rfl⟩

def GW.drew (σ : GW) : GW := ⟨σ.w.drew, σ.st, σ.lt⟩
theorem Stp.drew (σ : GW) : Stp 0 σ σ.drew := ⟨rfl, rfl, rfl, Nat.le_succ _, Nat.le_refl _, fun _ _ _ => rfl, fun _ _ _ => rfl⟩

structure Done (N : Nat) (ops : Array Oper) (Φ : Nat → Pr) (a0 : Act) (σ0 : GW) (a : Act) (σ : GW) : Prop where
  stp : Stp 0 σ0 σ
  ok : Ok N a
  done : ∀ j, rd ops Φ j a σ
  same : ∀ t, (ops.toList.all fun o => o.dst != some t) = true → a.eval (.tmp t) = a0.eval (.tmp t)

theorem Mid.fin {N : Nat} {ops : Array Oper} {Φ : Nat → Pr} {a0 : Act} {σ0 : GW} {L : Nat → Bool} {a : Act} {σ : GW} (h : Mid N ops Φ a0 σ0 L a σ) (hL : ∀ j, j < ops.size → L j = true) : Done N ops Φ a0 σ0 a σ := by
  refine ⟨h.stp, h.ok, fun j => ?_, fun t ht => h.same t fun j hj => ?_⟩
  · by_cases hj : j < ops.size
    · exact h.done j (hL j hj)
    · unfold rd dstOf; rw [List.getElem?_eq_none (by simpa using hj)]; trivial
  · obtain ⟨o, ho, hd⟩ := Option.bind_eq_some_iff.1 hj
    have := (List.all_eq_true.1 ht) o (List.mem_of_getElem? ho)
    simp [hd] at this

theorem ops_seq {N : Nat} {ops : Array Oper} {Φ : Nat → Pr} {a0 : Act} {σ0 : GW} {Q : Exit → Act → World → Prop} (hF : Form N ops) (hob : Obls P N ops Φ a0 σ0 0 ops.toList)
    (hQ : ∀ a σ, Done N ops Φ a0 σ0 a σ → Q .normal a σ.w) : ∀ (m k : Nat) (a : Act) (σ : GW), k + m = ops.size → Mid N ops Φ a0 σ0 (fun j => decide (j < k)) a σ → wpOps P ops Q (List.range' k m) a σ.w
  | 0, k, a, σ, hk, hm => hQ a σ (hm.fin fun j hj => by simp; omega)
  | m + 1, k, a, σ, hk, hm => by
    rw [List.range'_succ, wpOps_cons]
    obtain ⟨o, ho⟩ : ∃ o, ops[k]? = some o := ⟨ops[k]'(by omega), by simp⟩
    have hb := hF.back
    refine Mid.op hF hm ho (by simp) (by simpa using Obls.get ops.toList 0 hob k o (by simpa using ho)) (fun e he hbi => by simpa using hb k o ho e he hbi)
      (fun j oj hj hlt e he hbi => by have := hb j oj hj e he hbi; simp at hlt ⊢; omega) fun a' σ' hm' => ops_seq hF hob hQ m (k + 1) a' σ' (by omega) ?_
    have : (fun j => decide (j < k) || j == k) = (fun j => decide (j < k + 1)) := by
      funext j; rw [Bool.eq_iff_iff]; simp; omega
    rwa [this] at hm'

def left (n : Nat) (l : Array Bool) : Nat := (List.range n).countP fun i => !l.getD i true

theorem countP_upd (p q : Nat → Bool) (i : Nat) : ∀ (l : List Nat), l.Nodup → i ∈ l → p i = true → q i = false → (∀ j, j ≠ i → q j = p j) → l.countP q + 1 = l.countP p
  | [], _, h, _, _, _ => by simp at h
  | x :: l, hn, hi, hp, hq, hs => by
    rw [List.nodup_cons] at hn
    by_cases hx : x = i
    · subst hx
      have : l.countP q = l.countP p := List.countP_congr fun j hj => by rw [hs j (fun e => hn.1 (e ▸ hj))]
      simp [hp, hq, this]
    · have := countP_upd p q i l hn.2 (by simpa [Ne.symm hx] using hi) hp hq hs
      simp only [List.countP_cons, hs x hx]
      omega

theorem left_set {n i : Nat} {l : Array Bool} (hs : l.size = n) (hi : i < n) (h : l.getD i true = false) : left n (l.setIfInBounds i true) + 1 = left n l := by
  refine countP_upd _ _ i _ List.nodup_range (List.mem_range.2 hi) (by rw [h]; rfl) (by simp [hs, hi]) fun j hj => ?_
  rw [getD_set_ne true (Ne.symm hj)]

theorem any_seq {N : Nat} {ops : Array Oper} {Φ : Nat → Pr} {a0 : Act} {σ0 : GW} {Q : Exit → Act → World → Prop} (hF : Form N ops) (hob : Obls P N ops Φ a0 σ0 0 ops.toList)
    (hQ : ∀ a σ, Done N ops Φ a0 σ0 a σ → Q .normal a σ.w) : ∀ (f : Nat) (L : Array Bool) (a : Act) (σ : GW), L.size = ops.size → left ops.size L ≤ f →
    (∀ (j : Nat) oj, ops[j]? = some oj → L.getD j true = true → ∀ e ∈ oj.after, Region.binds .any e = true → L.getD e.on true = true) → Mid N ops Φ a0 σ0 (fun j => decide (j < ops.size) && L.getD j true) a σ → wpAny P .any ops Q f L a σ.w := by
  -- where nothing is ready, all have come up
  have stop : ∀ (L : Array Bool), L.size = ops.size → Region.ready .any ops L = [] → ∀ j, j < ops.size → L.getD j true = true := by
    intro L hs hr j
    induction j using Nat.strongRecOn with
    | _ j ih =>
    intro hj
    cases hL : L.getD j true with
    | true => rfl
    | false =>
      exfalso
      obtain ⟨o, ho⟩ : ∃ o, ops[j]? = some o := ⟨ops[j], by simp [hj]⟩
      have : j ∈ Region.ready .any ops L := mem_ready.2 ⟨hL, o, ho, fun e he hb => by
        have hlt := hF.back j o ho e he hb
        have := ih e.on hlt (Nat.lt_trans hlt hj)
        have hsz : e.on < L.size := by rw [hs]; omega
        simp [hsz] at this ⊢; exact this⟩
      rw [hr] at this; cases this
  have fin : ∀ (L : Array Bool) a σ, L.size = ops.size → Mid N ops Φ a0 σ0 (fun j => decide (j < ops.size) && L.getD j true) a σ → Region.ready .any ops L = [] → Q .normal a σ.w := fun L a σ hs hm hr =>
    hQ a σ (hm.fin fun j hj => by rw [stop L hs hr j hj]; simp [hj])
  intro f
  induction f with
  | zero =>
    intro L a σ hs hf _ hm
    have hr : Region.ready .any ops L = [] := by
      refine List.eq_nil_iff_forall_not_mem.2 fun i hi => ?_
      obtain ⟨h0, o, ho, _⟩ := mem_ready.1 hi
      have := left_set hs (Array.getElem?_eq_some_iff.1 ho).1 h0
      omega
    exact ⟨hr, fin L a σ hs hm hr⟩
  | succ f ih =>
    intro L a σ hs hf hcl hm
    refine ⟨fin L a σ hs hm, fun i hi => ?_⟩
    obtain ⟨h0, o, ho, hall⟩ := mem_ready.1 hi
    have hi' : i < ops.size := (Array.getElem?_eq_some_iff.1 ho).1
    have up : ∀ k, L.getD k false = true → L.getD k true = true := fun k h => by
      by_cases hk : k < L.size
      · simp [hk] at h ⊢; exact h
      · simp [hk] at h
    refine Mid.op hF hm ho (by simp [h0]) (by simpa using Obls.get ops.toList 0 hob i o (by simpa using ho)) (fun e he hb => ?_) (fun j oj hj hLj e he hb => ?_) fun a' σ' hm' => ih _ a' σ' (by simpa using hs) (by have := left_set hs hi' h0; omega) ?_ ?_
    · have := hF.back i o ho e he hb
      simp only [up _ (hall e he hb), Bool.and_true, decide_eq_true_eq]; omega
    · simp only [Bool.and_eq_true, decide_eq_true_eq] at hLj ⊢
      exact ⟨by have := hF.back j oj hj e he hb; omega, hcl j oj hj hLj.2 e he hb⟩
    · intro j oj hj hLj e he hb
      by_cases hji : j = i
      · subst hji
        rw [ho] at hj; cases hj
        have hne := hF.back j o ho e he hb
        rw [getD_set_ne true (by omega)]
        exact up _ (hall e he hb)
      · rw [getD_set_ne true (Ne.symm hji)] at hLj
        have := hcl j oj hj hLj e he hb
        by_cases hei : e.on = i
        · rw [hei, h0] at this; cases this
        · rw [getD_set_ne true (Ne.symm hei)]; exact this
    · have : (fun j => (decide (j < ops.size) && L.getD j true) || j == i) = (fun j => decide (j < ops.size) && (L.setIfInBounds i true).getD j true) := by
        funext j
        by_cases hji : j = i
        · subst hji; simp [hi', hs]
        · rw [getD_set_ne true (Ne.symm hji)]; simp [hji]
      rwa [this] at hm'

theorem Obls.up {N : Nat} {ops : Array Oper} {Φ : Nat → Pr} {a0 : Act} {σ0 σ1 : GW} (hs : Stp 0 σ0 σ1) : ∀ (l : List Oper) (k : Nat), Obls P N ops Φ a0 σ0 k l → Obls P N ops Φ a0 σ1 k l
  | [], _, _ => trivial
  | _ :: l, k, h => ⟨fun a σ h1 => h.1 a σ (hs.trans h1), Obls.up hs l (k + 1) h.2⟩

theorem reg {N : Nat} {ops : Array Oper} {id : Nat} {draw : Bool} {Q : Exit → Act → World → Prop} {a : Act} {σ : GW} (hP : P.follows .mixedOrders = true) (Φ : Nat → Pr) (ok : Ok N a) (hF : formB N ops = true)
    (hob : Obls P N ops Φ a σ 0 ops.toList) (hQ : ∀ a' σ', Done N ops Φ a σ a' σ' → Q .normal a' σ'.w) : (Code.region id ops draw).wp P Q a σ.w := by
  have hF' := Form.of_B hF
  cases draw with
  | false =>
    refine wp_region ?_
    rw [List.range_eq_range']
    refine ops_seq hF' hob hQ _ 0 a σ (by simp) ?_
    have := Mid.start (ops := ops) (Φ := Φ) (σ := σ) ok
    simpa using this
  | true =>
    refine wp_region_any hP ?_
    have hd := Stp.drew σ
    refine any_seq (σ0 := σ.drew) hF' (Obls.up hd _ _ hob) (fun a' σ' h => hQ a' σ' ⟨hd.trans h.stp, h.ok, h.done, h.same⟩) _ _ a σ.drew (by simp) (Nat.le_trans List.countP_le_length (by simp)) ?_ ?_
    · intro j oj hj h
      have : j < ops.size := (Array.getElem?_eq_some_iff.1 hj).1
      simp [this] at h
    · have := Mid.start (ops := ops) (Φ := Φ) (σ := σ.drew) ok
      have e : (fun j => decide (j < ops.size) && (Array.replicate ops.size false).getD j true) = fun _ => false := by
        funext j; by_cases hj : j < ops.size <;> simp [hj]
      rw [e]; exact this

/-! ### A region whose last operations come in one order alone -/
def edges (o : Oper) : List Nat := (o.after.toList.filter (Region.binds .any)).map (·.on)
def ancs : List Oper → List (List Nat) → List (List Nat)
  | [], acc => acc
  | o :: l, acc => ancs l (acc ++ [((edges o).flatMap fun e => e :: acc.getD e []).eraseDups])
def forcedB (m : Nat) (ops : List Oper) : Bool := let t := ancs ops []; (List.range ops.length).all fun i => i < m || (List.range i).all fun j => (t.getD i []).contains j

theorem ancs_spec {all : List Oper} {L : Nat → Bool} (hcl : ∀ (j : Nat) o, all[j]? = some o → L j = true → ∀ e ∈ edges o, L e = true) :
    ∀ (l : List Oper) (acc : List (List Nat)), (∀ j, l[j]? = all[acc.length + j]?) → acc.length + l.length = all.length →
    (∀ (i : Nat) o, all[i]? = some o → i < acc.length → (∀ e ∈ edges o, L e = true) → ∀ j ∈ acc.getD i [], L j = true) →
    ∀ (i : Nat) o, all[i]? = some o → (∀ e ∈ edges o, L e = true) → ∀ j ∈ (ancs l acc).getD i [], L j = true
  | [], acc, _, hlen, hacc, i, o, ho, he, j, hj => hacc i o ho (by have := (List.getElem?_eq_some_iff.1 ho).1; simp at hlen; omega) he j hj
  | x :: l, acc, hl, hlen, hacc, i, o, ho, he, j, hj => by
    refine ancs_spec hcl l _ (fun j => ?_) (by simp at hlen ⊢; omega) (fun i o ho hi he j hj => ?_) i o ho he j hj
    · have := hl (j + 1)
      simp only [List.getElem?_cons_succ] at this
      rw [this]; congr 1; simp; omega
    · by_cases hlt : i < acc.length
      · rw [List.getD_eq_getElem?_getD, List.getElem?_append_left hlt, ← List.getD_eq_getElem?_getD] at hj
        exact hacc i o ho hlt he j hj
      · have hie : i = acc.length := by simp at hi; omega
        subst hie
        have hx : x = o := by
          have := hl 0
          simp at this; rw [ho] at this; exact Option.some.inj this
        subst hx
        simp only [List.getD_eq_getElem?_getD, List.getElem?_append_right (Nat.le_refl _), Nat.sub_self, List.getElem?_cons_zero, Option.getD_some, List.mem_eraseDups, List.mem_flatMap, List.mem_cons] at hj
        obtain ⟨e, hem, rfl | hj⟩ := hj
        · exact he _ hem
        · by_cases hel : e < acc.length
          · obtain ⟨oe, hoe⟩ : ∃ oe, all[e]? = some oe := ⟨all[e]'(by omega), by simp⟩
            exact hacc e oe hoe hel (hcl e oe hoe (he e hem)) j (by rw [List.getD_eq_getElem?_getD]; exact hj)
          · rw [List.getElem?_eq_none (by omega)] at hj
            simp at hj

theorem mem_edges {o : Oper} {e : Nat} : e ∈ edges o ↔ ∃ x ∈ o.after, Region.binds .any x = true ∧ x.on = e := by
  simp [edges, List.mem_map, List.mem_filter, and_assoc]

theorem forced_spec {m : Nat} {ops : Array Oper} {L : Nat → Bool} (hB : forcedB m ops.toList = true) (hcl : ∀ (j : Nat) oj, ops[j]? = some oj → L j = true → ∀ e ∈ oj.after, Region.binds .any e = true → L e.on = true)
    {i : Nat} {o : Oper} (ho : ops[i]? = some o) (hi : m ≤ i) (hall : ∀ e ∈ o.after, Region.binds .any e = true → L e.on = true) : ∀ j, j < i → L j = true := by
  intro j hj
  have ho' : ops.toList[i]? = some o := by simpa using ho
  have h1 := (List.all_eq_true.1 hB) i (List.mem_range.2 (List.getElem?_eq_some_iff.1 ho').1)
  have h2 : (List.range i).all (fun j => ((ancs ops.toList []).getD i []).contains j) = true := by
    rw [Bool.or_eq_true] at h1
    refine h1.resolve_left ?_
    simp; omega
  have h3 := (List.all_eq_true.1 h2) j (List.mem_range.2 hj)
  refine ancs_spec (all := ops.toList) (L := L) (fun j oj hj hL e he => ?_) ops.toList [] (by simp) (by simp) (fun i o _ h => by simp at h) i o ho' (fun e he => ?_) j (by simpa using h3)
  · obtain ⟨x, hx, hb, rfl⟩ := mem_edges.1 he
    exact hcl j oj (by simpa using hj) hL x hx hb
  · obtain ⟨x, hx, hb, rfl⟩ := mem_edges.1 he
    exact hall x hx hb

structure Half (m N : Nat) (ops : Array Oper) (Φ : Nat → Pr) (a0 : Act) (σ0 : GW) (a : Act) (σ : GW) : Prop where
  stp : Stp 0 σ0 σ
  ok : Ok N a
  done : ∀ j, j < m → rd ops Φ j a σ
  same : ∀ t, ((ops.toList.take m).all fun o => o.dst != some t) = true → a.eval (.tmp t) = a0.eval (.tmp t)

theorem Mid.half {m N : Nat} {ops : Array Oper} {Φ : Nat → Pr} {a0 : Act} {σ0 : GW} {L : Nat → Bool} {a : Act} {σ : GW} (h : Mid N ops Φ a0 σ0 L a σ) (hL : ∀ j, j < m → L j = true) (hL' : ∀ j, m ≤ j → L j = false) : Half m N ops Φ a0 σ0 a σ := by
  refine ⟨h.stp, h.ok, fun j hj => h.done j (hL j hj), fun t ht => h.same t fun j hj => ?_⟩
  by_cases hjm : j < m
  · obtain ⟨o, ho, hd⟩ := Option.bind_eq_some_iff.1 hj
    have := (List.all_eq_true.1 ht) o (List.mem_of_getElem? (i := j) (by rw [List.getElem?_take, if_pos hjm]; exact ho))
    simp [hd] at this
  · exact hL' j (by omega)

theorem tail_any {m N : Nat} {ops : Array Oper} {Q : Exit → Act → World → Prop} (hF : Form N ops) (hB : forcedB m ops.toList = true) : ∀ (n k : Nat) (f : Nat) (L : Array Bool) (a : Act) (w : World), k + n = ops.size → m ≤ k → L.size = ops.size → n ≤ f →
    (∀ j, j < ops.size → L.getD j true = decide (j < k)) → wpList P ops Q (ops.toList.drop k) a w → wpAny P .any ops Q f L a w
  | 0, k, f, L, a, w, hk, _, hs, _, hL, h => by
    have hr : Region.ready .any ops L = [] := List.eq_nil_iff_forall_not_mem.2 fun i hi => by
      obtain ⟨h0, o, ho, _⟩ := mem_ready.1 hi
      have hi' : i < ops.size := (Array.getElem?_eq_some_iff.1 ho).1
      rw [hL i hi'] at h0; simp at h0; omega
    rw [List.drop_eq_nil_of_le (by simp; omega)] at h
    cases f with
    | zero => exact ⟨hr, h⟩
    | succ f => exact ⟨fun _ => h, fun i hi => by rw [hr] at hi; cases hi⟩
  | n + 1, k, f + 1, L, a, w, hk, hm, hs, hf, hL, h => by
    have hkk : k < ops.size := by omega
    obtain ⟨o, ho⟩ : ∃ o, ops[k]? = some o := ⟨ops[k], by simp [hkk]⟩
    have hd : ops.toList.drop k = o :: ops.toList.drop (k + 1) := by
      rw [List.drop_eq_getElem_cons (by simpa using hkk)]
      have : ops[k] = o := by simpa [hkk] using ho
      simp [this]
    have hup : ∀ j, j < k → L.getD j false = true := fun j hj => by
      have := hL j (by omega)
      simp [hj, show j < L.size by omega] at this ⊢; exact this
    have hrk : k ∈ Region.ready .any ops L := mem_ready.2 ⟨by rw [hL k hkk]; simp, o, ho, fun e he hb => hup _ (hF.back k o ho e he hb)⟩
    refine ⟨fun hr => (by rw [hr] at hrk; cases hrk), fun i hi => ?_⟩
    obtain ⟨h0, oi, hoi, hall⟩ := mem_ready.1 hi
    have hi' : i < ops.size := (Array.getElem?_eq_some_iff.1 hoi).1
    have hik : i = k := by
      have h1 : ¬ i < k := fun hlt => by rw [hL i hi'] at h0; simp [hlt] at h0
      by_cases h2 : k < i
      · exfalso
        have := forced_spec (L := fun j => decide (j < k)) hB (fun j oj hj hlt e he hb => by have := hF.back j oj hj e he hb; simp at hlt ⊢; omega) hoi (by omega) (fun e he hb => by
          have h3 := hall e he hb
          have h4 : e.on < ops.size := by have := hF.back i oi hoi e he hb; omega
          have h5 := hL e.on h4
          simp [show e.on < L.size by omega] at h3 h5 ⊢
          rw [h3] at h5; simpa using h5.symm) k h2
        simp at this
      · omega
    subst hik
    rw [hoi] at ho; cases ho
    rw [hd] at h
    unfold wpList at h
    unfold wpOp
    simp only [hoi]
    have hL' : ∀ j, j < ops.size → (L.setIfInBounds i true).getD j true = decide (j < i + 1) := fun j hj => by
      by_cases hji : j = i
      · subst hji; simp [hs, hj]
      · rw [getD_set_ne true (Ne.symm hji), hL j hj, Bool.eq_iff_iff]; simp; omega
    have next : ∀ a w, wpList P ops Q (ops.toList.drop (i + 1)) a w → wpAny P .any ops Q f (L.setIfInBounds i true) a w := fun a w hh =>
      tail_any hF hB n (i + 1) f _ a w (by omega) (by omega) (by simpa using hs) (by omega) hL' hh
    split at h
    · rename_i hw
      rw [if_pos hw]
      exact h.imp (Oper.wp_mono next) id
    · rename_i hw
      rw [if_neg hw]
      exact next _ _ h

theorem half_any {m N : Nat} {ops : Array Oper} {Φ : Nat → Pr} {a0 : Act} {σ0 : GW} {Q : Exit → Act → World → Prop} (hF : Form N ops) (hm : m ≤ ops.size) (hB : forcedB m ops.toList = true) (hob : Obls P N ops Φ a0 σ0 0 (ops.toList.take m))
    (hQ : ∀ a σ, Half m N ops Φ a0 σ0 a σ → wpList P ops Q (ops.toList.drop m) a σ.w) : ∀ (f : Nat) (L : Array Bool) (a : Act) (σ : GW), L.size = ops.size → left ops.size L ≤ f → (∀ j, j < ops.size → m ≤ j → L.getD j true = false) →
    (∀ (j : Nat) oj, ops[j]? = some oj → L.getD j true = true → ∀ e ∈ oj.after, Region.binds .any e = true → L.getD e.on true = true) → Mid N ops Φ a0 σ0 (fun j => decide (j < m) && L.getD j true) a σ → wpAny P .any ops Q f L a σ.w := by
  intro f
  induction f with
  | zero =>
    intro L a σ hs hf hLm hcl hmid
    -- nothing is left: then m is the size
    have hnone : ∀ j, j < ops.size → L.getD j true = true := fun j hj => by
      cases h : L.getD j true with
      | true => rfl
      | false => have := left_set hs hj h; omega
    have hmm : m = ops.size := by
      rcases Nat.lt_or_ge m ops.size with h | h
      · have := hnone m h; rw [hLm m h (Nat.le_refl _)] at this; cases this
      · omega
    exact tail_any hF hB 0 m 0 L a σ.w (by omega) (Nat.le_refl _) hs (Nat.le_refl _) (fun j hj => by rw [hnone j hj]; simp; omega) (hQ a σ (hmid.half (fun j hj => by simp [hj, hnone j (by omega)]) (fun j hj => by simp; omega)))
  | succ f ih =>
    intro L a σ hs hf hLm hcl hmid
    by_cases hdone : ∀ j, j < m → L.getD j true = true
    · have hL : ∀ j, j < ops.size → L.getD j true = decide (j < m) := fun j hj => by
        by_cases h : j < m
        · rw [hdone j h]; simp [h]
        · rw [hLm j hj (by omega)]; simp [h]
      refine tail_any hF hB (ops.size - m) m (f + 1) L a σ.w (by omega) (Nat.le_refl _) hs ?_ hL (hQ a σ (hmid.half (fun j hj => by simp [hj, hdone j hj]) (fun j hj => by simp; omega)))
      refine Nat.le_trans ?_ hf
      unfold left
      have : (List.range ops.size).countP (fun i => !L.getD i true) = (List.range ops.size).countP (fun i => decide (m ≤ i)) := List.countP_congr fun i hi => by rw [hL i (List.mem_range.1 hi)]; simp
      rw [this]
      have hcnt : ∀ n, (List.range n).countP (fun i => decide (m ≤ i)) = n - m := fun n => by
        induction n with
        | zero => simp
        | succ n ihn =>
          rw [List.range_succ, List.countP_append, ihn]
          by_cases h : m ≤ n <;> simp [h] <;> omega
      rw [hcnt]
      exact Nat.le_refl _
    · -- some of the first m are left: one of them is ready, and none of the others
      have hsome : ∃ j, j < m ∧ L.getD j true = false := by
        refine Classical.byContradiction fun hn => hdone fun j hj => ?_
        cases h : L.getD j true with
        | true => rfl
        | false => exact absurd ⟨j, hj, h⟩ hn
      have up : ∀ k, L.getD k false = true → L.getD k true = true := fun k h => by
        by_cases hk : k < L.size
        · simp [hk] at h ⊢; exact h
        · simp [hk] at h
      refine ⟨fun hr => ?_, fun i hi => ?_⟩
      · exfalso
        have key : ∀ j, j < m → L.getD j true = true := by
          intro j
          induction j using Nat.strongRecOn with
          | _ j ihj =>
          intro hj
          cases hL : L.getD j true with
          | true => rfl
          | false =>
            exfalso
            obtain ⟨o, ho⟩ : ∃ o, ops[j]? = some o := ⟨ops[j]'(by omega), by simp⟩
            have : j ∈ Region.ready .any ops L := mem_ready.2 ⟨hL, o, ho, fun e he hb => by
              have hlt := hF.back j o ho e he hb
              have := ihj e.on hlt (Nat.lt_trans hlt hj)
              have hsz : e.on < L.size := by rw [hs]; omega
              simp [hsz] at this ⊢; exact this⟩
            rw [hr] at this; cases this
        exact hdone key
      · obtain ⟨h0, o, ho, hall⟩ := mem_ready.1 hi
        have hi' : i < ops.size := (Array.getElem?_eq_some_iff.1 ho).1
        have him : i < m := by
          rcases Nat.lt_or_ge i m with h | h
          · exact h
          · exfalso
            obtain ⟨j, hj, hjL⟩ := hsome
            have := forced_spec (L := fun j => decide (j < ops.size) && L.getD j true) hB (fun j oj hj hLj e he hb => by
              simp only [Bool.and_eq_true, decide_eq_true_eq] at hLj ⊢
              exact ⟨by have := hF.back j oj hj e he hb; omega, hcl j oj hj hLj.2 e he hb⟩) ho h (fun e he hb => by
              simp only [Bool.and_eq_true, decide_eq_true_eq]
              exact ⟨by have := hF.back i o ho e he hb; omega, up _ (hall e he hb)⟩) j (by omega)
            simp only [Bool.and_eq_true] at this
            rw [hjL] at this; cases this.2
        have hget : (ops.toList.take m)[i]? = some o := by rw [List.getElem?_take, if_pos him]; simpa using ho
        refine Mid.op hF hmid ho (by simp [h0]) (by simpa using Obls.get (ops.toList.take m) 0 hob i o hget) (fun e he hb => ?_) (fun j oj hj hLj e he hb => ?_) fun a' σ' hm' => ih _ a' σ' (by simpa using hs) (by have := left_set hs hi' h0; omega) (fun j hj hmj => ?_) ?_ ?_
        · have := hF.back i o ho e he hb
          simp only [up _ (hall e he hb), Bool.and_true, decide_eq_true_eq]; omega
        · simp only [Bool.and_eq_true, decide_eq_true_eq] at hLj ⊢
          exact ⟨by have := hF.back j oj hj e he hb; omega, hcl j oj hj hLj.2 e he hb⟩
        · rw [getD_set_ne true (by omega)]; exact hLm j hj hmj
        · intro j oj hj hLj e he hb
          by_cases hji : j = i
          · subst hji
            rw [ho] at hj; cases hj
            have hne := hF.back j o ho e he hb
            rw [getD_set_ne true (by omega)]
            exact up _ (hall e he hb)
          · rw [getD_set_ne true (Ne.symm hji)] at hLj
            have := hcl j oj hj hLj e he hb
            by_cases hei : e.on = i
            · rw [hei, h0] at this; cases this
            · rw [getD_set_ne true (Ne.symm hei)]; exact this
        · have : (fun j => (decide (j < m) && L.getD j true) || j == i) = (fun j => decide (j < m) && (L.setIfInBounds i true).getD j true) := by
            funext j
            by_cases hji : j = i
            · subst hji; simp [him, hs, hi']
            · rw [getD_set_ne true (Ne.symm hji)]; simp [hji]
          rwa [this] at hm'

theorem half_seq {m N : Nat} {ops : Array Oper} {Φ : Nat → Pr} {a0 : Act} {σ0 : GW} {Q : Exit → Act → World → Prop} (hF : Form N ops) (hm : m ≤ ops.size) (hob : Obls P N ops Φ a0 σ0 0 (ops.toList.take m))
    (hQ : ∀ a σ, Half m N ops Φ a0 σ0 a σ → wpOps P ops Q (List.range' m (ops.size - m)) a σ.w) : ∀ (n k : Nat) (a : Act) (σ : GW), k + n = m → Mid N ops Φ a0 σ0 (fun j => decide (j < k)) a σ → wpOps P ops Q (List.range' k (n + (ops.size - m))) a σ.w
  | 0, k, a, σ, hk, hmid => by
    obtain rfl : k = m := by omega
    rw [Nat.zero_add]
    exact hQ a σ (hmid.half (fun j hj => by simpa using hj) (fun j hj => by simpa using hj))
  | n + 1, k, a, σ, hk, hmid => by
    rw [show n + 1 + (ops.size - m) = (n + (ops.size - m)) + 1 by omega, List.range'_succ, wpOps_cons]
    obtain ⟨o, ho⟩ : ∃ o, ops[k]? = some o := ⟨ops[k]'(by omega), by simp⟩
    have hget : (ops.toList.take m)[k]? = some o := by rw [List.getElem?_take, if_pos (by omega)]; simpa using ho
    refine Mid.op hF hmid ho (by simp) (by simpa using Obls.get (ops.toList.take m) 0 hob k o hget) (fun e he hbi => by simpa using hF.back k o ho e he hbi)
      (fun j oj hj hlt e he hbi => by have := hF.back j oj hj e he hbi; simp at hlt ⊢; omega) fun a' σ' hm' => half_seq hF hm hob hQ n (k + 1) a' σ' (by omega) ?_
    have : (fun j => decide (j < k) || j == k) = (fun j => decide (j < k + 1)) := by
      funext j; rw [Bool.eq_iff_iff]; simp; omega
    rwa [this] at hm'

theorem reg2 {N : Nat} {ops : Array Oper} {id : Nat} {draw : Bool} {Q : Exit → Act → World → Prop} {a : Act} {σ : GW} (hP : P.follows .mixedOrders = true) (m : Nat) (Φ : Nat → Pr) (ok : Ok N a) (hF : formB N ops = true) (hm : m ≤ ops.size) (hB : (!draw || forcedB m ops.toList) = true)
    (hob : Obls P N ops Φ a σ 0 (ops.toList.take m)) (hQ : ∀ a' σ', Half m N ops Φ a σ a' σ' → wpList P ops Q (ops.toList.drop m) a' σ'.w) : (Code.region id ops draw).wp P Q a σ.w := by
  have hF' := Form.of_B hF
  cases draw with
  | false =>
    refine wp_region ?_
    rw [List.range_eq_range']
    have := half_seq (Q := Q) hF' hm hob (fun a' σ' h => ?_) m 0 a σ (by simp) (by have := Mid.start (ops := ops) (Φ := Φ) (σ := σ) ok; simpa using this)
    · rwa [show m + (ops.size - m) = ops.size by omega] at this
    · have := wpOps_eq_wpList (P := P) (ops := ops) (Q := Q) (ops.toList.drop m) m (fun j => by rw [List.getElem?_drop]; simp)
      rw [show (ops.toList.drop m).length = ops.size - m by simp] at this
      rw [this]
      exact hQ a' σ' h
  | true =>
    refine wp_region_any hP ?_
    have hd := Stp.drew σ
    refine half_any (σ0 := σ.drew) hF' hm (by simpa using hB) (Obls.up hd _ _ hob) (fun a' σ' h => hQ a' σ' ⟨hd.trans h.stp, h.ok, h.done, h.same⟩) _ _ a σ.drew (by simp) (Nat.le_trans List.countP_le_length (by simp)) ?_ ?_ ?_
    · intro j hj _; simp [hj]
    · intro j oj hj h
      have : j < ops.size := (Array.getElem?_eq_some_iff.1 hj).1
      simp [this] at h
    · have := Mid.start (ops := ops) (Φ := Φ) (σ := σ.drew) ok
      have e : (fun j => decide (j < m) && (Array.replicate ops.size false).getD j true) = fun _ => false := by
        funext j; by_cases hj : j < ops.size
        · simp [hj]
        · simp; omega
      rw [e]; exact this

def YldM (m : Nat) (P : Program) (o : Oper) (a : Act) (σ : GW) (R : Value → GW → Prop) : Prop :=
  ∀ (K : Act → World → Prop) (Q : Exit → Act → World → Prop), (∀ v τ, Stp m σ τ → R v τ → K (a.put o.dst v) τ.w) → o.wp P a σ.w K Q

theorem Yld.toM {o : Oper} {a : Act} {σ : GW} {R : Pr} (h : Yld P o a σ R) : YldM 0 P o a σ (fun v τ => R.has τ v) := h

theorem tail_step {m N d : Nat} {ops : Array Oper} {Q : Exit → Act → World → Prop} {o : Oper} {rest : List Oper} {a : Act} {σ : GW} {R : Value → GW → Prop} (hg : o.guard = none) (hd : o.dst = some d) (hN : d < N) (ok : Ok N a) (hy : YldM m P o a σ R)
    (k : ∀ a' τ, Stp m σ τ → Ok N a' → R (a'.eval (.tmp d)) τ → (∀ t, t ≠ d → a'.eval (.tmp t) = a.eval (.tmp t)) → wpList P ops Q rest a' τ.w) : wpList P ops Q (o :: rest) a σ.w := by
  refine wpList_plain hg fun K hK => hy K Q fun v τ hs hr => hK _ _ ?_
  rw [hd]
  exact k _ τ hs (ok.put _ _) (by rw [eval_put_same ok hN]; exact hr) fun t ht => eval_put_ne (by simpa using Ne.symm ht) v
theorem tail_step0 {m : Nat} {ops : Array Oper} {Q : Exit → Act → World → Prop} {o : Oper} {rest : List Oper} {a : Act} {σ : GW} {R : Value → GW → Prop} (hg : o.guard = none) (hd : o.dst = none) (hy : YldM m P o a σ R)
    (k : ∀ v τ, Stp m σ τ → R v τ → wpList P ops Q rest a τ.w) : wpList P ops Q (o :: rest) a σ.w := by
  refine wpList_plain hg fun K hK => hy K Q fun v τ hs hr => hK _ _ ?_
  rw [hd]
  exact k v τ hs hr

theorem sl_le {c n : Nat} {ts : List Ty} {σ : GW} {v : Value} (h : (Ty.sl c n ts).has σ v) : n ≤ 9223372036854775807 := by
  obtain ⟨_, _, _, _, _, ⟨h1, h2⟩, _⟩ := h; omega

/-! ### Functions -/
def RetPost (σ0 : GW) (R : Ty) (e : Ending) (w' : World) : Prop := ∃ v τ, τ.w = w' ∧ From σ0 τ ∧ e = .returned v ∧ R.has τ v
def FnC (P : Program) (f : FuncId) (args : Array Value) (σ : GW) (R : Ty) : Prop :=
  Calls P f args σ.w fun e w' => ∃ v τ, τ.w = w' ∧ Stp 0 σ τ ∧ e = .returned v ∧ R.has τ v

def GW.hush (σ : GW) : GW := ⟨σ.w, fun b => if σ.st b = 1 then 1 else 0, fun b h => σ.lt b (by intro e; simp [e] at h)⟩
theorem GW.le_hush (σ : GW) : σ.Le σ.hush := ⟨fun b h => by simp [GW.hush, h], fun _ _ => rfl⟩
theorem From.hush (σ : GW) : From σ.hush σ.hush := ⟨rfl, rfl, rfl, Nat.le_refl _, Nat.le_refl _, fun _ _ => rfl, fun b _ => ⟨rfl, by simp only [GW.hush]; split <;> omega⟩⟩
def GW.back (σ τ : GW) (h : From σ.hush τ) : GW :=
  ⟨τ.w, fun b => if b < σ.w.heap.size then σ.st b else if τ.st b = 1 then 1 else 0, fun b hb => by
    by_cases hlt : b < σ.w.heap.size
    · exact Nat.lt_of_lt_of_le hlt h.size
    · simp only [hlt, if_false] at hb
      exact τ.lt b (by intro e; simp [e] at hb)⟩
theorem GW.back_stp (σ τ : GW) (h : From σ.hush τ) : Stp 0 σ (σ.back τ h) := ⟨h.os, h.tape, h.output, h.dr, h.size, fun b hb _ => h.blk b hb, fun b hb _ => by simp [GW.back, hb]⟩
theorem GW.back_le (σ τ : GW) (h : From σ.hush τ) : τ.Le (σ.back τ h) := by
  refine ⟨fun b hb => ?_, fun _ _ => rfl⟩
  simp only [GW.back]
  split
  · rename_i hlt
    have := (h.st b hlt).1
    rw [hb] at this
    simp only [GW.hush] at this
    split at this
    · assumption
    · cases this
  · simp

theorem fn_intro {f : FuncId} {fn : Func} {c : Code} {N : Nat} {args : Array Value} {σ : GW} {R : Ty} (hf : P.funcs[f]? = some fn) (hb : fn.body = some c) (hn : fn.ntmps = N) (ha : args.size ≤ N)
    (h : ∀ σ0 a, σ.Le σ0 → From σ0 σ0 → Ok N a → (∀ i v, args.toList[i]? = some v → a.eval (.tmp i) = v) → c.wp P (bodyPost P fn (RetPost σ0 R)) a σ0.w) : FnC P f args σ R := by
  refine Calls.mono (calls_of_wp hf hb (h σ.hush _ σ.le_hush (From.hush σ) ⟨by simp; omega, rfl⟩ fun i v hi => ?_)) ?_
  · have hi' : args[i]? = some v := by simpa using hi
    have hlt : i < args.size := (Array.getElem?_eq_some_iff.1 hi').1
    simp [Act.eval, Array.getD_eq_getD_getElem?, Array.getElem?_append, hlt]
    simpa [hlt] using hi'
  · rintro e w' ⟨v, τ, rfl, hF, rfl, hv⟩
    exact ⟨v, σ.back τ hF, rfl, σ.back_stp τ hF, rfl, R.up (σ.back_le τ hF) hv⟩

theorem ret1 {fn : Func} {σ0 σ : GW} {a : Act} {N d : Nat} {T : Ty} (hr : fn.results = #[.tmp d]) (ok : Ok N a) (hF : From σ0 σ) (h : At T σ a (.tmp d)) : bodyPost P fn (RetPost σ0 T) .ret a σ.w :=
  bodyPost_ret (results_tmp hr _ _ _) ok.defers ⟨_, σ, rfl, hF, rfl, h⟩
theorem ret2 {fn : Func} {σ0 σ : GW} {a : Act} {N d e : Nat} {T U : Ty} (hr : fn.results = #[.tmp d, .tmp e]) (ok : Ok N a) (hF : From σ0 σ) (h : At T σ a (.tmp d)) (k : At U σ a (.tmp e)) : bodyPost P fn (RetPost σ0 (.tup2 T U)) .ret a σ.w :=
  bodyPost_ret (results_tmp2 hr _ _ _) ok.defers ⟨_, σ, rfl, hF, rfl, _, _, rfl, h, k⟩
/-! ### Ways on -/
section
variable {Q : Exit → Act → World → Prop} {N : Act → World → Prop} {a : Act} {w : World}
theorem tn (h : N a w) : Exit.then N Q .normal a w := h
theorem tx {i : Nat} (h : Q (.exit i) a w) : Exit.then N Q (.exit i) a w := h
theorem tr (h : Q .ret a w) : Exit.then N Q .ret a w := h
theorem bn {i : Nat} (h : Q .normal a w) : Exit.inBlock i Q .normal a w := h
theorem br {i : Nat} (h : Q .ret a w) : Exit.inBlock i Q .ret a w := h
theorem bx {i : Nat} (h : Q .normal a w) : Exit.inBlock i Q (.exit i) a w := by simp only [Exit.inBlock, if_true]; exact h
end

theorem loop {c : Code} {Q : Exit → Act → World → Prop} {a : Act} {w : World} (I : Nat → Act → World → Prop) (n : Nat) (h0 : I n a w)
    (round : ∀ n a w, I n a w → c.wp P (Exit.then (fun a' w' => ∃ m, m < n ∧ I m a' w') Q) a w) : (Code.loop c).wp P Q a w := by
  classical
  have key : ∀ (a : Act) (w : World), (∃ n, I n a w) → ∃ n, I n a w ∧ ∀ m, m < n → ¬ I m a w := by
    rintro a w ⟨n, hn⟩
    induction n using Nat.strongRecOn with
    | _ n ih =>
    by_cases h : ∃ m, m < n ∧ I m a w
    · obtain ⟨m, hm, hi⟩ := h; exact ih m hm hi
    · exact ⟨n, hn, fun m hm hi => h ⟨m, hm, hi⟩⟩
  refine wp_loop (fun a w => ∃ n, I n a w) (fun a w => if h : ∃ n, I n a w then Classical.choose (key a w h) else 0) ⟨n, h0⟩ fun a w hI => ?_
  have hs := Classical.choose_spec (key a w hI)
  refine Code.wp_mono (fun e a' w' hq => ?_) (round _ a w hs.1)
  cases e <;> try exact hq
  obtain ⟨m, hm, hi⟩ := hq
  have hex : ∃ n, I n a' w' := ⟨m, hi⟩
  refine ⟨hex, ?_⟩
  have hs' := Classical.choose_spec (key a' w' hex)
  simp only [dif_pos hex, dif_pos hI]
  refine Nat.lt_of_le_of_lt (Nat.le_of_not_lt fun hlt => hs'.2 m hlt hi) hm

theorem cond_t {c : Operand} {x y : Code} {Q : Exit → Act → World → Prop} {a : Act} {σ : GW} {b : Bool} (h : At (.bool b) σ a c) (ht : b = true → x.wp P Q a σ.w) (hf : b = false → y.wp P Q a σ.w) : (Code.cond c x y).wp P Q a σ.w :=
  wp_cond_split (t := b) h ht hf
theorem cond_p {c : Operand} {x y : Code} {Q : Exit → Act → World → Prop} {a : Act} {σ : GW} {p : Prop} [Decidable p] (h : At (.bool (decide p)) σ a c) (ht : p → x.wp P Q a σ.w) (hf : ¬ p → y.wp P Q a σ.w) : (Code.cond c x y).wp P Q a σ.w :=
  wp_cond_split (t := decide p) h (fun e => ht (of_decide_eq_true e)) (fun e => hf (of_decide_eq_false e))

/-! ### Guards -/
theorem run_plain {ops : Array Oper} {o : Oper} {a : Act} {σ : GW} {R : Pr} (hg : o.guard = none) (h : Yld P o a σ R) : Run P ops o a σ R :=
  ⟨fun _ => h, fun hw => by simp [Region.wanted, hg] at hw⟩
theorem yielded_at {N : Nat} {ops : Array Oper} {a : Act} {σ : GW} {j d : Nat} {c : Bool} (ok : Ok N a) (hd : dstOf ops j = some d) (hN : d < N) (h : At (.bool c) σ a (.tmp d)) : yielded ops a.tmps j = some c := by
  have e : a.tmps[d]? = some (.bool c) := by
    have h' : a.tmps.getD d undef = .bool c := h
    have hlt : d < a.tmps.size := by rw [ok.size]; exact hN
    simp [hlt] at h' ⊢
    exact h'
  unfold yielded
  have : (ops[j]?).bind (·.dst) = some d := by simpa [dstOf] using hd
  simp [this, e]
theorem run_guard {N : Nat} {ops : Array Oper} {o : Oper} {a : Act} {σ : GW} {T : Ty} {j d : Nat} {want c : Bool} (ok : Ok N a) (hg : o.guard = some (j, want)) (hd : dstOf ops j = some d) (hN : d < N) (h : At (.bool c) σ a (.tmp d))
    (hy : c = want → Yld P o a σ T.pr) : Run P ops o a σ (Ty.grd (c = want) T).pr := by
  have hw : Region.wanted o (yielded ops a.tmps) = (some c == some want) := by simp [Region.wanted, hg, yielded_at ok hd hN h]
  refine ⟨fun e => ?_, fun e => ?_⟩
  · have hc : c = want := by rw [hw] at e; simpa using e
    intro K Q hk
    exact hy hc K Q fun v τ hs hv => hk v τ hs ⟨fun _ => hv, fun h => absurd hc h⟩
  · refine ⟨fun hc => ?_, fun _ => rfl⟩
    rw [hw, hc] at e; simp at e
theorem run_guard2 {N : Nat} {ops : Array Oper} {o : Oper} {a : Act} {σ : GW} {T : Ty} {j d : Nat} {want c : Bool} {p : Prop} (ok : Ok N a) (hg : o.guard = some (j, want)) (hd : dstOf ops j = some d) (hN : d < N) (h : At (.grd p (.bool c)) σ a (.tmp d))
    (hy : p ∧ c = want → Yld P o a σ T.pr) : Run P ops o a σ (Ty.grd (p ∧ c = want) T).pr := by
  by_cases hp : p
  · have hb : At (.bool c) σ a (.tmp d) := h.1 hp
    have hw : Region.wanted o (yielded ops a.tmps) = (some c == some want) := by simp [Region.wanted, hg, yielded_at ok hd hN hb]
    refine ⟨fun e => ?_, fun e => ?_⟩
    · have hc : c = want := by rw [hw] at e; simpa using e
      intro K Q hk
      exact hy ⟨hp, hc⟩ K Q fun v τ hs hv => hk v τ hs ⟨fun _ => hv, fun h => absurd ⟨hp, hc⟩ h⟩
    · refine ⟨fun hc => ?_, fun _ => rfl⟩
      rw [hw, hc.2] at e; simp at e
  · have hu : a.eval (.tmp d) = undef := h.2 hp
    have hw : Region.wanted o (yielded ops a.tmps) = false := by
      have hd' : (ops[j]?).bind (·.dst) = some d := by simpa [dstOf] using hd
      have e : a.tmps.getD d undef = undef := hu
      simp only [Region.wanted, hg, yielded, hd', Option.bind_some]
      cases ht : a.tmps[d]? with
      | none => rfl
      | some v =>
        have hlt := (Array.getElem?_eq_some_iff.1 ht).1
        have : v = undef := by rw [Array.getD_eq_getD_getElem?, ht] at e; simpa using e
        subst this; rfl
    exact ⟨fun e => (by rw [hw] at e; cases e), fun _ => ⟨fun h => absurd h.1 hp, fun _ => rfl⟩⟩

/-! ### Facts carried on -/
theorem kp {T : Ty} {σ σ' : GW} {a a' : Act} {x y : Operand} (e : a'.eval x = a.eval y) (hs : Stp 0 σ σ') (h : T.has σ (a.eval y)) : T.has σ' (a'.eval x) := by rw [e]; exact T.up hs.le0 h
theorem kpo {R : Pr} {σ σ' : GW} {a a' : Act} {x y : Operand} (e : a'.eval x = a.eval y) (hs : Stp 0 σ σ') (h : R.has σ (a.eval y)) : R.has σ' (a'.eval x) := by rw [e]; exact R.up hs h
theorem Done.kt {N : Nat} {ops : Array Oper} {Φ : Nat → Pr} {a0 a : Act} {σ0 σ : GW} {T : Ty} {t : Nat} (D : Done N ops Φ a0 σ0 a σ) (h : T.has σ0 (a0.eval (.tmp t))) (ht : (ops.toList.all fun o => o.dst != some t) = true) : T.has σ (a.eval (.tmp t)) := kp (D.same t ht) D.stp h
theorem Done.ko {N : Nat} {ops : Array Oper} {Φ : Nat → Pr} {a0 a : Act} {σ0 σ : GW} {R : Pr} {t : Nat} (D : Done N ops Φ a0 σ0 a σ) (h : R.has σ0 (a0.eval (.tmp t))) (ht : (ops.toList.all fun o => o.dst != some t) = true) : R.has σ (a.eval (.tmp t)) := kpo (D.same t ht) D.stp h
theorem Half.kt {m N : Nat} {ops : Array Oper} {Φ : Nat → Pr} {a0 a : Act} {σ0 σ : GW} {T : Ty} {t : Nat} (D : Half m N ops Φ a0 σ0 a σ) (h : T.has σ0 (a0.eval (.tmp t))) (ht : ((ops.toList.take m).all fun o => o.dst != some t) = true) : T.has σ (a.eval (.tmp t)) := kp (D.same t ht) D.stp h
theorem Half.ko {m N : Nat} {ops : Array Oper} {Φ : Nat → Pr} {a0 a : Act} {σ0 σ : GW} {R : Pr} {t : Nat} (D : Half m N ops Φ a0 σ0 a σ) (h : R.has σ0 (a0.eval (.tmp t))) (ht : ((ops.toList.take m).all fun o => o.dst != some t) = true) : R.has σ (a.eval (.tmp t)) := kpo (D.same t ht) D.stp h
theorem cvt {T U : Ty} {σ : GW} {v : Value} (e : T = U) (h : T.has σ v) : U.has σ v := e ▸ h
theorem cvi {m n : Int} {k : IntKind} {σ : GW} {v : Value} (e : m = n) (h : (Ty.val (.int k m)).has σ v) : (Ty.val (.int k n)).has σ v := e ▸ h
theorem cvb {m n : Bool} {σ : GW} {v : Value} (e : m = n) (h : (Ty.bool m).has σ v) : (Ty.bool n).has σ v := e ▸ h
theorem lst_get {α : Type} (f : α → Ty) (xs : List α) (d : α) (k : Nat) (h : k < xs.length) : (xs.map f)[k]? = some (f (xs.getD k d)) := by simp [h]
end Go.KL
