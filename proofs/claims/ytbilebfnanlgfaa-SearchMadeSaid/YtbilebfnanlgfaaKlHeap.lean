/- Calls that write what they are lent: steps by lists of tags, contracts, tags renamed at a call. -/
import Derived.Test.YtbilebfnanlgfaaKlCell
namespace Go.KL
open Go.RowKit
variable {P : Program}

structure StpL (L : List Nat) (σ τ : GW) : Prop where
  os : τ.w.os = σ.w.os
  tape : τ.w.tape = σ.w.tape
  output : τ.w.output = σ.w.output
  dr : σ.w.drawn ≤ τ.w.drawn
  size : σ.w.heap.size ≤ τ.w.heap.size
  blk : ∀ b, b < σ.w.heap.size → σ.st b ∉ L → τ.w.heap[b]? = σ.w.heap[b]?
  st : ∀ b, b < σ.w.heap.size → σ.st b ∉ L → τ.st b = σ.st b

theorem StpL.refl (L : List Nat) (σ : GW) : StpL L σ σ := ⟨rfl, rfl, rfl, Nat.le_refl _, Nat.le_refl _, fun _ _ _ => rfl, fun _ _ _ => rfl⟩
theorem StpL.trans {L : List Nat} {σ τ ρ : GW} (h : StpL L σ τ) (k : StpL L τ ρ) : StpL L σ ρ :=
  ⟨k.os.trans h.os, k.tape.trans h.tape, k.output.trans h.output, Nat.le_trans h.dr k.dr, Nat.le_trans h.size k.size,
   fun b hb hm => (k.blk b (Nat.lt_of_lt_of_le hb h.size) (by rw [h.st b hb hm]; exact hm)).trans (h.blk b hb hm),
   fun b hb hm => (k.st b (Nat.lt_of_lt_of_le hb h.size) (by rw [h.st b hb hm]; exact hm)).trans (h.st b hb hm)⟩
theorem Stp.toL0 {L : List Nat} {σ τ : GW} (h : Stp 0 σ τ) : StpL L σ τ :=
  ⟨h.os, h.tape, h.output, h.dr, h.size, fun b hb _ => h.blk b hb (.inl rfl), fun b hb _ => h.st b hb (.inl rfl)⟩
theorem Stp.toL {m : Nat} {L : List Nat} {σ τ : GW} (h : Stp m σ τ) (hm : m ∈ L) : StpL L σ τ :=
  ⟨h.os, h.tape, h.output, h.dr, h.size, fun b hb hn => h.blk b hb (.inr fun e => hn (e ▸ hm)), fun b hb hn => h.st b hb (.inr fun e => hn (e ▸ hm))⟩
theorem StpL.le {L : List Nat} {σ τ : GW} (h : StpL L σ τ) (hL : 1 ∉ L) : σ.Le τ :=
  ⟨fun b hb => (h.st b (σ.lt b (by omega)) (by rw [hb]; exact hL)).trans hb, fun b hb => h.blk b (σ.lt b (by omega)) (by rw [hb]; exact hL)⟩

theorem Own.keepL {L : List Nat} {k : Nat} {σ τ : GW} {e : TypeId} {c : Nat} {v : Value} {n : Nat} {ts : List Ty} (h : Own σ k e c v n ts) (hs : StpL L σ τ) (h1 : 1 ∉ L) (hk : k ∉ L) : Own τ k e c v n ts := by
  obtain ⟨us, r1, r2, r3, r4⟩ := h
  have hlt : ∀ g, v.ownBlock = some g → g < σ.w.heap.size := fun g hg => (r1.lt g hg).2
  have hq : ∀ g, v.ownBlock = some g → σ.st g ∉ L := fun g hg => by rw [r4 g hg]; exact hk
  exact ⟨us, ownsRow_same r1 (fun g hg => hs.blk g (hlt g hg) (hq g hg)), r2, fun j T u hj hu => T.up (hs.le h1) (r3 j T u hj hu), fun g hg => (hs.st g (hlt g hg) (hq g hg)).trans (r4 g hg)⟩
theorem OwnP.keepL {L : List Nat} {k : Nat} {σ τ : GW} {v : Value} {ts : List Ty} (h : OwnP σ k v ts) (hs : StpL L σ τ) (h1 : 1 ∉ L) (hk : k ∉ L) : OwnP τ k v ts := by
  obtain ⟨g, e, cur, rfl, r2, r3, r4, r5⟩ := h
  have hg := (Array.getElem?_eq_some_iff.1 r3).1
  have hq : σ.st g ∉ L := by rw [r2]; exact hk
  exact ⟨g, e, cur, rfl, (hs.st g hg hq).trans r2, (hs.blk g hg hq).trans r3, r4, fun j T u hj hu => T.up (hs.le h1) (r5 j T u hj hu)⟩
theorem Iter.keepL {L : List Nat} {k : Nat} {σ τ : GW} {v : Value} {s : ByteArray} {p : Nat} (h : Iter σ k v s p) (hs : StpL L σ τ) (_h1 : 1 ∉ L) (hk : k ∉ L) : Iter τ k v s p := by
  obtain ⟨g, r1, r2, r3⟩ := h
  have hlt := (Array.getElem?_eq_some_iff.1 r3).1
  have hq : σ.st g ∉ L := by rw [r2]; exact hk
  exact ⟨g, r1, (hs.st g hlt hq).trans r2, (hs.blk g hlt hq).trans r3⟩

structure Ren (k k' : Nat) (σ τ : GW) : Prop where
  w : τ.w = σ.w
  le : σ.Le τ
  st : ∀ b, σ.st b = k → τ.st b = k'
theorem Own.ren {k k' : Nat} {σ τ : GW} {e : TypeId} {c : Nat} {v : Value} {n : Nat} {ts : List Ty} (h : Own σ k e c v n ts) (r : Ren k k' σ τ) : Own τ k' e c v n ts := by
  obtain ⟨us, r1, r2, r3, r4⟩ := h
  exact ⟨us, by rw [r.w]; exact r1, r2, fun j T u hj hu => T.up r.le (r3 j T u hj hu), fun g hg => r.st g (r4 g hg)⟩
theorem OwnP.ren {k k' : Nat} {σ τ : GW} {v : Value} {ts : List Ty} (h : OwnP σ k v ts) (r : Ren k k' σ τ) : OwnP τ k' v ts := by
  obtain ⟨g, e, cur, rfl, r2, r3, r4, r5⟩ := h
  exact ⟨g, e, cur, rfl, r.st g r2, by rw [r.w]; exact r3, r4, fun j T u hj hu => T.up r.le (r5 j T u hj hu)⟩
theorem Iter.ren {k k' : Nat} {σ τ : GW} {v : Value} {s : ByteArray} {p : Nat} (h : Iter σ k v s p) (r : Ren k k' σ τ) : Iter τ k' v s p := by
  obtain ⟨g, r1, r2, r3⟩ := h
  exact ⟨g, r1, r.st g r2, by rw [r.w]; exact r3⟩

structure FromL (L : List Nat) (σ τ : GW) : Prop where
  stp : StpL L σ τ
  low : ∀ b, σ.st b ∉ L → σ.st b ≤ 1
theorem FromL.stepL {L M : List Nat} {σ τ ρ : GW} (h : FromL L σ τ) (k : StpL M τ ρ) (hM : ∀ m ∈ M, 2 ≤ m) : FromL L σ ρ := by
  have hx : ∀ b, b < σ.w.heap.size → σ.st b ∉ L → τ.st b ∉ M := fun b hb hn hm => by
    have h1 := hM _ hm
    rw [h.stp.st b hb hn] at h1
    have := h.low b hn
    omega
  refine ⟨⟨k.os.trans h.stp.os, k.tape.trans h.stp.tape, k.output.trans h.stp.output, Nat.le_trans h.stp.dr k.dr, Nat.le_trans h.stp.size k.size, fun b hb hn => ?_, fun b hb hn => ?_⟩, h.low⟩
  · exact (k.blk b (Nat.lt_of_lt_of_le hb h.stp.size) (hx b hb hn)).trans (h.stp.blk b hb hn)
  · exact (k.st b (Nat.lt_of_lt_of_le hb h.stp.size) (hx b hb hn)).trans (h.stp.st b hb hn)
theorem FromL.step0 {L : List Nat} {σ τ ρ : GW} (h : FromL L σ τ) (k : Stp 0 τ ρ) : FromL L σ ρ := h.stepL (M := []) k.toL0 (by simp)
theorem FromL.step {L : List Nat} {m : Nat} {σ τ ρ : GW} (h : FromL L σ τ) (k : Stp m τ ρ) (hm : 2 ≤ m) : FromL L σ ρ := h.stepL (M := [m]) (k.toL (by simp)) (by simpa using hm)

def FnL (P : Program) (f : FuncId) (args : Array Value) (σ : GW) (L : List Nat) (R : Value → GW → Prop) : Prop :=
  Calls P f args σ.w fun e w' => ∃ v τ, τ.w = w' ∧ StpL L σ τ ∧ e = .returned v ∧ R v τ
def Low (L : List Nat) (σ : GW) : Prop := ∀ b, σ.st b ∉ L → σ.st b ≤ 1
def RetL (σ : GW) (L : List Nat) (R : Value → GW → Prop) (e : Ending) (w' : World) : Prop := ∃ v τ, τ.w = w' ∧ FromL L σ τ ∧ e = .returned v ∧ R v τ

theorem fn_introL {f : FuncId} {fn : Func} {c : Code} {N : Nat} {args : Array Value} {σ : GW} {L : List Nat} {R : Value → GW → Prop} (hσ : Low L σ) (hf : P.funcs[f]? = some fn) (hb : fn.body = some c) (hn : fn.ntmps = N) (ha : args.size ≤ N)
    (h : ∀ a, FromL L σ σ → Ok N a → (∀ i v, args.toList[i]? = some v → a.eval (.tmp i) = v) → c.wp P (bodyPost P fn (RetL σ L R)) a σ.w) : FnL P f args σ L R := by
  refine Calls.mono (calls_of_wp hf hb (h _ ⟨StpL.refl _ _, hσ⟩ ⟨by simp; omega, rfl⟩ fun i v hi => ?_)) ?_
  · have hi' : args[i]? = some v := by simpa using hi
    have hlt : i < args.size := (Array.getElem?_eq_some_iff.1 hi').1
    simp [Act.eval, Array.getD_eq_getD_getElem?, Array.getElem?_append, hlt]
    simpa [hlt] using hi'
  · rintro e w' ⟨v, τ, rfl, hF, rfl, hv⟩
    exact ⟨v, τ, rfl, hF.stp, rfl, hv⟩

theorem FnL.toC {f : FuncId} {args : Array Value} {σ : GW} {R : Ty} (h : FnL P f args σ.hush [] (fun v τ => R.has τ v)) : FnC P f args σ R := by
  refine Calls.mono (show Calls P f args σ.w _ from h) ?_
  rintro e w' ⟨v, τ, rfl, hs, rfl, hv⟩
  have hF : From σ.hush τ := ⟨hs.os, hs.tape, hs.output, hs.dr, hs.size, fun b hb => hs.blk b hb (by simp), fun b hb => by
    have := hs.st b hb (by simp)
    refine ⟨this, ?_⟩
    rw [this]; simp only [GW.hush]; split <;> omega⟩
  exact ⟨v, σ.back τ hF, rfl, σ.back_stp τ hF, rfl, R.up (σ.back_le τ hF) hv⟩
theorem Low.hush (σ : GW) : Low [] σ.hush := fun b _ => by simp only [GW.hush]; split <;> omega
theorem fn_intro0 {f : FuncId} {fn : Func} {c : Code} {N : Nat} {args : Array Value} {σ : GW} {R : Ty} (hf : P.funcs[f]? = some fn) (hb : fn.body = some c) (hn : fn.ntmps = N) (ha : args.size ≤ N)
    (h : ∀ σ0 a, σ.Le σ0 → FromL [] σ0 σ0 → Ok N a → (∀ i v, args.toList[i]? = some v → a.eval (.tmp i) = v) → c.wp P (bodyPost P fn (RetL σ0 [] (fun v τ => R.has τ v))) a σ0.w) : FnC P f args σ R :=
  (fn_introL (Low.hush σ) hf hb hn ha (fun a => h σ.hush a σ.le_hush)).toC

def renTag (l : List (Nat × Nat)) (k : Nat) : Nat := match l.lookup k with | some k' => k' | none => 0
theorem renTag_mem {l : List (Nat × Nat)} {k : Nat} (h : renTag l k ≠ 0) : (k, renTag l k) ∈ l := by
  unfold renTag at h ⊢
  cases e : l.lookup k with
  | none => simp [e] at h
  | some k' =>
    simp only
    rw [List.lookup_eq_some_iff] at e
    obtain ⟨l1, l2, rfl, _⟩ := e
    simp
def GW.lend (σ : GW) (l : List (Nat × Nat)) : GW := ⟨σ.w, fun b => if σ.st b = 1 then 1 else if σ.st b = 0 then 0 else renTag l (σ.st b), fun b h => σ.lt b (by intro e; simp [e] at h)⟩
theorem GW.le_lend (σ : GW) (l : List (Nat × Nat)) : σ.Le (σ.lend l) := ⟨fun b h => by simp [GW.lend, h], fun _ _ => rfl⟩
theorem GW.ren_lend (σ : GW) (l : List (Nat × Nat)) {k k' : Nat} (hk : 2 ≤ k) (h : l.lookup k = some k') : Ren k k' σ (σ.lend l) :=
  ⟨rfl, σ.le_lend l, fun b hb => by simp only [GW.lend]; rw [hb, if_neg (by omega), if_neg (by omega), renTag, h]⟩
theorem GW.low_lend (σ : GW) {l : List (Nat × Nat)} {L : List Nat} (h : ∀ x ∈ l, x.2 ∈ L) : Low L (σ.lend l) := by
  intro b hb
  simp only [GW.lend] at hb ⊢
  split
  · omega
  · rename_i h1
    rw [if_neg h1] at hb
    split
    · omega
    · rename_i h0
      rw [if_neg h0] at hb
      by_cases h2 : renTag l (σ.st b) = 0
      · omega
      · exact absurd (h _ (renTag_mem h2)) hb
def GW.took (σ : GW) (l n : List (Nat × Nat)) (τ : GW) (hsz : σ.w.heap.size ≤ τ.w.heap.size) : GW :=
  ⟨τ.w, fun b => if b < σ.w.heap.size ∧ (l.lookup (σ.st b)).isNone then σ.st b else if τ.st b = 1 then 1 else if τ.st b = 0 then 0 else renTag n (τ.st b), fun b h => by
    by_cases hb : b < σ.w.heap.size
    · omega
    · simp only [hb, false_and, if_false] at h
      refine τ.lt b ?_
      intro e; simp [e] at h⟩
structure Back (n : List (Nat × Nat)) (τ τ' : GW) : Prop where
  w : τ'.w = τ.w
  le : τ.Le τ'
  st : ∀ k k', 2 ≤ k → n.lookup k = some k' → ∀ b, τ.st b = k → τ'.st b = k'
theorem Back.ren {n : List (Nat × Nat)} {τ τ' : GW} (h : Back n τ τ') {k k' : Nat} (hk : 2 ≤ k) (e : n.lookup k = some k') : Ren k k' τ τ' := ⟨h.w, h.le, h.st k k' hk e⟩

theorem took_spec {σ τ : GW} {l n : List (Nat × Nat)} {L : List Nat} (hL : ∀ x ∈ l, x.2 ∈ L) (h2 : ∀ x ∈ l, 2 ≤ x.1 ∧ 2 ≤ x.2) (hl : ∀ x ∈ L, 2 ≤ x) (hs : StpL L (σ.lend l) τ) :
    StpL (l.map (·.1)) σ (σ.took l n τ hs.size) ∧ Back n τ (σ.took l n τ hs.size) := by
  have old : ∀ b, b < σ.w.heap.size → (l.lookup (σ.st b)).isNone → τ.w.heap[b]? = σ.w.heap[b]? ∧ τ.st b = (if σ.st b = 1 then 1 else 0) := by
    intro b hb hn
    have h0 : renTag l (σ.st b) = 0 := by
      unfold renTag
      cases e : l.lookup (σ.st b) with
      | none => rfl
      | some x => simp [e] at hn
    have hst : (σ.lend l).st b = if σ.st b = 1 then 1 else 0 := by simp only [GW.lend, h0]; simp
    have hn' : (σ.lend l).st b ∉ L := by
      rw [hst]; intro hm
      have := hl _ hm
      split at this <;> omega
    exact ⟨hs.blk b hb hn', (hs.st b hb hn').trans hst⟩
  have mem_none : ∀ b, σ.st b ∉ l.map (·.1) → (l.lookup (σ.st b)).isNone := by
    intro b hb
    cases e : l.lookup (σ.st b) with
    | none => rfl
    | some k =>
      exfalso
      rw [List.lookup_eq_some_iff] at e
      obtain ⟨l1, l2, e, _⟩ := e
      exact hb (List.mem_map.2 ⟨(σ.st b, k), by rw [e]; simp, rfl⟩)
  refine ⟨⟨hs.os, hs.tape, hs.output, hs.dr, hs.size, fun b hb hm => (old b hb (mem_none b hm)).1, fun b hb hm => ?_⟩, rfl, ⟨fun b hb => ?_, fun _ _ => rfl⟩, fun k k' hk e b hb => ?_⟩
  · show (if _ then _ else _) = _
    rw [if_pos ⟨hb, mem_none b hm⟩]
  · show (if _ then _ else _) = _
    split
    · rename_i hc
      have := (old b hc.1 hc.2).2
      rw [hb] at this
      split at this
      · assumption
      · cases this
    · simp [hb]
  · show (if _ then _ else _) = _
    split
    · rename_i hc
      have := (old b hc.1 hc.2).2
      split at this <;> omega
    · rw [hb, if_neg (by omega), if_neg (by omega), renTag, e]

def YldL (L : List Nat) (P : Program) (o : Oper) (a : Act) (σ : GW) (R : Value → GW → Prop) : Prop :=
  ∀ (K : Act → World → Prop) (Q : Exit → Act → World → Prop), (∀ v τ, StpL L σ τ → R v τ → K (a.put o.dst v) τ.w) → o.wp P a σ.w K Q
theorem YldM.toL {m : Nat} {o : Oper} {a : Act} {σ : GW} {R : Value → GW → Prop} (h : YldM m P o a σ R) : YldL [m] P o a σ R := fun K Q hk => h K Q fun v τ hs hr => hk v τ (hs.toL (by simp)) hr
theorem Yld.toL {o : Oper} {a : Act} {σ : GW} {R : Pr} (h : Yld P o a σ R) : YldL [] P o a σ (fun v τ => R.has τ v) := fun K Q hk => h K Q fun v τ hs hr => hk v τ hs.toL0 hr
theorem YldL.mono {L : List Nat} {o : Oper} {a : Act} {σ : GW} {R R' : Value → GW → Prop} (h : YldL L P o a σ R) (hr : ∀ v τ, R v τ → R' v τ) : YldL L P o a σ R' := fun K Q hk => h K Q fun v τ hs hv => hk v τ hs (hr v τ hv)

theorem tailL {L : List Nat} {N d : Nat} {ops : Array Oper} {Q : Exit → Act → World → Prop} {o : Oper} {rest : List Oper} {a : Act} {σ : GW} {R : Value → GW → Prop} (hg : o.guard = none) (hd : o.dst = some d) (hN : d < N) (ok : Ok N a) (hy : YldL L P o a σ R)
    (k : ∀ a' τ, StpL L σ τ → Ok N a' → R (a'.eval (.tmp d)) τ → (∀ t, t ≠ d → a'.eval (.tmp t) = a.eval (.tmp t)) → wpList P ops Q rest a' τ.w) : wpList P ops Q (o :: rest) a σ.w := by
  refine wpList_plain hg fun K hK => hy K Q fun v τ hs hr => hK _ _ ?_
  rw [hd]
  exact k _ τ hs (ok.put _ _) (by rw [eval_put_same ok hN]; exact hr) fun t ht => eval_put_ne (by simpa using Ne.symm ht) v
theorem tailL0 {L : List Nat} {ops : Array Oper} {Q : Exit → Act → World → Prop} {o : Oper} {rest : List Oper} {a : Act} {σ : GW} {R : Value → GW → Prop} (hg : o.guard = none) (hd : o.dst = none) (hy : YldL L P o a σ R)
    (k : ∀ v τ, StpL L σ τ → R v τ → wpList P ops Q rest a τ.w) : wpList P ops Q (o :: rest) a σ.w := by
  refine wpList_plain hg fun K hK => hy K Q fun v τ hs hr => hK _ _ ?_
  rw [hd]
  exact k v τ hs hr

variable {d : Option Tmp} {ty : TypeId} {pos : String} {af : Array Edge} {g : Option (Nat × Bool)} {a : Act} {σ : GW}
theorem y_callL {f : FuncId} {fn : Func} {xs : Array Operand} {tys : Array TypeId} {R : Value → GW → Prop} {L : List Nat} (l n : List (Nat × Nat)) (args : Array Value) (hL : l.map (·.2) = L) (h2 : ∀ x ∈ l, 2 ≤ x.1 ∧ 2 ≤ x.2)
    (hf : P.funcs[f]? = some fn) (hn : (fn.name == "runtime.NumGoroutine") = false) (hb : fn.body.isNone = false) (hargs : xs.map a.eval = args) (hc : FnL P f args (σ.lend l) L R) :
    YldL (l.map (·.1)) P ⟨d, .call ⟨.value (.func f), xs, tys⟩, ty, pos, af, g⟩ a σ (fun v τ' => ∃ τ, R v τ ∧ Back n τ τ') := by
  intro K Q hk
  have hr : (execOp a.eval ⟨d, .call ⟨.value (.func f), xs, tys⟩, ty, pos, af, g⟩).run P σ.w = .ok (.enter f args) σ.w := by
    have hn' : ¬ fn.name = "runtime.NumGoroutine" := by simpa using hn
    have hb' : ¬ fn.body = none := by intro e; simp [e] at hb
    simp only [execOp, resolve, hargs]
    simp [Act.eval, Deferred.ofValue, invoke, callFunc, hf, hn', hb', program, Sem.run, Sem.run_bind]
  unfold Oper.wp
  rw [hr]
  refine Calls.mono (show Calls P f args σ.w _ from hc) ?_
  rintro e w' ⟨v, τ, rfl, hs, rfl, hv⟩
  obtain ⟨h1, h3⟩ := took_spec (n := n) (fun x hx => by rw [← hL]; exact List.mem_map.2 ⟨x, hx, rfl⟩) h2 (fun x hx => by
    rw [← hL] at hx
    obtain ⟨y, hy, rfl⟩ := List.mem_map.1 hx
    exact (h2 y hy).2) hs
  exact hk v (σ.took l n τ hs.size) h1 ⟨τ, hv, h3⟩

theorem y_nilp {k : Nat} {x : Operand} {ts : List Ty} {v : Value} (h : OwnP σ k v ts) (hx : a.eval x = v) : Yld P ⟨d, .nilCheck x, ty, pos, af, g⟩ a σ (Ty.val v).pr := by
  obtain ⟨gg, e', cur, rfl, _⟩ := h
  exact Yld.of_run (v := .pointer (some ⟨gg, 0, none⟩)) (by simp only [execOp, hx]; simp [go_sem]) rfl
theorem ownp_cell {k : Nat} {v : Value} {ts : List Ty} {T : Ty} (j : Nat) (U : Ty) (h : OwnP σ k v ts) (e : ts[j]? = some T) (hTU : ∀ σ u, T.has σ u → U.has σ u) : OwnP σ k v (ts.set j U) := by
  obtain ⟨gg, e', cur, rfl, h2, h3, h4, h5⟩ := h
  refine ⟨gg, e', cur, rfl, h2, h3, by simpa using h4, fun i V u hV hu => ?_⟩
  by_cases hij : i = j
  · subst hij
    rw [List.getElem?_set_self (by exact (List.getElem?_eq_some_iff.1 e).1)] at hV
    cases hV
    exact hTU _ _ (h5 i T u e hu)
  · rw [List.getElem?_set_ne (Ne.symm hij)] at hV
    exact h5 i V u hV hu
end Go.KL
