/- Floats in a walk: NaNs all alike. -/
import Derived.Test.YtmeijdkjccfpmaaTopStruckK1
import Derived.Laws.BitsAllLaws
import Derived.Laws.Externs
import GoSem.Extern.MathFloatBits
import GoSem.Extern.MathSqrt
import Derived.Lib.DecodeN
namespace Go.KL
open Ieee
/-! ### No operation writes a NaN of itself -/
theorem cn_le {b : Nat} (h : b % 9223372036854775808 ≤ 9218868437227405312) : cn b = some b := by
  unfold cn
  rw [if_neg]
  rw [read_eq]
  split
  · simp [Datum.isNaN]
  · split
    · simp [Datum.isNaN]
    · split
      · simp [Datum.isNaN]
      · omega
theorem cn_gt {b : Nat} (h : 9218868437227405312 < b % 9223372036854775808) : cn b = none := by
  unfold cn
  rw [if_pos]
  rw [read_eq, if_neg (by omega), if_neg (by omega), if_neg (by omega)]; rfl
theorem cn_word (s : Bool) {r : Nat} (h : r ≤ 9218868437227405312) : cn (Ieee.double.word s r) = some (Ieee.double.word s r) := by
  apply cn_le
  rw [word_eq]
  split <;> omega
theorem cn_write {d : Datum} (h : d.isNaN = false) : cn (Ieee.double.write d) = some (Ieee.double.write d) := by
  cases d with
  | number s m i =>
    show cn (Ieee.double.nearest s m i) = some (Ieee.double.nearest s m i)
    unfold Format.nearest
    split
    · exact cn_word s (by omega)
    · simp only []
      refine cn_word s ?_
      rw [← infR_eq]; exact Nat.min_le_right _ _
  | infinity s => exact cn_word s (by rw [infR_eq]; omega)
  | nan s f => cases h
theorem sum_num {x y d : Datum} (h : x.sum y = some d) : d.isNaN = false ∧ x.isNaN = false ∧ y.isNaN = false := by
  cases x <;> cases y <;> simp only [Datum.sum] at h <;> (try cases h) <;> (try (split at h <;> cases h)) <;> simp [Datum.isNaN]
theorem opp_nan (x : Datum) : x.opposite.isNaN = x.isNaN := by cases x <;> rfl
theorem prod_num {x y d : Datum} (h : x.product y = some d) : d.isNaN = false ∧ x.isNaN = false ∧ y.isNaN = false := by
  cases x <;> cases y <;> simp only [Datum.product] at h <;> (try cases h) <;> (try (split at h <;> cases h)) <;> simp [Datum.isNaN]
theorem quo_num {k : Nat} {x y d : Datum} (h : x.quotient k y = some d) : d.isNaN = false ∧ x.isNaN = false ∧ y.isNaN = false := by
  cases x <;> cases y <;> simp only [Datum.quotient] at h <;> (try cases h) <;> (try (split at h <;> (try split at h) <;> cases h)) <;> simp [Datum.isNaN]
theorem root_num {k : Nat} {x d : Datum} (h : x.root k = some d) : d.isNaN = false ∧ x.isNaN = false := by
  cases x <;> simp only [Datum.root] at h <;> (try cases h) <;> (try (split at h <;> (try split at h) <;> cases h)) <;> simp [Datum.isNaN]
theorem cn_num {b : Nat} (h : (Ieee.double.read b).isNaN = false) : cn b = some b := by unfold cn; rw [if_neg (by rw [h]; decide)]
def fop (op : BinOp) (x y : FV) : FV := x.bind fun a => y.bind fun b => floatBits op .f64 a b
theorem fb_some {op : BinOp} {a b r : Nat} (h : floatBits op .f64 a b = some r) : cn a = some a ∧ cn b = some b ∧ cn r = some r ∧ r < 18446744073709551616 := by
  have hw := floatBits_wf h
  have hlt : r < 18446744073709551616 := by simpa [Lit.wf] using hw
  have key : ∀ {f : Option Datum}, f.map Ieee.double.write = some r → ∃ d, f = some d ∧ r = Ieee.double.write d := fun {f} e => by
    cases f with
    | none => cases e
    | some d => exact ⟨d, rfl, by cases e; rfl⟩
  unfold floatBits at h
  split at h
  · obtain ⟨d, e, rfl⟩ := key (f := (Ieee.double.read a).sum (Ieee.double.read b)) h
    obtain ⟨h1, h2, h3⟩ := sum_num e
    exact ⟨cn_num h2, cn_num h3, cn_write h1, hlt⟩
  · obtain ⟨d, e, rfl⟩ := key (f := (Ieee.double.read a).sum (Ieee.double.read b).opposite) h
    obtain ⟨h1, h2, h3⟩ := sum_num e
    rw [opp_nan] at h3
    exact ⟨cn_num h2, cn_num h3, cn_write h1, hlt⟩
  · obtain ⟨d, e, rfl⟩ := key (f := (Ieee.double.read a).product (Ieee.double.read b)) h
    obtain ⟨h1, h2, h3⟩ := prod_num e
    exact ⟨cn_num h2, cn_num h3, cn_write h1, hlt⟩
  · obtain ⟨d, e, rfl⟩ := key (f := (Ieee.double.read a).quotient (Ieee.double.fractionBits + 2) (Ieee.double.read b)) h
    obtain ⟨h1, h2, h3⟩ := quo_num e
    exact ⟨cn_num h2, cn_num h3, cn_write h1, hlt⟩
  · cases h
theorem nan_draw (t : Nat) : (t % 2) * 2 ^ 63 + 0x7ff0000000000000 + 1 + (t / 2) % (2 ^ 52 - 1) < 18446744073709551616 ∧ cn ((t % 2) * 2 ^ 63 + 0x7ff0000000000000 + 1 + (t / 2) % (2 ^ 52 - 1)) = none := by
  have h1 := Nat.mod_lt t (show 0 < 2 by decide)
  have h2 := Nat.mod_lt (t / 2) (show 0 < 2 ^ 52 - 1 by decide)
  refine ⟨by omega, cn_gt ?_⟩
  generalize t / 2 % (2 ^ 52 - 1) = m at h2
  have h3 : t % 2 = 0 ∨ t % 2 = 1 := by omega
  rcases h3 with h3 | h3 <;> rw [h3] <;> omega
section
variable {P : Program}
theorem run_fop {op : BinOp} (hop : op = .add ∨ op = .sub ∨ op = .mul ∨ op = .quo) (t : TypeId) (w : World) (a b : Nat) :
    ∃ r w', (binOp op t (.float .f64 a) (.float .f64 b)).run P w = .ok (.float .f64 r) w' ∧ (w' = w ∨ w' = w.drew) ∧ r < 18446744073709551616 ∧ cn r = fop op (cn a) (cn b) := by
  cases h : floatBits op .f64 a b with
  | some r =>
    obtain ⟨h1, h2, h3, h4⟩ := fb_some h
    exact ⟨r, w, run_float_arith w op t .f64 a b r h, .inl rfl, h4, by rw [h1, h2, h3]; exact h.symm⟩
  | none =>
    obtain ⟨h1, h2⟩ := nan_draw (w.tape w.drawn (.nanBits .f64 a b))
    refine ⟨_, w.drew, ?_, .inr rfl, h1, ?_⟩
    · unfold floatBits at h
      rcases hop with rfl | rfl | rfl | rfl <;> (simp only at h; simp [binOp, Op.floatArith, h, Question.forced, Question.cut])
    · rw [h2]
      unfold fop
      cases ha : cn a with
      | none => rfl
      | some a' =>
        cases hb : cn b with
        | none => rfl
        | some b' =>
          have ea : a' = a := by unfold cn at ha; split at ha <;> cases ha; rfl
          have eb : b' = b := by unfold cn at hb; split at hb <;> cases hb; rfl
          subst ea; subst eb
          exact h.symm
end
def fadd (x y : FV) : FV := fop .add x y
def fsub (x y : FV) : FV := fop .sub x y
def fmul (x y : FV) : FV := fop .mul x y
def fdiv (x y : FV) : FV := fop .quo x y
def ford (x y : FV) : Option Ordering := x.bind fun a => y.bind fun b => Ieee.double.order a b
def fEq (x y : FV) : Bool := ford x y == some .eq
def fNe (x y : FV) : Bool := ford x y != some .eq
def fLt (x y : FV) : Bool := ford x y == some .lt
def fLe (x y : FV) : Bool := ford x y == some .lt || ford x y == some .eq
def fGe (x y : FV) : Bool := ford x y == some .gt || ford x y == some .eq
def fint (n : Int) : FV := some (floatOfInt .f64 n)
def fabs (x : FV) : FV := x.map (· % 9223372036854775808)
def fsqrt (x : FV) : FV := x.bind fun a => Ieee.double.sqrt a
theorem cn_some {b c : Nat} (h : cn b = some c) : c = b ∧ (Ieee.double.read b).isNaN = false := by
  unfold cn at h
  split at h
  · cases h
  · rename_i hn
    exact ⟨by cases h; rfl, by simpa using hn⟩
theorem cn_none {b : Nat} (h : cn b = none) : (Ieee.double.read b).isNaN = true := by
  unfold cn at h
  split at h
  · assumption
  · cases h
theorem ord_cn (a b : Nat) : Ieee.double.order a b = ford (cn a) (cn b) := by
  unfold ford
  cases ha : cn a with
  | none =>
    have := cn_none ha
    unfold Format.order
    cases hr : Ieee.double.read a <;> rw [hr] at this <;> simp [Datum.isNaN] at this
    simp [Datum.order]
  | some a' =>
    obtain ⟨rfl, _⟩ := cn_some ha
    cases hb : cn b with
    | none =>
      have := cn_none hb
      unfold Format.order
      cases hr : Ieee.double.read b <;> rw [hr] at this <;> simp [Datum.isNaN] at this
      cases Ieee.double.read a' <;> simp [Datum.order]
    | some b' =>
      obtain ⟨rfl, _⟩ := cn_some hb
      rfl
def Ty.flt (o : FV) : Ty := ⟨fun _ u => ∃ b, u = .float .f64 b ∧ b < 18446744073709551616 ∧ cn b = o, fun _ h => h⟩
theorem one_flt {o : FV} : One (.flt o) := fun _ u ⟨_, e, _⟩ => by rw [e]; rfl
theorem flt_zero {σ : GW} : (Ty.flt (some 0)).has σ (.float .f64 0) := ⟨0, rfl, by decide, by decide +kernel⟩
theorem flt_const {σ : GW} {b : Nat} (h : b < 18446744073709551616) (h2 : b % 9223372036854775808 ≤ 9218868437227405312) : (Ty.flt (some b)).has σ (.float .f64 b) := ⟨b, rfl, h, cn_le h2⟩
theorem cvf {σ : GW} {x y : FV} {v : Value} (h : x = y) (k : (Ty.flt x).has σ v) : (Ty.flt y).has σ v := h ▸ k
section
variable {P : Program} {d : Option Tmp} {ty : TypeId} {pos : String} {af : Array Edge} {g : Option (Nat × Bool)} {a : Act} {σ : GW} {t u : TypeId} {x y : Operand} {p q : FV}
theorem y_fop {op : BinOp} (hop : op = .add ∨ op = .sub ∨ op = .mul ∨ op = .quo) (hx : At (.flt p) σ a x) (hy : At (.flt q) σ a y) : Yld P ⟨d, .binOp op t x y u, ty, pos, af, g⟩ a σ (Ty.flt (fop op p q)).pr := by
  obtain ⟨ba, ea, la, ca⟩ := hx
  obtain ⟨bb, eb, lb, cb⟩ := hy
  obtain ⟨r, w', hr, hw, hl, hc⟩ := run_fop (P := P) hop t σ.w ba bb
  intro K Q hk
  have hr' : (execOp a.eval ⟨d, .binOp op t x y u, ty, pos, af, g⟩).run P σ.w = .ok (.value (.float .f64 r)) w' := by
    simp only [execOp, ea, eb]
    rcases hop with rfl | rfl | rfl | rfl <;> simp [eqGuard, hr]
  unfold Oper.wp
  rw [hr']
  rcases hw with rfl | rfl
  · exact hk _ σ (Stp.refl _ _) ⟨r, rfl, hl, by rw [hc, ca, cb]⟩
  · exact hk _ σ.drew (Stp.drew _) ⟨r, rfl, hl, by rw [hc, ca, cb]⟩
theorem y_fadd (hx : At (.flt p) σ a x) (hy : At (.flt q) σ a y) : Yld P ⟨d, .binOp .add t x y u, ty, pos, af, g⟩ a σ (Ty.flt (fadd p q)).pr := y_fop (.inl rfl) hx hy
theorem y_fsub (hx : At (.flt p) σ a x) (hy : At (.flt q) σ a y) : Yld P ⟨d, .binOp .sub t x y u, ty, pos, af, g⟩ a σ (Ty.flt (fsub p q)).pr := y_fop (.inr (.inl rfl)) hx hy
theorem y_fmul (hx : At (.flt p) σ a x) (hy : At (.flt q) σ a y) : Yld P ⟨d, .binOp .mul t x y u, ty, pos, af, g⟩ a σ (Ty.flt (fmul p q)).pr := y_fop (.inr (.inr (.inl rfl))) hx hy
theorem y_fquo (hx : At (.flt p) σ a x) (hy : At (.flt q) σ a y) : Yld P ⟨d, .binOp .quo t x y u, ty, pos, af, g⟩ a σ (Ty.flt (fdiv p q)).pr := y_fop (.inr (.inr (.inr rfl))) hx hy
section
variable (hx : At (.flt p) σ a x) (hy : At (.flt q) σ a y)
include hx hy
theorem y_fneq : Yld P ⟨d, .binOp .neq t x y u, ty, pos, af, g⟩ a σ (Ty.bool (fNe p q)).pr := by
  obtain ⟨ba, ea, la, rfl⟩ := hx
  obtain ⟨bb, eb, lb, rfl⟩ := hy
  exact Yld.of_run (v := .bool (Ieee.double.order ba bb != some .eq)) (by simp only [execOp, ea, eb]; simp [go_sem, eqGuard, FloatKind.format]) (by rw [ord_cn]; rfl)
theorem y_flss : Yld P ⟨d, .binOp .lss t x y u, ty, pos, af, g⟩ a σ (Ty.bool (fLt p q)).pr := by
  obtain ⟨ba, ea, la, rfl⟩ := hx
  obtain ⟨bb, eb, lb, rfl⟩ := hy
  exact Yld.of_run (v := .bool (Ieee.double.order ba bb == some .lt)) (by simp only [execOp, ea, eb]; simp [go_sem, eqGuard, FloatKind.format]) (by rw [ord_cn]; rfl)
theorem y_fleq : Yld P ⟨d, .binOp .leq t x y u, ty, pos, af, g⟩ a σ (Ty.bool (fLe p q)).pr := by
  obtain ⟨ba, ea, la, rfl⟩ := hx
  obtain ⟨bb, eb, lb, rfl⟩ := hy
  exact Yld.of_run (v := .bool (Ieee.double.order ba bb == some .lt || Ieee.double.order ba bb == some .eq)) (by simp only [execOp, ea, eb]; simp [go_sem, eqGuard, FloatKind.format]) (by rw [ord_cn]; rfl)
theorem y_fgeq : Yld P ⟨d, .binOp .geq t x y u, ty, pos, af, g⟩ a σ (Ty.bool (fGe p q)).pr := by
  obtain ⟨ba, ea, la, rfl⟩ := hx
  obtain ⟨bb, eb, lb, rfl⟩ := hy
  exact Yld.of_run (v := .bool (Ieee.double.order ba bb == some .gt || Ieee.double.order ba bb == some .eq)) (by simp only [execOp, ea, eb]; simp [go_sem, eqGuard, FloatKind.format]) (by rw [ord_cn]; rfl)
end
theorem fint_cn (n : Int) : floatOfInt .f64 n < 18446744073709551616 ∧ cn (floatOfInt .f64 n) = fint n := by
  have h := floatOfInt_wf .f64 n
  exact ⟨by simpa [Lit.wf] using h, cn_write (d := .number (n < 0) n.natAbs 0) rfl⟩
theorem y_fint {n : Int} {k : IntKind} {src dst : TypeId} (hs : (P.underlying src).isSome = true) (hd : P.underlying dst = some (.float .f64)) (hx : a.eval x = .int k n) : Yld P ⟨d, .convert src dst x, ty, pos, af, g⟩ a σ (Ty.flt (fint n)).pr :=
  Yld.of_run (v := .float .f64 (floatOfInt .f64 n)) (by simp only [execOp, hx]; simp [run_convert_int_float σ.w src dst k .f64 n hs hd]) ⟨_, rfl, (fint_cn n).1, (fint_cn n).2⟩
theorem sqrt_ext (b : Nat) : Extern.MathSqrt.sqrt #[.float .f64 b] = (match Ieee.double.sqrt b with | some r => pure (.float .f64 r) | none => do pure (.float .f64 (← choose (.nanBits .f64 b b)))) := rfl
theorem y_fsqrt {f : FuncId} {tys : Array TypeId} (hf : ∀ args w, (callFunc f args).run P w = ((Extern.MathSqrt.sqrt args).run P w).andThen fun v w' => .ok (.value v) w') (hx : At (.flt p) σ a x) :
    Yld P ⟨d, .call ⟨.value (.func f), #[x], tys⟩, ty, pos, af, g⟩ a σ (Ty.flt (fsqrt p)).pr := by
  obtain ⟨b, e, hb, rfl⟩ := hx
  have hrun : ∃ r w', (callFunc f #[.float .f64 b]).run P σ.w = .ok (.value (.float .f64 r)) w' ∧ (w' = σ.w ∨ w' = σ.w.drew) ∧ r < 18446744073709551616 ∧ cn r = fsqrt (cn b) := by
    rw [hf #[.float .f64 b] σ.w, sqrt_ext]
    cases h : Ieee.double.sqrt b with
    | some r =>
      have hlt : r < 18446744073709551616 := Ieee.Format.sqrt_lt _ h
      have h2 : ∃ d, (Ieee.double.read b).root (Ieee.double.fractionBits + 2) = some d ∧ r = Ieee.double.write d := by
        unfold Format.sqrt at h
        cases e2 : (Ieee.double.read b).root (Ieee.double.fractionBits + 2) with
        | none => rw [e2] at h; cases h
        | some d => rw [e2] at h; exact ⟨d, rfl, by cases h; rfl⟩
      obtain ⟨d, e2, rfl⟩ := h2
      obtain ⟨h3, h4⟩ := root_num e2
      exact ⟨_, σ.w, rfl, .inl rfl, hlt, by rw [cn_write h3, cn_num h4]; exact h.symm⟩
    | none =>
      obtain ⟨h1, h2⟩ := nan_draw (σ.w.tape σ.w.drawn (.nanBits .f64 b b))
      refine ⟨_, σ.w.drew, by simp [Question.forced, Question.cut], .inr rfl, h1, ?_⟩
      rw [h2]
      cases hc : cn b with
      | none => rfl
      | some b' =>
        obtain ⟨rfl, _⟩ := cn_some hc
        exact h.symm
  obtain ⟨r, w', hr, hw, hl, hc⟩ := hrun
  intro K Q hk
  have hr' : (execOp a.eval ⟨d, .call ⟨.value (.func f), #[x], tys⟩, ty, pos, af, g⟩).run P σ.w = .ok (.value (.float .f64 r)) w' := by
    simp only [execOp, resolve, List.map_toArray, List.map_cons, List.map_nil, e]
    simp only [Act.eval, Deferred.ofValue, Sem.run_bind, Sem.run_pure, Result.andThen_ok]
    simpa [invoke] using hr
  unfold Oper.wp
  rw [hr']
  rcases hw with rfl | rfl
  · exact hk _ σ (Stp.refl _ _) ⟨r, rfl, hl, hc⟩
  · exact hk _ σ.drew (Stp.drew _) ⟨r, rfl, hl, hc⟩
end
end Go.KL
namespace Go.KL
theorem flt_of {σ : GW} {b : Nat} {v : Value} (h : b < 18446744073709551616) (h2 : b % 9223372036854775808 ≤ 9218868437227405312) (k : (Ty.val (.float .f64 b)).has σ v) : (Ty.flt (some b)).has σ v := by
  have e : v = .float .f64 b := k
  rw [e]; exact flt_const h h2
abbrev BBlow := Int × FV
abbrev SFV := FV × FV
def B0 : BBlow := (0, some 0)
def S0 : SFV := (some 0, some 0)
def blowC (p : BBlow) : List Ty := [Ty.int p.1, Ty.flt p.2]
def sumC (p : SFV) : List Ty := [Ty.flt p.1, Ty.flt p.2]
theorem blowOne : ∀ x, ∀ U ∈ blowC x, One U := fun x U hU => by
  simp only [blowC, List.mem_cons, List.not_mem_nil, or_false] at hU
  rcases hU with rfl | rfl
  · exact one_val rfl
  · exact one_flt
def addS (s : SFV) (x : FV) : SFV := (fadd s.1 x, fadd s.2 (if fGe (fabs s.1) (fabs x) = true then fadd (fsub s.1 (fadd s.1 x)) x else fadd (fsub x (fadd s.1 x)) s.1))
def valS (s : SFV) : FV := fadd s.1 s.2
def beatN (k n : Nat) : Nat := k + k / (2 * n)
end Go.KL
namespace Go.KL
def Ty.fbits (o : FV) : Ty := ⟨fun _ u => ∃ b : Nat, u = .int .u64 b ∧ b < 18446744073709551616 ∧ cn b = o, fun _ h => h⟩
theorem cn_abs {b : Nat} : cn (b % 9223372036854775808) = fabs (cn b) := by
  have hm : b % 9223372036854775808 % 9223372036854775808 = b % 9223372036854775808 := Nat.mod_mod _ _
  by_cases h : b % 9223372036854775808 ≤ 9218868437227405312
  · rw [cn_le h, cn_le (by rw [hm]; exact h)]; rfl
  · rw [cn_gt (by omega : 9218868437227405312 < b % 9223372036854775808), cn_gt (by rw [hm]; omega)]; rfl
section
variable {P : Program} {d : Option Tmp} {ty : TypeId} {pos : String} {af : Array Edge} {g : Option (Nat × Bool)} {a : Act} {σ : GW} {t u : TypeId} {x y : Operand} {p : FV} {f : FuncId} {tys : Array TypeId}
theorem y_fbits (hf : ∀ args w, (callFunc f args).run P w = ((Extern.MathFloatBits.float64bits args).run P w).andThen fun v w' => .ok (.value v) w') (hx : At (.flt p) σ a x) :
    Yld P ⟨d, .call ⟨.value (.func f), #[x], tys⟩, ty, pos, af, g⟩ a σ (Ty.fbits p).pr := by
  obtain ⟨b, e, hb, rfl⟩ := hx
  have hr : (callFunc f #[.float .f64 b]).run P σ.w = .ok (.value (.int .u64 (b : Int))) σ.w := by rw [hf #[.float .f64 b] σ.w]; rfl
  refine Yld.of_run (v := .int .u64 (b : Int)) ?_ ⟨b, rfl, hb, rfl⟩
  simp only [execOp, resolve, List.map_toArray, List.map_cons, List.map_nil, e]
  simp only [Act.eval, Deferred.ofValue, Sem.run_bind, Sem.run_pure, Result.andThen_ok]
  simpa [invoke] using hr
theorem y_fofbits (hf : ∀ args w, (callFunc f args).run P w = ((Extern.MathFloatBits.float64frombits args).run P w).andThen fun v w' => .ok (.value v) w') (hx : At (.fbits p) σ a x) :
    Yld P ⟨d, .call ⟨.value (.func f), #[x], tys⟩, ty, pos, af, g⟩ a σ (Ty.flt p).pr := by
  obtain ⟨b, e, hb, rfl⟩ := hx
  have hr : (callFunc f #[.int .u64 (b : Int)]).run P σ.w = .ok (.value (.float .f64 b)) σ.w := by rw [hf #[.int .u64 (b : Int)] σ.w]; rfl
  refine Yld.of_run (v := .float .f64 b) ?_ ⟨b, rfl, hb, rfl⟩
  simp only [execOp, resolve, List.map_toArray, List.map_cons, List.map_nil, e]
  simp only [Act.eval, Deferred.ofValue, Sem.run_bind, Sem.run_pure, Result.andThen_ok]
  simpa [invoke] using hr
theorem y_fnosign (hx : At (.fbits p) σ a x) (hy : a.eval y = .int .u64 9223372036854775808) : Yld P ⟨d, .binOp .andNot t x y u, ty, pos, af, g⟩ a σ (Ty.fbits (fabs p)).pr := by
  obtain ⟨b, ex, hb, rfl⟩ := hx
  have e : bits .andNot .u64 (b : Int) 9223372036854775808 = ((b % 9223372036854775808 : Nat) : Int) := by
    rw [u64_andNot (b : Int) 9223372036854775808 (by omega) (by omega) (by decide) (by decide)]
    congr 1
    rw [Int.toNat_natCast]
    show b &&& 9223372036854775807 = b % 9223372036854775808
    exact Nat.and_two_pow_sub_one_eq_mod b 63
  exact Yld.of_run (v := .int .u64 ((b % 9223372036854775808 : Nat) : Int)) (by simp only [execOp, ex, hy]; simp only [go_sem, e]; try rfl) ⟨_, rfl, by omega, cn_abs⟩
end
end Go.KL
namespace Go.KL
section
variable {xs : List FV} {k : Nat}
theorem add_succ (h : k < xs.length) : (xs.take (k + 1)).foldl addS S0 = addS ((xs.take k).foldl addS S0) (xs.getD k (some 0)) := by
  rw [List.take_add_one, List.foldl_append, List.getD_eq_getElem?_getD, List.getElem?_eq_getElem h]; rfl
end
end Go.KL

/- Runes as the document reads them: -1 for a byte that is none. -/
namespace Go.KL
section
variable {s : ByteArray} (h128 : ¬ (s.get! 0).toNat < 128)
include h128 in
end
/-! ### All runes of a text -/
end Go.KL

/- What the law RowSays wants beside: cycles as the document finds them, text by signs. -/
namespace Go.KL
end Go.KL

/- Patterns of bells: the maths. -/
namespace Go.KL
/-! ### Signs -/
/-! ### Ahead of the star and behind it -/
/-! ### What was seen -/
/-! ### Like a pattern -/
/-! ### Steps -/
/-! ### A pattern that may be -/
/-! ### The walks of Like and fits -/
end Go.KL

/- Results of which the first lies in a struct's variable. -/
namespace Go.KL
open Go.RowKit
variable {P : Program} {fn : Func} {σ0 σ : GW} {a : Act} {N d e f : Nat} {D : List Deferred} {L : List Nat} {R : Value → GW → Prop}
theorem run_cell {t k : Nat} {T : TypeId} {fs : Array Field} {z : Value} {by_ : Nat} {ts : List Ty} (hT : P.underlying T = some (.struct fs)) (he : Info P T z ts.length by_) (h : OwnP σ k (a.eval (.tmp t)) ts) :
    ∃ ad cur, a.tmps.getD t undef = .pointer (some ad) ∧ (loadVar T ad).run P σ.w = .ok (.agg cur) σ.w ∧ (Ty.agg ts).has σ (.agg cur) := by
  obtain ⟨gg, e', cur, e1, h2, h3, h4, h5⟩ := h
  have hl := run_loadVar (P := P) hT he (w := σ.w) (ad := ⟨gg, 0, none⟩) (us := cur.toList) (by simp [h4]) (fun j u hj => by
    rw [Addr.add_lit, Nat.zero_add]
    simp at hj
    simp [World.cell?, h3, hj])
  exact ⟨_, cur, e1, by simpa using hl, cur, rfl, h4, h5⟩
theorem retL2c {t k : Nat} {T : TypeId} {fs : Array Field} {z : Value} {by_ : Nat} {ts : List Ty} (hr : fn.results = #[.cell t T, .tmp e]) (ok : Ok N [] a) (hF : FromL L σ0 σ) (hT : P.underlying T = some (.struct fs)) (he : Info P T z ts.length by_) (h : OwnP σ k (a.eval (.tmp t)) ts)
    (hR : ∀ v, (Ty.agg ts).has σ v → R (.tuple #[v, a.eval (.tmp e)]) σ) : bodyPost P fn (RetL σ0 L R) .ret a σ.w := by
  obtain ⟨ad, cur, e2, hl, hv⟩ := run_cell hT he h
  refine bodyPost_ret (v := .tuple #[.agg cur, a.eval (.tmp e)]) ?_ ok.defers ⟨_, σ, rfl, hF, rfl, hR _ hv⟩
  have e3 : a.tmps[t]?.getD undef = .pointer (some ad) := by rw [← e2, Array.getD_eq_getD_getElem?]
  simp [results, hr, e3, asAddr, hl, Act.eval]
theorem nil_has {α : Type} {f : α → Ty} {xs : List α} {σ : GW} (e : xs = []) : (Ty.lst f xs).has σ (.slice none 0 0) := by subst e; exact sl_nil
end Go.KL

/- How many rows are like patterns. -/
namespace Go.KL
abbrev Ty.str (s : ByteArray) : Ty := Ty.val (.string s)
end Go.KL

/- Rows whose elements are structs of c cells. -/
namespace Go.KL
open Go.RowKit
variable {P : Program} {d : Option Tmp} {ty : TypeId} {pos : String} {af : Array Edge} {g : Option (Nat × Bool)} {a : Act} {σ : GW}
abbrev Ty.lstc {α : Type} (c : Nat) (F : α → List Ty) (xs : List α) : Ty := Ty.sl c xs.length (xs.flatMap F)
theorem flat_get {α : Type} {c : Nat} {F : α → List Ty} (hF : ∀ x, (F x).length = c) (dd : α) : ∀ {xs : List α} {i : Nat}, i < xs.length → ∀ j, j < c → (xs.flatMap F)[i * c + j]? = (F (xs.getD i dd))[j]?
  | [], i, h, _, _ => by simp at h
  | x :: xs, 0, _, j, hj => by
    rw [List.flatMap_cons, Nat.zero_mul, Nat.zero_add, List.getElem?_append_left (by rw [hF]; exact hj)]
    simp
  | x :: xs, i + 1, h, j, hj => by
    rw [List.flatMap_cons, List.getElem?_append_right (by rw [hF, Nat.succ_mul]; omega), hF, show (i + 1) * c + j - c = i * c + j by rw [Nat.succ_mul]; omega, flat_get hF dd (by simpa using h) j hj]
    simp
theorem y_indexc {α : Type} {c : Nat} {F : α → List Ty} {xs : List α} (dd : α) {x y : Operand} {t e : TypeId} {z : Value} {b : Nat} {k : IntKind} {i : Int} (ht : P.underlying t = some (.slice e)) (he : Info P e z c b)
    (hx : At (Ty.lstc c F xs) σ a x) (hy : a.eval y = .int k i) (h0 : 0 ≤ i) (h1 : i.toNat < xs.length) (hc : 0 < c) (hF : ∀ x, (F x).length = c) :
    Yld P ⟨d, .indexAddr t x y, ty, pos, af, g⟩ a σ (Ty.ref (F (xs.getD i.toNat dd))).pr :=
  y_indexAddr ht he hx hy h0 (by omega) hc (fun j hj => flat_get hF dd h1 j hj) (hF _)
theorem fold_set : ∀ (vs : List Value) (o : Nat) (cur : Array Value), o + vs.length ≤ cur.size → ((vs.zipIdx o).foldl (fun (q : Array Value) (p : Value × Nat) => q.setIfInBounds p.2 p.1) cur).size = cur.size ∧
      (∀ j, j < vs.length → ((vs.zipIdx o).foldl (fun (q : Array Value) (p : Value × Nat) => q.setIfInBounds p.2 p.1) cur)[o + j]? = vs[j]?) ∧ ∀ i, i < o → ((vs.zipIdx o).foldl (fun (q : Array Value) (p : Value × Nat) => q.setIfInBounds p.2 p.1) cur)[i]? = cur[i]?
  | [], o, cur, _ => ⟨rfl, fun j hj => by simp at hj, fun i _ => rfl⟩
  | v :: vs, o, cur, h => by
    simp only [List.length_cons] at h
    obtain ⟨k1, k2, k3⟩ := fold_set vs (o + 1) (cur.setIfInBounds o v) (by simp; omega)
    simp only [List.zipIdx_cons, List.foldl_cons]
    refine ⟨by rw [k1]; simp, fun j hj => ?_, fun i hi => ?_⟩
    · cases j with
      | zero =>
        have := k3 o (by omega)
        rw [Array.getElem?_setIfInBounds_self_of_lt (by omega)] at this
        simpa using this
      | succ j =>
        have := k2 j (by simpa using hj)
        rw [show o + (j + 1) = o + 1 + j by omega, this]; simp
    · rw [k3 i (by omega), Array.getElem?_setIfInBounds_ne (by omega)]
theorem fold_whole {cs z : Array Value} (h : z.size = cs.size) : (cs.zipIdx.foldl (fun (q : Array Value) (p : Value × Nat) => q.setIfInBounds p.2 p.1) z) = cs := by
  rw [← Array.foldl_toList, Array.toList_zipIdx]
  obtain ⟨k1, k2, _⟩ := fold_set cs.toList 0 z (by simp [h])
  refine Array.ext (by rw [k1, h]) fun j h1 h2 => ?_
  have := k2 j (by simpa using h2)
  rw [Nat.zero_add] at this
  simp only [Array.getElem?_toList] at this
  rw [Array.getElem?_eq_getElem h1, Array.getElem?_eq_getElem h2] at this
  exact Option.some.inj this
theorem y_build1c {c : Nat} {x : Operand} {t e : TypeId} {ts : List Ty} {z : Value} {b : Nat} (ht : P.underlying t = some (.slice e)) (he : Info P e z c b) (hz : z.cells.size = c) (hc : 0 < c) (hc2 : c ≤ 16777216) (hl : ts.length = c) (hx : At (.agg ts) σ a x) :
    Yld P ⟨d, .buildSlice t 1 #[(0, x)], ty, pos, af, g⟩ a σ (Ty.sl c 1 ts).pr := by
  obtain ⟨cs, e1, hcs, hcl⟩ := hx
  have hsz : cs.size = c := by omega
  intro K Q hk
  have hr : (execOp a.eval ⟨d, .buildSlice t 1 #[(0, x)], ty, pos, af, g⟩).run P σ.w = .ok (.value (.slice (some ⟨σ.w.heap.size, 0, none⟩) 1 1)) (σ.w.alloc (.cells cs e)) := by
    simp only [execOp, List.map_toArray, List.map_cons, List.map_nil, e1]
    have hw : ∀ q : Array Value, q.size = c → cs.zipIdx.foldl (fun (q : Array Value) (p : Value × Nat) => q.setIfInBounds p.2 p.1) q = cs := fun q hq => fold_whole (by omega)
    have h1 : ¬ c > 16777216 := by omega
    have h2 : ¬ c = 0 := by omega
    simp [Instr.buildSlice, run_underlying ht, he.size, he.zero, Instr.fill, Value.cells, hsz, h2, newRow, newObj, Sem.run, Sem.run_bind, show ¬ 16777216 < c by omega]
    generalize hq : Array.map _ (Array.range c) = q
    have hqs : q.size = c := by rw [← hq]; simp
    have h5 := hw q hqs
    simp only [Array.size_zipIdx] at h5
    first | rw [h5] | (rw [hsz] at h5; rw [h5])
  unfold Oper.wp
  rw [hr]
  refine hk _ (σ.seal (.cells cs e)) (Stp.seal _ _) ⟨_, 1, σ.w.heap.size, 0, rfl, ⟨Nat.le_refl _, by decide⟩, by omega, .inr ⟨rfl, by simp [GW.seal]⟩, fun j V hj => ?_⟩
  have hj2 : j < cs.size := by rw [hsz, ← hl]; exact (List.getElem?_eq_some_iff.1 hj).1
  refine ⟨cs[j], ?_, V.up (Stp.seal _ _).le0 (hcl j V _ hj (by simp [hj2]))⟩
  show World.cell? (σ.w.alloc _) _ = _
  simp only [World.cell?, heap_alloc_new]
  simp [hj2]
theorem one_flat {α : Type} {F : α → List Ty} {xs : List α} (h : ∀ x, ∀ U ∈ F x, One U) : ∀ U, U ∈ xs.flatMap F → One U := fun U hU => by
  obtain ⟨x, _, hx⟩ := List.mem_flatMap.1 hU; exact h x U hx
/-! ### Patterns -/
end Go.KL

/- Blows: which may be; floats held against each other; how they are judged. -/
namespace Go.KL
open Ieee
def blowBad (n : Int) (l : List BBlow) (k : Nat) : Bool := ((((decide ((l.getD k B0).1 < (0 : Int))) || (decide (n ≤ (l.getD k B0).1))) || (!(fGe (l.getD k B0).2 (some 13965043853221167104) && fLe (l.getD k B0).2 (some 4741671816366391296)))) || ((decide ((0 : Int) < ((k : Nat) : Int))) && (fLt (l.getD k B0).2 (l.getD ((((k : Nat) : Int) - (1 : Int))).toNat B0).2)))
def blowsE (n : Int) (l : List BBlow) : Int := if n < 1 ∨ 12 < n ∨ l.length < 2 then 1 else if 5000 < l.length then 3 else if (List.range l.length).any (blowBad n l) = true then 12 else 0
section
variable {n : Int} {l : List BBlow}
theorem blows_1 (h : n < 1 ∨ 12 < n ∨ l.length < 2) : blowsE n l = 1 := by unfold blowsE; rw [if_pos h]
theorem blows_3 (h : ¬ (n < 1 ∨ 12 < n ∨ l.length < 2)) (h2 : 5000 < l.length) : blowsE n l = 3 := by unfold blowsE; rw [if_neg h, if_pos h2]
theorem blows_12 (h : ¬ (n < 1 ∨ 12 < n ∨ l.length < 2)) (h2 : ¬ 5000 < l.length) {k : Nat} (hk : k < l.length) (hb : blowBad n l k = true) : blowsE n l = 12 := by
  unfold blowsE; rw [if_neg h, if_neg h2, if_pos (List.any_eq_true.2 ⟨k, List.mem_range.2 hk, hb⟩)]
theorem blows_0 (h : ¬ (n < 1 ∨ 12 < n ∨ l.length < 2)) (h2 : ¬ 5000 < l.length) (hno : ∀ j, j < l.length → blowBad n l j = false) : blowsE n l = 0 := by
  unfold blowsE; rw [if_neg h, if_neg h2, if_neg]
  intro e
  obtain ⟨k, hk, hb⟩ := List.any_eq_true.1 e
  rw [hno k (List.mem_range.1 hk)] at hb; cases hb
theorem blows_ok (h : blowsE n l = 0) : 1 ≤ n ∧ n ≤ 12 ∧ 2 ≤ l.length ∧ l.length ≤ 5000 ∧ ∀ j, j < l.length → blowBad n l j = false := by
  unfold blowsE at h
  split at h
  · omega
  · split at h
    · omega
    · split at h
      · omega
      · rename_i h1 h2 h3
        refine ⟨by omega, by omega, by omega, by omega, fun j hj => ?_⟩
        cases hb : blowBad n l j with
        | false => rfl
        | true => exact absurd (List.any_eq_true.2 ⟨j, List.mem_range.2 hj, hb⟩) h3
theorem blow_bell {k : Nat} (h : blowBad n l k = false) : 0 ≤ (l.getD k B0).1 ∧ (l.getD k B0).1 < n := by
  unfold blowBad at h
  simp only [Bool.or_eq_false_iff, decide_eq_false_iff_not] at h
  omega
end
/-! ### A float is the same as itself -/
end Go.KL

/- Rows of sums: structs of two floats, each behind a pointer into the row. -/
namespace Go.KL
open Go.RowKit
theorem sums_len (xs : List SFV) : (xs.flatMap sumC).length = xs.length * 2 := by
  induction xs with
  | nil => rfl
  | cons x xs ih => rw [List.flatMap_cons, List.length_append, ih]; show 2 + xs.length * 2 = (xs.length + 1) * 2; omega
theorem sums_get0 : ∀ {xs : List SFV} {i : Nat}, i < xs.length → (xs.flatMap sumC)[i * 2 + 0]? = some (Ty.flt (xs.getD i S0).1)
  | x :: xs, 0, _ => rfl
  | x :: xs, i + 1, h => by
    have ih := sums_get0 (xs := xs) (i := i) (by simpa using h)
    rw [List.flatMap_cons, List.getElem?_append_right (by show 2 ≤ _; omega)]
    show (xs.flatMap sumC)[(i + 1) * 2 + 0 - 2]? = _
    rw [show (i + 1) * 2 + 0 - 2 = i * 2 + 0 by omega, ih]; rfl
theorem sums_get1 : ∀ {xs : List SFV} {i : Nat}, i < xs.length → (xs.flatMap sumC)[i * 2 + 1]? = some (Ty.flt (xs.getD i S0).2)
  | x :: xs, 0, _ => rfl
  | x :: xs, i + 1, h => by
    have ih := sums_get1 (xs := xs) (i := i) (by simpa using h)
    rw [List.flatMap_cons, List.getElem?_append_right (by show 2 ≤ _; omega)]
    show (xs.flatMap sumC)[(i + 1) * 2 + 1 - 2]? = _
    rw [show (i + 1) * 2 + 1 - 2 = i * 2 + 1 by omega, ih]; rfl
theorem sums_set0 : ∀ {xs : List SFV} {i : Nat} {y : FV}, i < xs.length → (xs.flatMap sumC).set (i * 2 + 0) (Ty.flt y) = (xs.set i (y, (xs.getD i S0).2)).flatMap sumC
  | x :: xs, 0, y, _ => rfl
  | x :: xs, i + 1, y, h => by
    have ih := sums_set0 (xs := xs) (i := i) (y := y) (by simpa using h)
    rw [List.flatMap_cons, List.set_append_right _ _ (by show 2 ≤ _; omega), List.set_cons_succ, List.flatMap_cons]
    congr 1
    show (xs.flatMap sumC).set ((i + 1) * 2 + 0 - 2) _ = _
    rw [show (i + 1) * 2 + 0 - 2 = i * 2 + 0 by omega, ih]; rfl
theorem sums_set1 : ∀ {xs : List SFV} {i : Nat} {y : FV}, i < xs.length → (xs.flatMap sumC).set (i * 2 + 1) (Ty.flt y) = (xs.set i ((xs.getD i S0).1, y)).flatMap sumC
  | x :: xs, 0, y, _ => rfl
  | x :: xs, i + 1, y, h => by
    have ih := sums_set1 (xs := xs) (i := i) (y := y) (by simpa using h)
    rw [List.flatMap_cons, List.set_append_right _ _ (by show 2 ≤ _; omega), List.set_cons_succ, List.flatMap_cons]
    congr 1
    show (xs.flatMap sumC).set ((i + 1) * 2 + 1 - 2) _ = _
    rw [show (i + 1) * 2 + 1 - 2 = i * 2 + 1 by omega, ih]; rfl
theorem getD_set_self {α : Type} (d : α) {xs : List α} {i : Nat} {x : α} (h : i < xs.length) : (xs.set i x).getD i d = x := by simp [h]
theorem set_setS {xs : List SFV} {i : Nat} {x y : SFV} : (xs.set i x).set i y = xs.set i y := List.set_set ..
section
variable {P : Program} {d : Option Tmp} {ty : TypeId} {pos : String} {af : Array Edge} {g : Option (Nat × Bool)} {a : Act} {σ : GW}
theorem y_make_sum {k : Nat} {t e : TypeId} {by_ : Nat} {x y : Operand} {kx ky : IntKind} {n : Nat} (ht : P.underlying t = some (.slice e)) (he : Info P e (.agg #[.float .f64 0, .float .f64 0]) 2 by_)
    (hx : a.eval x = .int kx n) (hy : a.eval y = .int ky n) (hb : by_ * n ≤ 281474976710656) (hn : n ≤ 9223372036854775807) :
    Yld P ⟨d, .makeSlice t x y, ty, pos, af, g⟩ a σ (Pr.own k e 2 n ((List.replicate n S0).flatMap sumC)) := by
  obtain ⟨i, hi, hi1, hi2, rfl⟩ := he.get
  have hb' : (i.bytes : Int) * (n : Int) ≤ 281474976710656 := by
    have h3 : ((i.bytes * n : Nat) : Int) ≤ 281474976710656 := by omega
    rw [← Int.natCast_mul]; exact h3
  have hr := run_make (P := P) σ.w t e i _ ht hi hi1 kx ky n n (by omega) (Int.le_refl _) hb' (by omega)
  intro K Q hk
  have hr' : (execOp a.eval ⟨d, .makeSlice t x y, ty, pos, af, g⟩).run P σ.w = .ok (.value (.slice (some ⟨σ.w.heap.size, 0, none⟩) n n)) (σ.w.alloc (.cells (madeCells #[.float .f64 0, .float .f64 0] (n * 2)) e)) := by
    simp only [execOp, hx, hy, Sem.run_bind, hr, Result.andThen_ok, Sem.run_pure, Int.toNat_natCast, hi2]
    rfl
  unfold Oper.wp
  rw [hr']
  have hl : (madeCells #[Value.float .f64 0, Value.float .f64 0] (n * 2)).toList = List.replicate (n * 2) (Value.float .f64 0) := by
    apply List.ext_getElem?
    intro j
    by_cases hj : j < n * 2
    · simp [madeCells, hj, List.getElem?_replicate]
      have : j % 2 = 0 ∨ j % 2 = 1 := by omega
      rcases this with h | h <;> simp [h]
    · simp [madeCells, hj, List.getElem?_replicate]
  refine hk _ (σ.mk' k (.cells (madeCells #[.float .f64 0, .float .f64 0] (n * 2)) e)) (Stp.mk' σ k _) ?_
  refine Own.intro (us := List.replicate (n * 2) (Value.float .f64 0)) (heap_alloc_new σ.w _) (by show (if _ = _ then k else _) = k; rw [if_pos rfl]) (Nat.le_refl _) hn ?_ ?_ (by rw [sums_len]; simp) ?_
  · rw [← Array.length_toList, hl]; simp
  · rw [hl]; simp
  · intro j U u hU hu
    have hj : j < n * 2 := by
      have := (List.getElem?_eq_some_iff.1 hu).1
      simpa using this
    have hu' : u = .float .f64 0 := by
      rw [List.getElem?_replicate, if_pos hj] at hu; cases hu; rfl
    subst hu'
    have hx : U = Ty.flt (some 0) := by
      have hm := List.mem_of_getElem? hU
      obtain ⟨s, hs, hm⟩ := List.mem_flatMap.1 hm
      rw [(List.mem_replicate.1 hs).2] at hm
      simp only [sumC, S0, List.mem_cons, List.not_mem_nil, or_false] at hm
      rcases hm with rfl | rfl <;> rfl
    subst hx
    exact flt_zero
theorem y_idx2 {k : Nat} {x y : Operand} {n i : Nat} {ts : List Ty} {t e : TypeId} {z v : Value} {b : Nat} {ki : IntKind} (ht : P.underlying t = some (.slice e)) (he : Info P e z 2 b)
    (h : Own σ k e 2 v n ts) (hx : a.eval x = v) (hy : a.eval y = .int ki (i : Int)) (h1 : i < n) :
    Yld P ⟨d, .indexAddr t x y, ty, pos, af, g⟩ a σ (Ty.val (cellPtr v (i * 2))).pr := by
  have := own_index (d := d) (ty := ty) (pos := pos) (af := af) (g := g) (i := (i : Int)) ht he h hx hy (by omega) (by omega)
  rwa [Int.toNat_natCast] at this
theorem y_nilc {k : Nat} {x : Operand} {n i : Nat} {ts : List Ty} {e : TypeId} {v : Value} (h : Own σ k e 2 v n ts) (hn : 0 < n) (hx : a.eval x = cellPtr v i) :
    Yld P ⟨d, .nilCheck x, ty, pos, af, g⟩ a σ (Ty.val (cellPtr v i)).pr := by
  obtain ⟨gg, cap, rfl, _, _⟩ := h.at hn
  exact Yld.of_run (v := .pointer (some ⟨gg, i, none⟩)) (by simp only [execOp, hx, cellPtr]; simp [go_sem]) rfl
theorem y_fieldc {k : Nat} {x : Operand} {n i : Nat} {ts : List Ty} {e t ft : TypeId} {f off c by_ : Nat} {z v : Value} (hf : fieldOf P t f = some (ft, off)) (he : Info P ft z c by_) (hc : 0 < c) (h : Own σ k e 2 v n ts) (hn : 0 < n) (hx : a.eval x = cellPtr v i) :
    Yld P ⟨d, .fieldAddr t x f, ty, pos, af, g⟩ a σ (Ty.val (cellPtr v (i + off))).pr := by
  obtain ⟨gg, cap, rfl, _, _⟩ := h.at hn
  refine Yld.of_run (v := .pointer (some ⟨gg, i + off, none⟩)) ?_ rfl
  simp only [execOp, hx, cellPtr]
  have := run_fieldAt (o := i) (b := gg) hf he hc σ.w
  simp [this]
end
end Go.KL

/- How blows are judged: the numbers. -/
namespace Go.KL
section
variable {P : Program} {d : Option Tmp} {ty : TypeId} {pos : String} {af : Array Edge} {g : Option (Nat × Bool)} {a : Act} {σ : GW}
theorem y_callr {f : FuncId} {fn : Func} {x : Operand} {tys : Array TypeId} {k : Nat} {v : Value} {ts : List Ty} {R : Ty} (hR : ∀ σ τ v, R.has σ v → R.has τ v) (hs0 : ∃ σ' : GW, σ'.w = σ.w ∧ Stp k σ σ' ∧ (Ty.ref ts).has σ' v) (hx : a.eval x = v)
    (hf : P.funcs[f]? = some fn) (hn : (fn.name == "runtime.NumGoroutine") = false) (hb : fn.body.isNone = false) (hc : ∀ σ : GW, (Ty.ref ts).has σ v → FnC P f #[v] σ R) :
    Yld P ⟨d, .call ⟨.value (.func f), #[x], tys⟩, ty, pos, af, g⟩ a σ R.pr := by
  intro K Q hk'
  have hr : (execOp a.eval ⟨d, .call ⟨.value (.func f), #[x], tys⟩, ty, pos, af, g⟩).run P σ.w = .ok (.enter f #[v]) σ.w := by
    have hn' : ¬ fn.name = "runtime.NumGoroutine" := by simpa using hn
    have hb' : ¬ fn.body = none := by intro e; simp [e] at hb
    simp only [execOp, resolve, List.map_toArray, List.map_cons, List.map_nil, hx]
    simp [Act.eval, Deferred.ofValue, invoke, callFunc, hf, hn', hb', program, Sem.run, Sem.run_bind]
  unfold Oper.wp
  rw [hr]
  obtain ⟨σ', hw, hs, hT⟩ := hs0
  have hcc := hc σ' hT
  unfold FnC at hcc
  rw [hw] at hcc
  refine Calls.mono hcc ?_
  rintro e' w' ⟨v', τ, rfl, hs2, rfl, hRv⟩
  have hlt : ∀ b, b < σ.w.heap.size → b < τ.w.heap.size := fun b hb => Nat.lt_of_lt_of_le hb (by have := hs2.size; rw [hw] at this; exact this)
  let ρ : GW := ⟨τ.w, fun b => if b < σ.w.heap.size then σ.st b else τ.st b, fun b hb => by
    by_cases hb2 : b < σ.w.heap.size
    · exact hlt b hb2
    · simp only [hb2, if_false] at hb; exact τ.lt b hb⟩
  have hst : Stp 0 σ ρ := ⟨by rw [show ρ.w = τ.w from rfl, hs2.os, hw], by rw [show ρ.w = τ.w from rfl, hs2.tape, hw], by rw [show ρ.w = τ.w from rfl, hs2.output, hw], by have := hs2.dr; rw [hw] at this; exact this, by have := hs2.size; rw [hw] at this; exact this,
    fun b hb _ => by have := hs2.blk b (by rw [hw]; exact hb) (.inl rfl); rw [hw] at this; exact this, fun b hb _ => by show (if b < σ.w.heap.size then σ.st b else τ.st b) = σ.st b; rw [if_pos hb]⟩
  exact hk' v' ρ hst (hR _ _ _ hRv)
theorem flt_any {o : FV} : ∀ (σ τ : GW) v, (Ty.flt o).has σ v → (Ty.flt o).has τ v := fun _ _ _ h => h
theorem sum_seal {k n i : Nat} {e : TypeId} {v : Value} {xs : List SFV} (hk : 2 ≤ k) (h : Own σ k e 2 v n (xs.flatMap sumC)) (hi : i < xs.length) :
    ∃ σ' : GW, σ'.w = σ.w ∧ Stp k σ σ' ∧ (Ty.ref [Ty.flt (xs.getD i S0).1, Ty.flt (xs.getD i S0).2]).has σ' (cellPtr v (i * 2)) := by
  have hn : 0 < n := by
    have := h.len; rw [sums_len] at this; omega
  obtain ⟨gg, cap, rfl, hst, hlt⟩ := h.at hn
  obtain ⟨σ', hw, hs, ad, cp, b, o, e1, e2, e3, e4, e5⟩ := h.seal hk
  refine ⟨σ', hw, hs, b, o + i * 2, ?_, ?_, fun j T hj => ?_⟩
  · rcases e4 with e4 | ⟨e4, _⟩
    · have := congrArg List.length e4; rw [sums_len] at this; simp at this; omega
    · cases e1; cases e4
      show Value.pointer (some ⟨gg, i * 2, none⟩) = _
      rw [Nat.zero_add]
  · rcases e4 with e4 | ⟨e4, e6⟩
    · have := congrArg List.length e4; rw [sums_len] at this; simp at this; omega
    · exact e6
  · have hq : (xs.flatMap sumC)[i * 2 + j]? = some T := by
      match j, hj with
      | 0, hj => cases hj; exact sums_get0 hi
      | 1, hj => cases hj; exact sums_get1 hi
      | j + 2, hj => simp at hj
    obtain ⟨u, h1, h2⟩ := e5 _ T hq
    exact ⟨u, by rw [Nat.add_assoc]; exact h1, h2⟩
end
/-! ### The numbers -/
def sumN (f : Nat → Nat) : Nat → Nat
  | 0 => 0
  | k + 1 => sumN f k + f k
def foldTo (f : Nat → FV) : Nat → SFV
  | 0 => S0
  | k + 1 => addS (foldTo f k) (f k)
def ownL (f : Nat → FV) (b : Nat → Nat) (N : Nat) : Nat → List SFV
  | 0 => List.replicate N S0
  | k + 1 => (ownL f b N k).set (b k) (addS ((ownL f b N k).getD (b k) S0) (f k))
def rangL (b : Nat → Nat) (N : Nat) : Nat → List Int
  | 0 => List.replicate N 0
  | k + 1 => (rangL b N k).set (b k) ((rangL b N k).getD (b k) 0 + 1)
theorem ownL_len (f : Nat → FV) (b : Nat → Nat) (N : Nat) : ∀ k, (ownL f b N k).length = N
  | 0 => by simp [ownL]
  | k + 1 => by rw [ownL, List.length_set, ownL_len f b N k]
theorem rangL_len (b : Nat → Nat) (N : Nat) : ∀ k, (rangL b N k).length = N
  | 0 => by simp [rangL]
  | k + 1 => by rw [rangL, List.length_set, rangL_len b N k]
theorem rangL_bd (b : Nat → Nat) (N : Nat) : ∀ k i, 0 ≤ (rangL b N k).getD i 0 ∧ (rangL b N k).getD i 0 ≤ k
  | 0, i => by
    simp only [rangL, List.getD_eq_getElem?_getD, List.getElem?_replicate]
    split <;> simp
  | k + 1, i => by
    have h1 := rangL_bd b N k i
    have h2 := rangL_bd b N k (b k)
    rw [rangL, List.getD_eq_getElem?_getD]
    by_cases e : b k = i
    · subst e
      by_cases hl : b k < (rangL b N k).length
      · rw [List.getElem?_set_self hl]; simp only [Option.getD_some]; omega
      · rw [List.getElem?_eq_none (by rw [List.length_set]; omega)]; simp; omega
    · rw [List.getElem?_set_ne e, ← List.getD_eq_getElem?_getD]; omega
theorem beat_le {N k : Nat} : beatN k N ≤ 2 * k := by
  unfold beatN
  have := Nat.div_le_self k (2 * N)
  omega
theorem sumN_le {f : Nat → Nat} {c : Nat} : ∀ {k : Nat}, (∀ j, j < k → f j ≤ c) → sumN f k ≤ c * k
  | 0, _ => by simp [sumN]
  | k + 1, h => by
    have h1 := sumN_le (f := f) (c := c) (k := k) (fun j hj => h j (by omega))
    have h2 := h k (by omega)
    rw [sumN, Nat.mul_succ]; omega
def tmF (l : List BBlow) (j : Nat) : FV := (l.getD j B0).2
def blB (l : List BBlow) (j : Nat) : Nat := (l.getD j B0).1.toNat
def ctF (N : Nat) (l : List BBlow) (j : Nat) : FV := fmul (fint ((beatN j N : Nat) : Int)) (tmF l j)
def bX (N k : Nat) : Nat := sumN (fun j => beatN j N) k
def bQ (N k : Nat) : Nat := sumN (fun j => beatN j N * beatN j N) k
def gapF (N : Nat) (l : List BBlow) : FV := fdiv (fsub (fmul (fint ((l.length : Nat) : Int)) (valS (foldTo (ctF N l) l.length))) (fmul (fint ((bX N l.length : Nat) : Int)) (valS (foldTo (tmF l) l.length)))) (fint ((((l.length * bQ N l.length : Nat) : Int)) - ((bX N l.length * bX N l.length : Nat) : Int)))
def startF (N : Nat) (l : List BBlow) : FV := fdiv (fsub (valS (foldTo (tmF l) l.length)) (fmul (gapF N l) (fint ((bX N l.length : Nat) : Int)))) (fint ((l.length : Nat) : Int))
def devF (N : Nat) (l : List BBlow) (j : Nat) : FV := fsub (tmF l j) (fadd (startF N l) (fmul (gapF N l) (fint ((beatN j N : Nat) : Int))))
def bellF (N : Nat) (l : List BBlow) (b : Nat) : FV := if 0 < (rangL (blB l) N l.length).getD b 0 then fadd (fdiv (valS ((ownL (devF N l) (blB l) N l.length).getD b S0)) (fint ((rangL (blB l) N l.length).getD b 0))) (some 0) else some 0
def belTo (N : Nat) (l : List BBlow) (b : Nat) : List FV := (List.range N).map fun j => if j < b then bellF N l j else some 0
def bellsF (N : Nat) (l : List BBlow) : List FV := belTo N l N
def farF (N : Nat) (l : List BBlow) : SFV := foldTo (fun j => fabs (devF N l j)) l.length
def sqF (N : Nat) (l : List BBlow) : SFV := foldTo (fun j => fmul (devF N l j) (devF N l j)) l.length
def meanF (N : Nat) (l : List BBlow) : FV := fdiv (valS (farF N l)) (fint ((l.length : Nat) : Int))
def sprF (N : Nat) (l : List BBlow) : FV := fsqrt (fdiv (valS (sqF N l)) (fint ((l.length : Nat) : Int)))
theorem belTo_len (N : Nat) (l : List BBlow) (b : Nat) : (belTo N l b).length = N := by simp [belTo]
theorem belTo_0 (N : Nat) (l : List BBlow) : belTo N l 0 = List.replicate N (some 0) := by
  unfold belTo
  apply List.ext_getElem?
  intro j
  by_cases hj : j < N
  · rw [List.getElem?_map, List.getElem?_range hj, List.getElem?_replicate, if_pos hj]; rfl
  · rw [List.getElem?_eq_none (by simpa using hj), List.getElem?_eq_none (by simpa using hj)]
theorem belTo_set {N : Nat} {l : List BBlow} {b : Nat} (h : b < N) : (belTo N l b).set b (bellF N l b) = belTo N l (b + 1) := by
  unfold belTo
  apply List.ext_getElem?
  intro j
  by_cases e : b = j
  · subst e
    rw [List.getElem?_set_self (by simpa using h)]; simp [h]
  · rw [List.getElem?_set_ne e]
    by_cases hj : j < N
    · simp [hj]
      by_cases h2 : j < b
      · rw [if_pos h2, if_pos (by omega)]
      · rw [if_neg h2, if_neg (by omega)]
    · simp [hj]
theorem belTo_no {N : Nat} {l : List BBlow} {b : Nat} (hz : bellF N l b = some 0) : belTo N l b = belTo N l (b + 1) := by
  unfold belTo
  refine List.map_congr_left fun j _ => ?_
  by_cases h2 : j < b
  · rw [if_pos h2, if_pos (by omega)]
  · rw [if_neg h2]
    by_cases e : j = b
    · subst e; rw [if_pos (by omega), hz]
    · rw [if_neg (by omega)]
end Go.KL

/- Floats that are whole numbers: exact. -/
namespace Go.KL
open Ieee
theorem word_parts (s : Bool) {r : Nat} (h : r < 9223372036854775808) : Ieee.double.word s r % 9223372036854775808 = r ∧ (Ieee.double.word s r / 9223372036854775808 % 2 == 1) = s ∧ Ieee.double.word s r < 18446744073709551616 := by
  rw [word_eq]
  cases s
  · simp only [Bool.false_eq_true, if_false]
    refine ⟨by omega, ?_, by omega⟩
    rw [Nat.div_eq_of_lt h]; rfl
  · simp only [if_true]
    refine ⟨by omega, ?_, by omega⟩
    have : (9223372036854775808 + r) / 9223372036854775808 = 1 := by omega
    rw [this]; rfl
theorem read_word (s : Bool) {m : Nat} {i : Int} (h : Canon m i) : Ieee.double.read (Ieee.double.word s ((i + 1074).toNat * 4503599627370496 + m)) = .number s m i := by
  have hf := h.fin
  have hl := h.low
  have hlt := h.lt
  obtain ⟨h1, h2, _⟩ := word_parts s (r := (i + 1074).toNat * 4503599627370496 + m) (by omega)
  rw [read_eq, h1, h2]
  generalize hq : (i + 1074).toNat = q at *
  have hiq : i = (q : Int) - 1074 := by omega
  by_cases hm : m < 4503599627370496
  · have hi : i = -1074 := by
      rcases h.norm with hn | hn
      · omega
      · exact hn
    have hq0 : q = 0 := by omega
    subst hq0
    have e0 : 0 * 4503599627370496 + m = m := by omega
    rw [e0, if_pos hm, hi]
  · rw [if_neg (by omega), if_pos (by omega)]
    have e1 : (q * 4503599627370496 + m) / 4503599627370496 = q + 1 := by omega
    have e2 : (q * 4503599627370496 + m) % 4503599627370496 = m - 4503599627370496 := by omega
    have e3 : 4503599627370496 + (m - 4503599627370496) = m := by omega
    have e4 : (-1074 : Int) + ((q + 1 - 1 : Nat) : Int) = i := by omega
    rw [e1, e2, e3, e4]
theorem read_zero (s : Bool) : Ieee.double.read (Ieee.double.word s 0) = .number s 0 (-1074) := by
  obtain ⟨h1, h2, _⟩ := word_parts s (r := 0) (by decide)
  rw [read_eq, h1, h2, if_pos (by decide)]
theorem near_canon2 {m mag : Nat} {i : Int} (s : Bool) (h : Canon m i) (k : Nat) (hm : mag * 2 ^ k = m) : Ieee.double.nearest s mag (i + k) = Ieee.double.word s ((i + 1074).toNat * 4503599627370496 + m) := by
  have hm0 : m ≠ 0 := by have := h.pos; omega
  have hg0 : mag ≠ 0 := by rintro rfl; simp at hm; omega
  have hlast := h.last
  have hsh : mag <<< k = m := by rw [Nat.shiftLeft_eq]; exact hm
  have hlog : m.log2 = mag.log2 + k := by rw [← hsh]; exact log2_shift hg0
  unfold Format.nearest
  rw [if_neg hg0]
  simp only [fb_eq, least_eq, binade_eq, infR_eq]
  have e : max (i + (k : Int) + ((mag.log2 : Nat) : Int) - ((52 : Nat) : Int)) (-1074) = i := by
    rw [hlog] at hlast
    rw [← hlast]; congr 1; omega
  rw [e]
  have e1 : (i + (k : Int) - i).toNat = k := by omega
  have e2 : (i - (i + (k : Int))).toNat = 0 := by omega
  rw [e1, e2, hsh, cut_none]
  have e3 : (i - (-1074)).toNat = (i + 1074).toNat := by congr 1
  rw [e3, Nat.min_eq_left (by have := h.fin; omega)]
theorem canon_int {z : Nat} (h0 : 0 < z) (h : z ≤ 9007199254740992) : ∃ m i, Canon m i ∧ i ≤ 1 ∧ ((i ≤ 0 ∧ m = z * 2 ^ (-i).toNat) ∨ (i = 1 ∧ z = m * 2)) := by
  by_cases hz : z = 9007199254740992
  · subst hz
    exact ⟨4503599627370496, 1, ⟨by decide, by decide, by decide, .inl (by decide), by decide⟩, by decide, .inr ⟨rfl, rfl⟩⟩
  · have hlt : z.log2 < 53 := (Nat.log2_lt (by omega)).2 (by omega)
    have h1 := Nat.log2_self_le (n := z) (by omega)
    have h2 : z < 2 ^ (z.log2 + 1) := (Nat.log2_lt (by omega)).1 (Nat.lt_succ_self _)
    have hp : 2 ^ z.log2 * 2 ^ (52 - z.log2) = 4503599627370496 := by rw [← Nat.pow_add, show z.log2 + (52 - z.log2) = 52 by omega]
    have hp2 : 2 ^ (z.log2 + 1) * 2 ^ (52 - z.log2) = 9007199254740992 := by rw [← Nat.pow_add, show z.log2 + 1 + (52 - z.log2) = 53 by omega]
    have g1 : 4503599627370496 ≤ z * 2 ^ (52 - z.log2) := by rw [← hp]; exact Nat.mul_le_mul_right _ h1
    have g2 : z * 2 ^ (52 - z.log2) < 9007199254740992 := by rw [← hp2]; exact Nat.mul_lt_mul_of_pos_right h2 (Nat.two_pow_pos _)
    refine ⟨z * 2 ^ (52 - z.log2), (z.log2 : Int) - 52, ⟨by omega, g2, by omega, .inl g1, by omega⟩, by omega, .inl ⟨by omega, ?_⟩⟩
    congr 2
    omega
theorem two_ne {k : Nat} : 2 ^ k ≠ 0 := by have := Nat.two_pow_pos k; omega
theorem near_int (s : Bool) {mag z a b : Nat} {p : Int} (hp : p = (a : Int) - b) (hv : mag * 2 ^ a = z * 2 ^ b) (hz : z ≤ 9007199254740992) :
    (z = 0 ∧ Ieee.double.nearest s mag p = Ieee.double.word s 0) ∨ ∃ m i, Canon m i ∧ Ieee.double.nearest s mag p = Ieee.double.word s ((i + 1074).toNat * 4503599627370496 + m) ∧ ((i ≤ 0 ∧ m = z * 2 ^ (-i).toNat) ∨ (i = 1 ∧ z = m * 2)) := by
  by_cases h0 : z = 0
  · left
    subst h0
    have hm : mag = 0 := by
      rcases Nat.mul_eq_zero.1 (by simpa using hv) with h | h
      · exact h
      · exact absurd h two_ne
    subst hm
    exact ⟨rfl, by unfold Format.nearest; rw [if_pos rfl]⟩
  · right
    obtain ⟨m, i, hc, hi1, hmi⟩ := canon_int (by omega) hz
    refine ⟨m, i, hc, ?_, hmi⟩
    have hl := hc.low
    obtain ⟨K, hK⟩ : ∃ K : Nat, K = 1074 := ⟨_, rfl⟩
    have hmz : m * 2 ^ (i + K).toNat = z * 2 ^ K := by
      rcases hmi with ⟨h1, h2⟩ | ⟨h1, h2⟩
      · rw [h2, Nat.mul_assoc, ← Nat.pow_add, show (-i).toNat + (i + K).toNat = K by omega]
      · rw [h1, h2, Nat.mul_assoc, ← Nat.pow_succ', show ((1 : Int) + K).toNat = K.succ by omega]
    have key : mag * 2 ^ a * 2 ^ K = m * 2 ^ (i + K).toNat * 2 ^ b := by rw [hv, hmz, Nat.mul_assoc, Nat.mul_comm (2 ^ b), ← Nat.mul_assoc]
    have key2 : mag * 2 ^ (a + K) = m * 2 ^ ((i + K).toNat + b) := by rw [Nat.pow_add, Nat.pow_add, ← Nat.mul_assoc, ← Nat.mul_assoc]; exact key
    by_cases hle : p ≤ i
    · obtain ⟨k, hk⟩ : ∃ k : Nat, p = i - k := ⟨(i - p).toNat, by omega⟩
      have e : (i + K).toNat + b = k + (a + K) := by omega
      have e2 : m * 2 ^ ((i + K).toNat + b) = m * 2 ^ k * 2 ^ (a + K) := by rw [e, Nat.pow_add 2 k, Nat.mul_assoc]
      have hmag : mag = m * 2 ^ k := Nat.eq_of_mul_eq_mul_right (Nat.two_pow_pos _) (key2.trans e2)
      rw [hk, hmag, ← Nat.shiftLeft_eq]
      exact near_canon s hc k
    · obtain ⟨k, hk⟩ : ∃ k : Nat, p = i + k := ⟨(p - i).toNat, by omega⟩
      have e : a + K = k + ((i + K).toNat + b) := by omega
      have e2 : mag * 2 ^ (a + K) = mag * 2 ^ k * 2 ^ ((i + K).toNat + b) := by rw [e, Nat.pow_add 2 k, Nat.mul_assoc]
      have hmag : mag * 2 ^ k = m := Nat.eq_of_mul_eq_mul_right (Nat.two_pow_pos _) (e2.symm.trans key2)
      rw [hk]
      exact near_canon2 s hc k hmag
end Go.KL

/- Floats that are whole numbers: sums, products, quotients of them are exact. -/
namespace Go.KL
open Ieee
def K74 : Nat := 1074
theorem k74 : K74 = 1074 := rfl
attribute [irreducible] K74
theorem sg_eq (s : Bool) (m k : Nat) : signed s m k = (if s = true then -1 else 1) * ((m * 2 ^ k : Nat) : Int) := by
  unfold signed
  rw [Nat.shiftLeft_eq]
  cases s
  · simp only [Bool.false_eq_true, if_false]; omega
  · simp only [if_true]; omega
theorem sg_shift (s : Bool) (m a b : Nat) : signed s m (a + b) = signed s m a * ((2 ^ b : Nat) : Int) := by
  rw [sg_eq, sg_eq, Nat.pow_add, ← Nat.mul_assoc, Int.natCast_mul (m * 2 ^ a), Int.mul_assoc]
def IsI (x : FV) (z : Int) : Prop := ∃ b s m i, x = some b ∧ b < 18446744073709551616 ∧ Ieee.double.read b = .number s m i ∧ -1074 ≤ i ∧ signed s m (i + K74).toNat = z * ((2 ^ K74 : Nat) : Int)
theorem pow_posI (k : Nat) : (0 : Int) < ((2 ^ k : Nat) : Int) := by have := Nat.two_pow_pos k; omega
theorem isI_write {s : Bool} {mag : Nat} {p z : Int} {a c : Nat} (hp : p = (a : Int) - c) (hv : mag * 2 ^ a = z.natAbs * 2 ^ c) (hz : z.natAbs ≤ 9007199254740992) (hs : z ≠ 0 → (s = true ↔ z < 0)) : IsI (some (Ieee.double.write (.number s mag p))) z := by
  show IsI (some (Ieee.double.nearest s mag p)) z
  rcases near_int s hp hv hz with ⟨h0, h1⟩ | ⟨m, i, hc, h1, hmi⟩
  · have hz0 : z = 0 := by omega
    rw [h1]
    exact ⟨_, s, 0, -1074, rfl, (word_parts s (r := 0) (by decide)).2.2, read_zero s, by omega, by rw [sg_eq, hz0]; simp⟩
  · have hf := hc.fin
    have hl := hc.low
    have hpos := hc.pos
    have hk := k74
    rw [h1]
    refine ⟨_, s, m, i, rfl, (word_parts s (by omega)).2.2, read_word s hc, hl, ?_⟩
    have hz0 : z ≠ 0 := by
      rintro rfl
      rcases hmi with ⟨_, h2⟩ | ⟨_, h2⟩
      · simp at h2; omega
      · simp at h2; omega
    have hm : m * 2 ^ (i + K74).toNat = z.natAbs * 2 ^ K74 := by
      rcases hmi with ⟨h2, h3⟩ | ⟨h2, h3⟩
      · rw [h3, Nat.mul_assoc, ← Nat.pow_add, show (-i).toNat + (i + K74).toNat = K74 by omega]
      · rw [h2, h3, Nat.mul_assoc, ← Nat.pow_succ', show ((1 : Int) + K74).toNat = K74.succ by omega]
    rw [sg_eq, hm, Int.natCast_mul, ← Int.mul_assoc]
    congr 1
    have hsz := hs hz0
    cases s
    · simp only [Bool.false_eq_true, if_false]; simp at hsz; omega
    · simp only [if_true]; simp at hsz; omega
theorem isI_int {z : Int} (hz : z.natAbs ≤ 9007199254740992) : IsI (fint z) z := by
  have : fint z = some (Ieee.double.write (.number (decide (z < 0)) z.natAbs 0)) := rfl
  rw [this]
  exact isI_write (a := 0) (c := 0) (by omega) rfl hz (fun _ => by simp)
theorem isI_zero : IsI (some 0) 0 := isI_int (z := 0) (by decide)
theorem neg_left {a b : Int} (h : a * b < 0) (hb : 0 < b) : a < 0 := by
  apply Classical.byContradiction
  intro hn
  have := Int.mul_nonneg (show 0 ≤ a by omega) (show 0 ≤ b by omega)
  omega
theorem sum_core {s t : Bool} {m n : Nat} {i j p q : Int} (hi : -1074 ≤ i) (hj : -1074 ≤ j) (hv : signed s m (i + K74).toNat = p * ((2 ^ K74 : Nat) : Int)) (hv2 : signed t n (j + K74).toNat = q * ((2 ^ K74 : Nat) : Int)) (hz : (p + q).natAbs ≤ 9007199254740992) :
    ∃ d, (Datum.number s m i).sum (.number t n j) = some d ∧ IsI (some (Ieee.double.write d)) (p + q) := by
  have hk := k74
  have hbase : min i j = i ∨ min i j = j := by omega
  refine ⟨_, rfl, ?_⟩
  generalize hT : signed s m (i - min i j).toNat + signed t n (j - min i j).toNat = T
  have hsum : T * ((2 ^ (min i j + K74).toNat : Nat) : Int) = (p + q) * ((2 ^ K74 : Nat) : Int) := by
    rw [← hT, Int.add_mul, ← sg_shift, ← sg_shift, show (i - min i j).toNat + (min i j + K74).toNat = (i + K74).toNat by omega, show (j - min i j).toNat + (min i j + K74).toNat = (j + K74).toNat by omega, hv, hv2, Int.add_mul]
  refine isI_write (a := (min i j + K74).toNat) (c := K74) (by omega) ?_ hz ?_
  · have := congrArg Int.natAbs hsum
    rw [Int.natAbs_mul, Int.natAbs_mul, Int.natAbs_natCast, Int.natAbs_natCast] at this
    exact this
  · intro h0
    have p1 := pow_posI (min i j + K74).toNat
    have p2 := pow_posI K74
    have hT0 : T ≠ 0 := by
      rintro rfl
      rw [Int.zero_mul] at hsum
      rcases Int.mul_eq_zero.1 hsum.symm with h | h
      · exact h0 h
      · omega
    rw [if_neg hT0, decide_eq_true_eq]
    constructor
    · intro h
      have h2 : T * ((2 ^ (min i j + K74).toNat : Nat) : Int) < 0 := Int.mul_neg_of_neg_of_pos h p1
      rw [hsum] at h2
      exact neg_left h2 p2
    · intro h
      have h2 : (p + q) * ((2 ^ K74 : Nat) : Int) < 0 := Int.mul_neg_of_neg_of_pos h p2
      rw [← hsum] at h2
      exact neg_left h2 p1
theorem isI_add {x y : FV} {p q : Int} (hx : IsI x p) (hy : IsI y q) (hz : (p + q).natAbs ≤ 9007199254740992) : IsI (fadd x y) (p + q) := by
  obtain ⟨b, s, m, i, rfl, _, hr, hi, hv⟩ := hx
  obtain ⟨c, t, n, j, rfl, _, hr2, hj, hv2⟩ := hy
  obtain ⟨d, h1, h2⟩ := sum_core hi hj hv hv2 hz
  have e : fadd (some b) (some c) = some (Ieee.double.write d) := by
    show ((Ieee.double.read b).sum (Ieee.double.read c)).map Ieee.double.write = _
    rw [hr, hr2, h1]; rfl
  rw [e]; exact h2
theorem sg_not (s : Bool) (m k : Nat) : signed (!s) m k = - signed s m k := by
  rw [sg_eq, sg_eq]
  cases s <;> simp
theorem isI_sub {x y : FV} {p q : Int} (hx : IsI x p) (hy : IsI y q) (hz : (p - q).natAbs ≤ 9007199254740992) : IsI (fsub x y) (p - q) := by
  obtain ⟨b, s, m, i, rfl, _, hr, hi, hv⟩ := hx
  obtain ⟨c, t, n, j, rfl, _, hr2, hj, hv2⟩ := hy
  obtain ⟨d, h1, h2⟩ := sum_core (q := -q) hi hj hv (t := !t) (n := n) (by rw [sg_not, hv2, Int.neg_mul]) (by rw [← Int.sub_eq_add_neg]; exact hz)
  have e : fsub (some b) (some c) = some (Ieee.double.write d) := by
    show ((Ieee.double.read b).sum (Ieee.double.read c).opposite).map Ieee.double.write = _
    rw [hr, hr2]
    show ((Datum.number s m i).sum (.number (!t) n j)).map Ieee.double.write = _
    rw [h1]; rfl
  rw [e, Int.sub_eq_add_neg]; exact h2
theorem sg_abs {s : Bool} {m k : Nat} {z : Int} (h : signed s m k = z * ((2 ^ K74 : Nat) : Int)) : m * 2 ^ k = z.natAbs * 2 ^ K74 := by
  have := congrArg Int.natAbs h
  rw [Int.natAbs_mul, Int.natAbs_natCast, sg_eq, Int.natAbs_mul, Int.natAbs_natCast] at this
  rw [← this]
  cases s <;> simp
theorem sg_sign {s : Bool} {m k : Nat} {z : Int} (h : signed s m k = z * ((2 ^ K74 : Nat) : Int)) (hz : z ≠ 0) : s = true ↔ z < 0 := by
  have p2 := pow_posI K74
  rw [sg_eq] at h
  have hn : (0 : Int) ≤ ((m * 2 ^ k : Nat) : Int) := Int.natCast_nonneg _
  cases s
  · simp only [Bool.false_eq_true, if_false, false_iff] at h ⊢
    intro hneg
    have := Int.mul_neg_of_neg_of_pos hneg p2
    omega
  · simp only [if_true, true_iff] at h ⊢
    apply Classical.byContradiction
    intro hneg
    have := Int.mul_pos (show 0 < z by omega) p2
    omega
theorem isI_mul {x y : FV} {p q : Int} (hx : IsI x p) (hy : IsI y q) (hz : (p * q).natAbs ≤ 9007199254740992) : IsI (fmul x y) (p * q) := by
  obtain ⟨b, s, m, i, rfl, _, hr, hi, hv⟩ := hx
  obtain ⟨c, t, n, j, rfl, _, hr2, hj, hv2⟩ := hy
  have hk := k74
  have e : fmul (some b) (some c) = some (Ieee.double.write (.number (s ^^ t) (m * n) (i + j))) := by
    show ((Ieee.double.read b).product (Ieee.double.read c)).map Ieee.double.write = _
    rw [hr, hr2]; rfl
  rw [e]
  refine isI_write (a := (i + K74).toNat + (j + K74).toNat) (c := K74 + K74) (by omega) ?_ hz ?_
  · rw [Int.natAbs_mul, Nat.pow_add, Nat.pow_add]
    have h1 := sg_abs hv
    have h2 := sg_abs hv2
    calc m * n * (2 ^ (i + K74).toNat * 2 ^ (j + K74).toNat) = (m * 2 ^ (i + K74).toNat) * (n * 2 ^ (j + K74).toNat) := by rw [Nat.mul_mul_mul_comm]
      _ = p.natAbs * q.natAbs * (2 ^ K74 * 2 ^ K74) := by rw [h1, h2, Nat.mul_mul_mul_comm]
  · intro h0
    have hp0 : p ≠ 0 := fun e => h0 (by rw [e, Int.zero_mul])
    have hq0 : q ≠ 0 := fun e => h0 (by rw [e, Int.mul_zero])
    have h1 := sg_sign hv hp0
    have h2 := sg_sign hv2 hq0
    have key : (p * q < 0) ↔ ((p < 0 ∧ 0 < q) ∨ (0 < p ∧ q < 0)) := by
      constructor
      · intro h
        rcases Int.lt_or_gt_of_ne hp0 with hp | hp <;> rcases Int.lt_or_gt_of_ne hq0 with hq | hq
        · have := Int.mul_pos_of_neg_of_neg hp hq; omega
        · exact .inl ⟨hp, hq⟩
        · exact .inr ⟨hp, hq⟩
        · have := Int.mul_pos hp hq; omega
      · rintro (⟨h, h'⟩ | ⟨h, h'⟩)
        · exact Int.mul_neg_of_neg_of_pos h h'
        · exact Int.mul_neg_of_pos_of_neg h h'
    rw [key]
    cases s <;> cases t <;> simp at h1 h2 ⊢ <;> omega
theorem isI_nought {s : Bool} {p : Int} : IsI (some (Ieee.double.write (.number s 0 p))) 0 :=
  isI_write (a := p.toNat) (c := (-p).toNat) (by omega) (by simp) (by decide) (fun h => absurd rfl h)
theorem isI_div {x y : FV} {g q : Int} (hx : IsI x (g * q)) (hy : IsI y q) (hq : q ≠ 0) (hg : g.natAbs ≤ 9007199254740992) : IsI (fdiv x y) g := by
  obtain ⟨b, s, m, i, rfl, _, hr, hi, hv⟩ := hx
  obtain ⟨c, t, n, j, rfl, _, hr2, hj, hv2⟩ := hy
  have hk := k74
  have h1 := sg_abs hv
  have h2 := sg_abs hv2
  have hn0 : n ≠ 0 := by
    rintro rfl
    rw [Nat.zero_mul] at h2
    rcases Nat.mul_eq_zero.1 h2.symm with h | h
    · omega
    · exact two_ne h
  obtain ⟨more, hmore⟩ : ∃ more, more = 54 + n.log2 - m.log2 := ⟨_, rfl⟩
  have e : fdiv (some b) (some c) = some (Ieee.double.write (.number (s ^^ t) (2 * (m <<< more / n) + (m <<< more % n != 0).toNat) (i - j - more - 1))) := by
    show ((Ieee.double.read b).quotient (Ieee.double.fractionBits + 2) (Ieee.double.read c)).map Ieee.double.write = _
    rw [hr, hr2, hmore]
    simp only [Datum.quotient, if_neg hn0]; rfl
  rw [e]
  by_cases hm0 : m = 0
  · subst hm0
    have hg0 : g = 0 := by
      rw [Nat.zero_mul] at h1
      rcases Nat.mul_eq_zero.1 h1.symm with h | h
      · have : g * q = 0 := Int.natAbs_eq_zero.1 h
        rcases Int.mul_eq_zero.1 this with h | h
        · exact h
        · exact absurd h hq
      · exact absurd h two_ne
    subst hg0
    have e2 : 2 * (0 <<< more / n) + (0 <<< more % n != 0).toNat = 0 := by simp
    rw [e2]
    exact isI_nought
  · -- m * 2 ^ (i + K) = |g| * n * 2 ^ (j + K)
    have hmain : m * 2 ^ (i + K74).toNat = g.natAbs * n * 2 ^ (j + K74).toNat := by rw [h1, Int.natAbs_mul, Nat.mul_assoc, Nat.mul_assoc, h2]
    have hdvd : n ∣ m <<< more := by
      rw [Nat.shiftLeft_eq]
      by_cases hij : i ≤ j
      · have e3 : (j + K74).toNat = (j - i).toNat + (i + K74).toNat := by omega
        rw [e3, Nat.pow_add, ← Nat.mul_assoc] at hmain
        have := Nat.eq_of_mul_eq_mul_right (Nat.two_pow_pos _) hmain
        rw [this]
        exact ⟨g.natAbs * 2 ^ (j - i).toNat * 2 ^ more, by rw [Nat.mul_comm g.natAbs n, Nat.mul_assoc, Nat.mul_assoc, Nat.mul_assoc]⟩
      · have e3 : (i + K74).toNat = (i - j).toNat + (j + K74).toNat := by omega
        rw [e3, Nat.pow_add, ← Nat.mul_assoc] at hmain
        have h3 := Nat.eq_of_mul_eq_mul_right (Nat.two_pow_pos _) hmain
        have h4 : m.log2 + (i - j).toNat < 54 + n.log2 := by
          have a1 : 2 ^ (m.log2 + (i - j).toNat) ≤ m * 2 ^ (i - j).toNat := by rw [Nat.pow_add]; exact Nat.mul_le_mul_right _ (Nat.log2_self_le hm0)
          have a2 : n < 2 ^ (n.log2 + 1) := (Nat.log2_lt hn0).1 (Nat.lt_succ_self _)
          have a3 : g.natAbs * n < 2 ^ (54 + n.log2) := by
            have a4 : g.natAbs * n ≤ 2 ^ 53 * n := Nat.mul_le_mul_right _ hg
            have a5 : 2 ^ 53 * n < 2 ^ 53 * 2 ^ (n.log2 + 1) := Nat.mul_lt_mul_of_pos_left a2 (Nat.two_pow_pos _)
            rw [← Nat.pow_add, show 53 + (n.log2 + 1) = 54 + n.log2 by omega] at a5
            omega
          rw [h3] at a1
          have a6 : 2 ^ (m.log2 + (i - j).toNat) < 2 ^ (54 + n.log2) := by omega
          exact (Nat.pow_lt_pow_iff_right (by decide)).1 a6
        obtain ⟨r, hr3⟩ : ∃ r, more = (i - j).toNat + r := ⟨more - (i - j).toNat, by omega⟩
        rw [hr3, Nat.pow_add, ← Nat.mul_assoc, h3]
        exact ⟨g.natAbs * 2 ^ r, by rw [Nat.mul_comm g.natAbs n, Nat.mul_assoc]⟩
    obtain ⟨D, hD⟩ := hdvd
    have hdiv : m <<< more / n = D := by rw [hD]; exact Nat.mul_div_cancel_left _ (by omega)
    have hmod : m <<< more % n = 0 := by rw [hD]; exact Nat.mul_mod_right _ _
    rw [hdiv, hmod]
    have e4 : 2 * D + ((0 : Nat) != 0).toNat = 2 * D := rfl
    rw [e4]
    rw [Nat.shiftLeft_eq] at hD
    have hDv : D * 2 ^ (i + K74).toNat = g.natAbs * 2 ^ ((j + K74).toNat + more) := by
      have h5 : n * (D * 2 ^ (i + K74).toNat) = n * (g.natAbs * 2 ^ ((j + K74).toNat + more)) := by
        calc n * (D * 2 ^ (i + K74).toNat) = (m * 2 ^ more) * 2 ^ (i + K74).toNat := by rw [← Nat.mul_assoc, ← hD]
          _ = (m * 2 ^ (i + K74).toNat) * 2 ^ more := by rw [Nat.mul_right_comm]
          _ = n * (g.natAbs * 2 ^ ((j + K74).toNat + more)) := by rw [hmain, Nat.pow_add, Nat.mul_comm g.natAbs n]; simp only [Nat.mul_assoc]
      exact Nat.eq_of_mul_eq_mul_left (by omega) h5
    refine isI_write (a := (i + K74).toNat) (c := (j + K74).toNat + more + 1) (by omega) ?_ hg ?_
    · rw [Nat.mul_assoc, hDv, Nat.pow_succ]
      generalize 2 ^ ((j + K74).toNat + more) = X
      rw [Nat.mul_comm 2, Nat.mul_assoc]
    · intro h0
      have hgq : g * q ≠ 0 := fun h => (Int.mul_eq_zero.1 h).elim h0 hq
      have s1 := sg_sign hv hgq
      have s2 := sg_sign hv2 hq
      have key : (g * q < 0) ↔ ((g < 0 ∧ 0 < q) ∨ (0 < g ∧ q < 0)) := by
        constructor
        · intro h
          rcases Int.lt_or_gt_of_ne h0 with hp | hp <;> rcases Int.lt_or_gt_of_ne hq with hq' | hq'
          · have := Int.mul_pos_of_neg_of_neg hp hq'; omega
          · exact .inl ⟨hp, hq'⟩
          · exact .inr ⟨hp, hq'⟩
          · have := Int.mul_pos hp hq'; omega
        · rintro (⟨h, h'⟩ | ⟨h, h'⟩)
          · exact Int.mul_neg_of_neg_of_pos h h'
          · exact Int.mul_neg_of_pos_of_neg h h'
      rw [key] at s1
      cases s <;> cases t <;> simp at s1 s2 ⊢ <;> omega
theorem isI_sqrt {x : FV} (hx : IsI x 0) : IsI (fsqrt x) 0 := by
  obtain ⟨b, s, m, i, rfl, _, hr, hi, hv⟩ := hx
  have h1 := sg_abs hv
  have hm : m = 0 := by
    rw [show (0 : Int).natAbs = 0 from rfl, Nat.zero_mul] at h1
    rcases Nat.mul_eq_zero.1 h1 with h | h
    · exact h
    · exact absurd h two_ne
  subst hm
  have e : fsqrt (some b) = some (Ieee.double.write (.number s 0 i)) := by
    show ((Ieee.double.read b).root (Ieee.double.fractionBits + 2)).map Ieee.double.write = _
    rw [hr]; rfl
  rw [e]
  exact isI_nought
theorem read_abs {b : Nat} {s : Bool} {m : Nat} {i : Int} (h : Ieee.double.read b = .number s m i) : Ieee.double.read (b % 9223372036854775808) = .number false m i := by
  have e1 : b % 9223372036854775808 % 9223372036854775808 = b % 9223372036854775808 := Nat.mod_mod _ _
  have e2 : b % 9223372036854775808 / 9223372036854775808 = 0 := Nat.div_eq_of_lt (Nat.mod_lt _ (by decide))
  rw [read_eq] at h ⊢
  rw [e1, e2]
  split at h
  · rename_i h1; rw [if_pos h1]; cases h; rfl
  · rename_i h1
    rw [if_neg h1]
    split at h
    · rename_i h2; rw [if_pos h2]; cases h; rfl
    · split at h <;> cases h
theorem isI_abs {x : FV} {z : Int} (hx : IsI x z) : IsI (fabs x) ((z.natAbs : Nat) : Int) := by
  obtain ⟨b, s, m, i, rfl, _, hr, hi, hv⟩ := hx
  refine ⟨b % 9223372036854775808, false, m, i, rfl, by omega, read_abs hr, hi, ?_⟩
  rw [sg_eq, sg_abs hv]
  simp only [Bool.false_eq_true, if_false]
  rw [Int.one_mul, Int.natCast_mul]
theorem cmp_scale {a b p q c d : Int} (ha : a * c = p * d) (hb : b * c = q * d) (hc : 0 < c) (hd : 0 < d) : compare a b = compare p q := by
  have lt1 : a < b ↔ p < q := by
    constructor
    · intro h
      apply Classical.byContradiction
      intro hn
      have h1 := Int.mul_le_mul_of_nonneg_right (show q ≤ p by omega) (show 0 ≤ d by omega)
      have h2 := Int.mul_lt_mul_of_pos_right h hc
      omega
    · intro h
      apply Classical.byContradiction
      intro hn
      have h1 := Int.mul_le_mul_of_nonneg_right (show b ≤ a by omega) (show 0 ≤ c by omega)
      have h2 := Int.mul_lt_mul_of_pos_right h hd
      omega
  have lt2 : b < a ↔ q < p := by
    constructor
    · intro h
      apply Classical.byContradiction
      intro hn
      have h1 := Int.mul_le_mul_of_nonneg_right (show p ≤ q by omega) (show 0 ≤ d by omega)
      have h2 := Int.mul_lt_mul_of_pos_right h hc
      omega
    · intro h
      apply Classical.byContradiction
      intro hn
      have h1 := Int.mul_le_mul_of_nonneg_right (show a ≤ b by omega) (show 0 ≤ c by omega)
      have h2 := Int.mul_lt_mul_of_pos_right h hd
      omega
  show compareOfLessAndEq a b = compareOfLessAndEq p q
  unfold compareOfLessAndEq
  by_cases h1 : a < b
  · rw [if_pos h1, if_pos (lt1.1 h1)]
  · rw [if_neg h1, if_neg (fun h => h1 (lt1.2 h))]
    by_cases h2 : a = b
    · have : p = q := by
        have n1 : ¬ p < q := fun h => h1 (lt1.2 h)
        have n2 : ¬ q < p := fun h => by have := lt2.2 h; omega
        omega
      rw [if_pos h2, if_pos this]
    · have : ¬ p = q := by
        have : b < a := by omega
        have := lt2.1 this
        omega
      rw [if_neg h2, if_neg this]
theorem isI_ord {x y : FV} {p q : Int} (hx : IsI x p) (hy : IsI y q) : ford x y = some (compare p q) := by
  obtain ⟨b, s, m, i, rfl, _, hr, hi, hv⟩ := hx
  obtain ⟨c, t, n, j, rfl, _, hr2, hj, hv2⟩ := hy
  have hk := k74
  have hbase : min i j = i ∨ min i j = j := by omega
  show (Ieee.double.read b).order (Ieee.double.read c) = _
  rw [hr, hr2]
  show some (compare (signed s m (i - min i j).toNat) (signed t n (j - min i j).toNat)) = _
  congr 1
  refine cmp_scale (c := ((2 ^ (min i j + K74).toNat : Nat) : Int)) (d := ((2 ^ K74 : Nat) : Int)) ?_ ?_ (pow_posI _) (pow_posI _)
  · rw [← sg_shift, show (i - min i j).toNat + (min i j + K74).toNat = (i + K74).toNat by omega, hv]
  · rw [← sg_shift, show (j - min i j).toNat + (min i j + K74).toNat = (j + K74).toNat by omega, hv2]
theorem cmp_eq (p q : Int) : (compare p q == Ordering.eq) = decide (p = q) := by
  show (compareOfLessAndEq p q == Ordering.eq) = _
  unfold compareOfLessAndEq
  by_cases h1 : p < q
  · rw [if_pos h1, decide_eq_false (by omega)]; rfl
  · rw [if_neg h1]
    by_cases h2 : p = q
    · rw [if_pos h2, decide_eq_true h2]; rfl
    · rw [if_neg h2, decide_eq_false h2]; rfl
theorem cmp_lt (p q : Int) : (compare p q == Ordering.lt) = decide (p < q) := by
  show (compareOfLessAndEq p q == Ordering.lt) = _
  unfold compareOfLessAndEq
  by_cases h1 : p < q
  · rw [if_pos h1, decide_eq_true h1]; rfl
  · rw [if_neg h1, decide_eq_false h1]
    split <;> rfl
theorem cmp_gt (p q : Int) : (compare p q == Ordering.gt) = decide (q < p) := by
  show (compareOfLessAndEq p q == Ordering.gt) = _
  unfold compareOfLessAndEq
  by_cases h1 : p < q
  · rw [if_pos h1, decide_eq_false (by omega)]; rfl
  · rw [if_neg h1]
    by_cases h2 : p = q
    · rw [if_pos h2, decide_eq_false (by omega)]; rfl
    · rw [if_neg h2, decide_eq_true (by omega)]; rfl
section
variable {x y : FV} {p q : Int} (hx : IsI x p) (hy : IsI y q)
include hx hy
theorem isI_eq : fEq x y = decide (p = q) := by
  unfold fEq; rw [isI_ord hx hy]
  exact cmp_eq p q
theorem isI_ne : fNe x y = !decide (p = q) := by rw [← isI_eq hx hy]; rfl
theorem isI_lt : fLt x y = decide (p < q) := by
  unfold fLt; rw [isI_ord hx hy]
  exact cmp_lt p q
theorem isI_ge : fGe x y = decide (q ≤ p) := by
  unfold fGe; rw [isI_ord hx hy]
  have h1 := cmp_gt p q
  have h2 := cmp_eq p q
  show ((compare p q == Ordering.gt) || (compare p q == Ordering.eq)) = _
  rw [h1, h2, Bool.eq_iff_iff]; simp; omega
theorem isI_le : fLe x y = decide (p ≤ q) := by
  unfold fLe; rw [isI_ord hx hy]
  have h1 := cmp_lt p q
  have h2 := cmp_eq p q
  show ((compare p q == Ordering.lt) || (compare p q == Ordering.eq)) = _
  rw [h1, h2, Bool.eq_iff_iff]; simp; omega
end
end Go.KL

/- Bells that are struck just in time: judged to the last bit. -/
namespace Go.KL
def sumZ (z : Nat → Int) : Nat → Int
  | 0 => 0
  | k + 1 => sumZ z k + z k
theorem sumZ_bd {z : Nat → Int} {B : Nat} : ∀ {k : Nat}, (∀ j, j < k → (z j).natAbs ≤ B) → (sumZ z k).natAbs ≤ B * k
  | 0, _ => by simp [sumZ]
  | k + 1, h => by
    have h1 := sumZ_bd (z := z) (B := B) (k := k) (fun j hj => h j (by omega))
    have h2 := h k (by omega)
    rw [sumZ, Nat.mul_succ]; omega
theorem fold_int {f : Nat → FV} {z : Nat → Int} {B n : Nat} (hf : ∀ j, j < n → IsI (f j) (z j)) (hB : ∀ j, j < n → (z j).natAbs ≤ B) (hn : B * n + B ≤ 4503599627370496) : ∀ k, k ≤ n → IsI (foldTo f k).1 (sumZ z k) ∧ IsI (foldTo f k).2 0
  | 0, _ => ⟨isI_zero, isI_zero⟩
  | k + 1, hk => by
    obtain ⟨h1, h2⟩ := fold_int hf hB hn k (by omega)
    have hx := hf k (by omega)
    have hb := hB k (by omega)
    have hs := sumZ_bd (z := z) (B := B) (k := k) (fun j hj => hB j (by omega))
    have hm : B * k ≤ B * n := Nat.mul_le_mul_left _ (by omega)
    rw [foldTo, sumZ]
    generalize foldTo f k = s at h1 h2 ⊢
    generalize sumZ z k = A at h1 hs ⊢
    generalize f k = x at hx ⊢
    generalize z k = y at hx hb ⊢
    have ht := isI_add h1 hx (by omega)
    refine ⟨ht, ?_⟩
    show IsI (fadd s.2 (if fGe (fabs s.1) (fabs x) = true then fadd (fsub s.1 (fadd s.1 x)) x else fadd (fsub x (fadd s.1 x)) s.1)) 0
    split
    · have e1 := isI_sub h1 ht (by omega)
      have e2 := isI_add e1 hx (by omega)
      have e3 := isI_add h2 e2 (by omega)
      rwa [show (0 : Int) + (A - (A + y) + y) = 0 by omega] at e3
    · have e1 := isI_sub hx ht (by omega)
      have e2 := isI_add e1 h1 (by omega)
      have e3 := isI_add h2 e2 (by omega)
      rwa [show (0 : Int) + (y - (A + y) + A) = 0 by omega] at e3
theorem val_int {s : SFV} {A : Int} (h : IsI s.1 A ∧ IsI s.2 0) (hb : A.natAbs ≤ 9007199254740992) : IsI (valS s) A := by
  have := isI_add h.1 h.2 (by omega)
  rwa [Int.add_zero] at this
theorem sumZ_add (a b : Nat → Int) : ∀ k, sumZ (fun j => a j + b j) k = sumZ a k + sumZ b k
  | 0 => rfl
  | k + 1 => by rw [sumZ, sumZ_add a b k, sumZ, sumZ]; omega
theorem sumZ_mul (g : Int) (a : Nat → Int) : ∀ k, sumZ (fun j => g * a j) k = g * sumZ a k
  | 0 => by simp [sumZ]
  | k + 1 => by rw [sumZ, sumZ_mul g a k, sumZ, Int.mul_add]
theorem sumZ_const (g : Int) : ∀ k, sumZ (fun _ => g) k = g * (k : Int)
  | 0 => by simp [sumZ]
  | k + 1 => by rw [sumZ, sumZ_const g k]; grind
theorem sumZ_nat (a : Nat → Nat) : ∀ k, sumZ (fun j => ((a j : Nat) : Int)) k = ((sumN a k : Nat) : Int)
  | 0 => rfl
  | k + 1 => by rw [sumZ, sumZ_nat a k, sumN]; omega
theorem sumZ_congr {a b : Nat → Int} : ∀ {k : Nat}, (∀ j, j < k → a j = b j) → sumZ a k = sumZ b k
  | 0, _ => rfl
  | k + 1, h => by rw [sumZ, sumZ, sumZ_congr (fun j hj => h j (by omega)), h k (by omega)]
/-! ### Not all beats are one -/
theorem sq_nn (a : Int) : 0 ≤ a * a := by
  by_cases h : 0 ≤ a
  · exact Int.mul_nonneg h h
  · have := Int.mul_nonneg (show 0 ≤ -a by omega) (show 0 ≤ -a by omega)
    rwa [Int.neg_mul_neg] at this
theorem sq_sum (N : Nat) (c : Int) : ∀ k, 0 ≤ ((bQ N k : Nat) : Int) + (k : Int) * (c * c) - 2 * c * ((bX N k : Nat) : Int)
  | 0 => by simp [bQ, bX, sumN]
  | k + 1 => by
    have ih := sq_sum N c k
    have e1 : ((bQ N (k + 1) : Nat) : Int) = ((bQ N k : Nat) : Int) + ((beatN k N : Nat) : Int) * ((beatN k N : Nat) : Int) := by
      show ((bQ N k + beatN k N * beatN k N : Nat) : Int) = _
      rw [Int.natCast_add, Int.natCast_mul]
    have e2 : ((bX N (k + 1) : Nat) : Int) = ((bX N k : Nat) : Int) + ((beatN k N : Nat) : Int) := by
      show ((bX N k + beatN k N : Nat) : Int) = _
      rw [Int.natCast_add]
    have hs := sq_nn (((beatN k N : Nat) : Int) - c)
    rw [e1, e2]
    generalize ((bQ N k : Nat) : Int) = Q at *
    generalize ((bX N k : Nat) : Int) = X at *
    generalize ((beatN k N : Nat) : Int) = y at *
    have e3 : Q + y * y + ((k + 1 : Nat) : Int) * (c * c) - 2 * c * (X + y) = (Q + (k : Int) * (c * c) - 2 * c * X) + (y - c) * (y - c) := by
      rw [Int.natCast_add]; grind
    rw [e3]; omega
theorem below_pos (N : Nat) (h : 1 ≤ N) : ∀ k : Nat, 2 ≤ k → 0 < (k : Int) * ((bQ N k : Nat) : Int) - ((bX N k : Nat) : Int) * ((bX N k : Nat) : Int)
  | 0, h2 => by omega
  | 1, h2 => by omega
  | 2, _ => by
    have e0 : beatN 0 N = 0 := by unfold beatN; rw [Nat.zero_div]
    have e1 : beatN 1 N = 1 := by
      unfold beatN
      rw [Nat.div_eq_of_lt (by omega)]
    have hx : bX N 2 = 1 := by show 0 + beatN 0 N + beatN 1 N = 1; rw [e0, e1]
    have hq : bQ N 2 = 1 := by show 0 + beatN 0 N * beatN 0 N + beatN 1 N * beatN 1 N = 1; rw [e0, e1]
    rw [hx, hq]; decide
  | k + 3, _ => by
    have ih := below_pos N h (k + 2) (by omega)
    have hs := sq_sum N ((beatN (k + 2) N : Nat) : Int) (k + 2)
    have e1 : ((bQ N (k + 3) : Nat) : Int) = ((bQ N (k + 2) : Nat) : Int) + ((beatN (k + 2) N : Nat) : Int) * ((beatN (k + 2) N : Nat) : Int) := by
      show ((bQ N (k + 2) + beatN (k + 2) N * beatN (k + 2) N : Nat) : Int) = _
      rw [Int.natCast_add, Int.natCast_mul]
    have e2 : ((bX N (k + 3) : Nat) : Int) = ((bX N (k + 2) : Nat) : Int) + ((beatN (k + 2) N : Nat) : Int) := by
      show ((bX N (k + 2) + beatN (k + 2) N : Nat) : Int) = _
      rw [Int.natCast_add]
    rw [e1, e2]
    generalize ((bQ N (k + 2) : Nat) : Int) = Q at *
    generalize ((bX N (k + 2) : Nat) : Int) = X at *
    generalize ((beatN (k + 2) N : Nat) : Int) = y at *
    have e3 : ((k + 3 : Nat) : Int) * (Q + y * y) - (X + y) * (X + y) = (((k + 2 : Nat) : Int) * Q - X * X) + (Q + ((k + 2 : Nat) : Int) * (y * y) - 2 * y * X) := by
      rw [show ((k + 3 : Nat) : Int) = ((k + 2 : Nat) : Int) + 1 by omega]
      generalize ((k + 2 : Nat) : Int) = W
      grind
    rw [e3]; omega
/-! ### The blows -/
def stkL (N : Nat) (st gp : Int) (k : Nat) : List BBlow := (List.range k).map fun j => (((j % N : Nat) : Int), fint (st + gp * ((beatN j N : Nat) : Int)))
theorem stkL_len (N : Nat) (st gp : Int) (k : Nat) : (stkL N st gp k).length = k := by simp [stkL]
theorem stkL_succ (N : Nat) (st gp : Int) (k : Nat) : stkL N st gp (k + 1) = stkL N st gp k ++ [(((k % N : Nat) : Int), fint (st + gp * ((beatN k N : Nat) : Int)))] := by simp [stkL, List.range_succ]
theorem stkL_get {N : Nat} {st gp : Int} {k j : Nat} (h : j < k) : (stkL N st gp k).getD j B0 = (((j % N : Nat) : Int), fint (st + gp * ((beatN j N : Nat) : Int))) := by simp [stkL, h]
theorem beat_mono {N j k : Nat} (h : j ≤ k) : beatN j N ≤ beatN k N := by
  unfold beatN
  have := Nat.div_le_div_right (c := 2 * N) h
  omega
theorem lo_const : fint (-1000000000) = some 13965043853221167104 := by decide +kernel
theorem hi_const : fint 1000000000 = some 4741671816366391296 := by decide +kernel
section
variable {N K : Nat} {st gp : Int} (hN1 : 1 ≤ N) (hN2 : N ≤ 12) (hs : st.natAbs ≤ 100000) (hg0 : 0 ≤ gp) (hg : gp ≤ 1000) (hK1 : 2 ≤ K) (hK : K ≤ 301)
include hs hg0 hg hK in
theorem tm_bd {j : Nat} (hj : j < K) : (st + gp * ((beatN j N : Nat) : Int)).natAbs ≤ 702000 := by
  have hb := beat_le (N := N) (k := j)
  have h1 : gp * ((beatN j N : Nat) : Int) ≤ 1000 * 602 := Int.mul_le_mul hg (by omega) (by omega) (by omega)
  have h2 : 0 ≤ gp * ((beatN j N : Nat) : Int) := Int.mul_nonneg hg0 (by omega)
  omega
include hs hg0 hg hK in
theorem tm_int {j : Nat} (hj : j < K) : IsI (tmF (stkL N st gp K) j) (st + gp * ((beatN j N : Nat) : Int)) := by
  unfold tmF
  rw [stkL_get hj]
  exact isI_int (by have := tm_bd (N := N) hs hg0 hg hK hj; omega)
include hN1 hN2 hs hg0 hg hK1 hK in
theorem stk_ok : blowsE (N : Int) (stkL N st gp K) = 0 := by
  have hl := stkL_len N st gp K
  refine blows_0 (by omega) (by omega) fun j hj => ?_
  rw [hl] at hj
  have ht := tm_int (N := N) hs hg0 hg hK hj
  have hb := tm_bd (N := N) hs hg0 hg hK hj
  have hlo : IsI (some 13965043853221167104) (-1000000000) := lo_const ▸ isI_int (by decide)
  have hhi : IsI (some 4741671816366391296) 1000000000 := hi_const ▸ isI_int (by decide)
  have h1 : fGe ((stkL N st gp K).getD j B0).2 (some 13965043853221167104) = true := by
    have := isI_ge ht hlo
    unfold tmF at this
    rw [this]; exact decide_eq_true (by omega)
  have h2 : fLe ((stkL N st gp K).getD j B0).2 (some 4741671816366391296) = true := by
    have := isI_le ht hhi
    unfold tmF at this
    rw [this]; exact decide_eq_true (by omega)
  have hm := Nat.mod_lt j (show 0 < N by omega)
  unfold blowBad
  rw [h1, h2]
  have h3 : (decide ((0 : Int) < ((j : Nat) : Int)) && fLt ((stkL N st gp K).getD j B0).2 ((stkL N st gp K).getD ((((j : Nat) : Int) - (1 : Int))).toNat B0).2) = false := by
    by_cases h0 : j = 0
    · subst h0; rfl
    · have e : ((((j : Nat) : Int) - (1 : Int))).toNat = j - 1 := by omega
      have ht2 := tm_int (N := N) (j := j - 1) hs hg0 hg hK (by omega)
      have hlt := isI_lt ht ht2
      unfold tmF at hlt
      rw [e, hlt]
      have hmo := beat_mono (N := N) (j := j - 1) (k := j) (by omega)
      have hle : gp * ((beatN (j - 1) N : Nat) : Int) ≤ gp * ((beatN j N : Nat) : Int) := Int.mul_le_mul_of_nonneg_left (by omega) hg0
      rw [decide_eq_false (show ¬ (st + gp * ((beatN j N : Nat) : Int) < st + gp * ((beatN (j - 1) N : Nat) : Int)) by omega), Bool.and_false]
  rw [h3, stkL_get hj]
  show ((decide (((j % N : Nat) : Int) < 0) || decide ((N : Int) ≤ ((j % N : Nat) : Int))) || !(true && true) || false) = false
  rw [decide_eq_false (by omega), decide_eq_false (by omega)]; rfl
include hN1 hs hg0 hg hK1 hK in
theorem stk_nums : IsI (gapF N (stkL N st gp K)) gp ∧ IsI (startF N (stkL N st gp K)) st := by
  have hl := stkL_len N st gp K
  have hbeat : ∀ j, j < K → beatN j N ≤ 602 := fun j hj => by have := beat_le (N := N) (k := j); omega
  have hT := (fold_int (f := tmF (stkL N st gp K)) (z := fun j => st + gp * ((beatN j N : Nat) : Int)) (B := 702000) (n := K) (fun j hj => tm_int (N := N) hs hg0 hg hK hj) (fun j hj => tm_bd (N := N) hs hg0 hg hK hj) (by omega)) K (Nat.le_refl _)
  have hC : ∀ j, j < K → IsI (ctF N (stkL N st gp K) j) (((beatN j N : Nat) : Int) * (st + gp * ((beatN j N : Nat) : Int))) ∧ (((beatN j N : Nat) : Int) * (st + gp * ((beatN j N : Nat) : Int))).natAbs ≤ 422604000 := fun j hj => by
    have h1 := hbeat j hj
    have h2 := tm_bd (N := N) hs hg0 hg hK hj
    have h3 : (((beatN j N : Nat) : Int) * (st + gp * ((beatN j N : Nat) : Int))).natAbs ≤ 602 * 702000 := by
      rw [Int.natAbs_mul]
      exact Nat.mul_le_mul (by omega) h2
    exact ⟨isI_mul (isI_int (by omega)) (tm_int (N := N) hs hg0 hg hK hj) (by omega), by omega⟩
  have hXT := (fold_int (f := ctF N (stkL N st gp K)) (z := fun j => ((beatN j N : Nat) : Int) * (st + gp * ((beatN j N : Nat) : Int))) (B := 422604000) (n := K) (fun j hj => (hC j hj).1) (fun j hj => (hC j hj).2) (by omega)) K (Nat.le_refl _)
  -- the sums
  have sT : sumZ (fun j => st + gp * ((beatN j N : Nat) : Int)) K = st * (K : Int) + gp * ((bX N K : Nat) : Int) := by
    rw [sumZ_add (fun _ => st), sumZ_const, sumZ_mul, sumZ_nat]; rfl
  have sXT : sumZ (fun j => ((beatN j N : Nat) : Int) * (st + gp * ((beatN j N : Nat) : Int))) K = st * ((bX N K : Nat) : Int) + gp * ((bQ N K : Nat) : Int) := by
    rw [sumZ_congr (b := fun j => st * ((beatN j N : Nat) : Int) + gp * ((beatN j N * beatN j N : Nat) : Int)) (fun j _ => by rw [Int.natCast_mul]; grind), sumZ_add, sumZ_mul, sumZ_mul, sumZ_nat, sumZ_nat]; rfl
  have bT := sumZ_bd (z := fun j => st + gp * ((beatN j N : Nat) : Int)) (B := 702000) (k := K) (fun j hj => tm_bd (N := N) hs hg0 hg hK hj)
  have bXT := sumZ_bd (z := fun j => ((beatN j N : Nat) : Int) * (st + gp * ((beatN j N : Nat) : Int))) (B := 422604000) (k := K) (fun j hj => (hC j hj).2)
  rw [sT] at hT bT
  rw [sXT] at hXT bXT
  have bX1 : bX N K ≤ 602 * K := sumN_le (fun j hj => hbeat j hj)
  have bQ1 : bQ N K ≤ 362404 * K := sumN_le (fun j hj => Nat.mul_le_mul (hbeat j hj) (hbeat j hj))
  have hb0 := below_pos N hN1 K hK1
  have vT := val_int hT (by omega)
  have vXT := val_int hXT (by omega)
  generalize hX : bX N K = X at *
  generalize hQ : bQ N K = Q at *
  have iK : IsI (fint ((K : Nat) : Int)) (K : Int) := isI_int (by omega)
  have iX : IsI (fint ((X : Nat) : Int)) (X : Int) := isI_int (by omega)
  have hKQ : K * Q ≤ 301 * 109083604 := Nat.mul_le_mul hK (by omega)
  have hXX : X * X ≤ 181202 * 181202 := Nat.mul_le_mul (by omega) (by omega)
  have hbn : ((K * Q : Nat) : Int) - ((X * X : Nat) : Int) = (K : Int) * (Q : Int) - (X : Int) * (X : Int) := by rw [Int.natCast_mul, Int.natCast_mul]
  have iB : IsI (fint (((K * Q : Nat) : Int) - ((X * X : Nat) : Int))) ((K : Int) * (Q : Int) - (X : Int) * (X : Int)) := by rw [← hbn]; exact isI_int (by omega)
  have m1 : ((K : Int) * (st * (X : Int) + gp * (Q : Int))).natAbs ≤ 301 * 127203804000 := by
    rw [Int.natAbs_mul]; exact Nat.mul_le_mul (by omega) (by omega)
  have m2 : ((X : Int) * (st * (K : Int) + gp * (X : Int))).natAbs ≤ 181202 * 211302000 := by
    rw [Int.natAbs_mul]; exact Nat.mul_le_mul (by omega) (by omega)
  have n1 := isI_mul iK vXT (by omega)
  have n2 := isI_mul iX vT (by omega)
  have n3 := isI_sub n1 n2 (by omega)
  have e1 : (K : Int) * (st * (X : Int) + gp * (Q : Int)) - (X : Int) * (st * (K : Int) + gp * (X : Int)) = gp * ((K : Int) * (Q : Int) - (X : Int) * (X : Int)) := by grind
  rw [e1] at n3
  have iG : IsI (gapF N (stkL N st gp K)) gp := by
    unfold gapF
    rw [hl, hX, hQ]
    exact isI_div n3 iB (by omega) (by omega)
  refine ⟨iG, ?_⟩
  have m3 : (gp * (X : Int)).natAbs ≤ 1000 * 181202 := by
    rw [Int.natAbs_mul]; exact Nat.mul_le_mul (by omega) (by omega)
  have n4 := isI_mul iG iX (by omega)
  have n5 := isI_sub vT n4 (by omega)
  rw [show st * (K : Int) + gp * (X : Int) - gp * (X : Int) = st * (K : Int) by omega] at n5
  unfold startF
  rw [hl, hX]
  exact isI_div n5 iK (by omega) (by omega)
include hN1 hs hg0 hg hK1 hK in
theorem stk_dev {j : Nat} (hj : j < K) : IsI (devF N (stkL N st gp K) j) 0 := by
  obtain ⟨iG, iS⟩ := stk_nums hN1 hs hg0 hg hK1 hK
  have hb := beat_le (N := N) (k := j)
  have ht := tm_int (N := N) hs hg0 hg hK hj
  have htb := tm_bd (N := N) hs hg0 hg hK hj
  have m1 : (gp * ((beatN j N : Nat) : Int)).natAbs ≤ 1000 * 602 := by
    rw [Int.natAbs_mul]; exact Nat.mul_le_mul (by omega) (by omega)
  have n1 := isI_mul iG (isI_int (z := ((beatN j N : Nat) : Int)) (by omega)) (by omega)
  have n2 := isI_add iS n1 (by omega)
  have n3 := isI_sub ht n2 (by omega)
  rwa [show st + gp * ((beatN j N : Nat) : Int) - (st + gp * ((beatN j N : Nat) : Int)) = 0 by omega] at n3
theorem sumZ_zero : ∀ k, sumZ (fun _ => 0) k = 0
  | 0 => rfl
  | k + 1 => by rw [sumZ, sumZ_zero k]; rfl
include hN1 hs hg0 hg hK1 hK in
theorem stk_mean : IsI (meanF N (stkL N st gp K)) 0 := by
  have hl := stkL_len N st gp K
  have hF := (fold_int (f := fun j => fabs (devF N (stkL N st gp K) j)) (z := fun _ => 0) (B := 0) (n := K) (fun j hj => isI_abs (stk_dev hN1 hs hg0 hg hK1 hK hj)) (fun _ _ => by decide) (by omega)) K (Nat.le_refl _)
  rw [sumZ_zero] at hF
  have hv := val_int hF (by decide)
  unfold meanF farF
  rw [hl]
  exact isI_div (g := 0) (q := (K : Int)) (by rw [Int.zero_mul]; exact hv) (isI_int (by omega)) (by omega) (by decide)
include hN1 hs hg0 hg hK1 hK in
theorem stk_spr : IsI (sprF N (stkL N st gp K)) 0 := by
  have hl := stkL_len N st gp K
  have hF := (fold_int (f := fun j => fmul (devF N (stkL N st gp K) j) (devF N (stkL N st gp K) j)) (z := fun _ => 0) (B := 0) (n := K) (fun j hj => isI_mul (stk_dev hN1 hs hg0 hg hK1 hK hj) (stk_dev hN1 hs hg0 hg hK1 hK hj) (by decide)) (fun _ _ => by decide) (by omega)) K (Nat.le_refl _)
  rw [sumZ_zero] at hF
  have hv := val_int hF (by decide)
  unfold sprF sqF
  rw [hl]
  exact isI_sqrt (isI_div (g := 0) (q := (K : Int)) (by rw [Int.zero_mul]; exact hv) (isI_int (by omega)) (by omega) (by decide))
theorem own_zero {f : Nat → FV} {b : Nat → Nat} {N n : Nat} (hf : ∀ j, j < n → IsI (f j) 0) : ∀ k, k ≤ n → ∀ i, IsI ((ownL f b N k).getD i S0).1 0 ∧ IsI ((ownL f b N k).getD i S0).2 0
  | 0, _, i => by
    have e : (List.replicate N S0).getD i S0 = S0 := by
      rw [List.getD_eq_getElem?_getD, List.getElem?_replicate]; split <;> rfl
    rw [ownL, e]; exact ⟨isI_zero, isI_zero⟩
  | k + 1, hk, i => by
    have ih := own_zero hf (N := N) (b := b) k (by omega)
    by_cases e : b k = i
    · by_cases hl : b k < (ownL f b N k).length
      · subst e
        rw [ownL, getD_set_self S0 hl]
        obtain ⟨h1, h2⟩ := ih (b k)
        have hx := hf k (by omega)
        generalize (ownL f b N k).getD (b k) S0 = s at h1 h2 ⊢
        generalize f k = x at hx ⊢
        have ht := isI_add h1 hx (by decide)
        refine ⟨ht, ?_⟩
        show IsI (fadd s.2 (if fGe (fabs s.1) (fabs x) = true then fadd (fsub s.1 (fadd s.1 x)) x else fadd (fsub x (fadd s.1 x)) s.1)) 0
        split
        · exact isI_add h2 (isI_add (isI_sub h1 ht (by decide)) hx (by decide)) (by decide)
        · exact isI_add h2 (isI_add (isI_sub hx ht (by decide)) h1 (by decide)) (by decide)
      · rw [ownL, List.set_eq_of_length_le (by omega)]; exact ih i
    · have e2 : (ownL f b N (k + 1)).getD i S0 = (ownL f b N k).getD i S0 := by
        rw [ownL, List.getD_eq_getElem?_getD, List.getElem?_set_ne e, ← List.getD_eq_getElem?_getD]
      rw [e2]; exact ih i
include hN1 hs hg0 hg hK1 hK in
theorem stk_bell (b : Nat) : IsI (bellF N (stkL N st gp K) b) 0 := by
  have hl := stkL_len N st gp K
  unfold bellF
  rw [hl]
  split
  · rename_i hc
    have hbd := rangL_bd (blB (stkL N st gp K)) N K b
    have ho := own_zero (f := devF N (stkL N st gp K)) (b := blB (stkL N st gp K)) (N := N) (n := K) (fun j hj => stk_dev hN1 hs hg0 hg hK1 hK hj) K (Nat.le_refl _) b
    have hv := val_int ho (by decide)
    exact isI_add (isI_div (g := 0) (by rw [Int.zero_mul]; exact hv) (isI_int (by omega)) (by omega) (by decide)) isI_zero (by decide)
  · exact isI_zero
include hN1 hN2 hs hg0 hg hK1 hK in
theorem stk_all : blowsE (N : Int) (stkL N st gp K) = 0 ∧ fNe (fadd (startF N (stkL N st gp K)) (some 0)) (fint st) = false ∧ fNe (fadd (gapF N (stkL N st gp K)) (some 0)) (fint gp) = false ∧ fNe (meanF N (stkL N st gp K)) (some 0) = false ∧ fNe (sprF N (stkL N st gp K)) (some 0) = false ∧
    (bellsF N (stkL N st gp K)).length = N ∧ ∀ i, i < N → fNe ((bellsF N (stkL N st gp K)).getD i (some 0)) (some 0) = false := by
  obtain ⟨iG, iS⟩ := stk_nums hN1 hs hg0 hg hK1 hK
  refine ⟨stk_ok hN1 hN2 hs hg0 hg hK1 hK, ?_, ?_, ?_, ?_, belTo_len _ _ _, fun i hi => ?_⟩
  · rw [isI_ne (isI_add iS isI_zero (by omega)) (isI_int (by omega)), decide_eq_true (by omega)]; rfl
  · rw [isI_ne (isI_add iG isI_zero (by omega)) (isI_int (by omega)), decide_eq_true (by omega)]; rfl
  · rw [isI_ne (stk_mean hN1 hs hg0 hg hK1 hK) isI_zero]; rfl
  · rw [isI_ne (stk_spr hN1 hs hg0 hg hK1 hK) isI_zero]; rfl
  · have e : (bellsF N (stkL N st gp K)).getD i (some 0) = bellF N (stkL N st gp K) i := by
      unfold bellsF belTo
      simp [hi]
    rw [e, isI_ne (stk_bell hN1 hs hg0 hg hK1 hK i) isI_zero]; rfl
end
end Go.KL

