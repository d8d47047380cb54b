/- Floats in a walk: NaNs all alike. -/
import Derived.Test.YtmeijdkjccfpmaaStrikeSumsK1
import Derived.Laws.BitsAllLaws
import Derived.Laws.Externs
import GoSem.Extern.MathFloatBits
import GoSem.Extern.MathSqrt
import Derived.Lib.DecodeN
import Derived.Deep.Strs
import Derived.Lib.SliceRun
namespace Go.KL
open Ieee
/-! ### No operation writes a NaN of itself -/
theorem cn_le {b : Nat} (h : b % 9223372036854775808 ≤ 9218868437227405312) : cn b = some b := by
  unfold cn
  rw [if_neg]
  rw [read_eq]
  split
  · simp [Datum.isNaN]
  · split
    · simp [Datum.isNaN]
    · split
      · simp [Datum.isNaN]
      · omega
theorem cn_gt {b : Nat} (h : 9218868437227405312 < b % 9223372036854775808) : cn b = none := by
  unfold cn
  rw [if_pos]
  rw [read_eq, if_neg (by omega), if_neg (by omega), if_neg (by omega)]; rfl
theorem cn_word (s : Bool) {r : Nat} (h : r ≤ 9218868437227405312) : cn (Ieee.double.word s r) = some (Ieee.double.word s r) := by
  apply cn_le
  rw [word_eq]
  split <;> omega
theorem cn_write {d : Datum} (h : d.isNaN = false) : cn (Ieee.double.write d) = some (Ieee.double.write d) := by
  cases d with
  | number s m i =>
    show cn (Ieee.double.nearest s m i) = some (Ieee.double.nearest s m i)
    unfold Format.nearest
    split
    · exact cn_word s (by omega)
    · simp only []
      refine cn_word s ?_
      rw [← infR_eq]; exact Nat.min_le_right _ _
  | infinity s => exact cn_word s (by rw [infR_eq]; omega)
  | nan s f => cases h
theorem sum_num {x y d : Datum} (h : x.sum y = some d) : d.isNaN = false ∧ x.isNaN = false ∧ y.isNaN = false := by
  cases x <;> cases y <;> simp only [Datum.sum] at h <;> (try cases h) <;> (try (split at h <;> cases h)) <;> simp [Datum.isNaN]
theorem opp_nan (x : Datum) : x.opposite.isNaN = x.isNaN := by cases x <;> rfl
theorem prod_num {x y d : Datum} (h : x.product y = some d) : d.isNaN = false ∧ x.isNaN = false ∧ y.isNaN = false := by
  cases x <;> cases y <;> simp only [Datum.product] at h <;> (try cases h) <;> (try (split at h <;> cases h)) <;> simp [Datum.isNaN]
theorem quo_num {k : Nat} {x y d : Datum} (h : x.quotient k y = some d) : d.isNaN = false ∧ x.isNaN = false ∧ y.isNaN = false := by
  cases x <;> cases y <;> simp only [Datum.quotient] at h <;> (try cases h) <;> (try (split at h <;> (try split at h) <;> cases h)) <;> simp [Datum.isNaN]
theorem root_num {k : Nat} {x d : Datum} (h : x.root k = some d) : d.isNaN = false ∧ x.isNaN = false := by
  cases x <;> simp only [Datum.root] at h <;> (try cases h) <;> (try (split at h <;> (try split at h) <;> cases h)) <;> simp [Datum.isNaN]
theorem cn_num {b : Nat} (h : (Ieee.double.read b).isNaN = false) : cn b = some b := by unfold cn; rw [if_neg (by rw [h]; decide)]
def fop (op : BinOp) (x y : FV) : FV := x.bind fun a => y.bind fun b => floatBits op .f64 a b
theorem fb_some {op : BinOp} {a b r : Nat} (h : floatBits op .f64 a b = some r) : cn a = some a ∧ cn b = some b ∧ cn r = some r ∧ r < 18446744073709551616 := by
  have hw := floatBits_wf h
  have hlt : r < 18446744073709551616 := by simpa [Lit.wf] using hw
  have key : ∀ {f : Option Datum}, f.map Ieee.double.write = some r → ∃ d, f = some d ∧ r = Ieee.double.write d := fun {f} e => by
    cases f with
    | none => cases e
    | some d => exact ⟨d, rfl, by cases e; rfl⟩
  unfold floatBits at h
  split at h
  · obtain ⟨d, e, rfl⟩ := key (f := (Ieee.double.read a).sum (Ieee.double.read b)) h
    obtain ⟨h1, h2, h3⟩ := sum_num e
    exact ⟨cn_num h2, cn_num h3, cn_write h1, hlt⟩
  · obtain ⟨d, e, rfl⟩ := key (f := (Ieee.double.read a).sum (Ieee.double.read b).opposite) h
    obtain ⟨h1, h2, h3⟩ := sum_num e
    rw [opp_nan] at h3
    exact ⟨cn_num h2, cn_num h3, cn_write h1, hlt⟩
  · obtain ⟨d, e, rfl⟩ := key (f := (Ieee.double.read a).product (Ieee.double.read b)) h
    obtain ⟨h1, h2, h3⟩ := prod_num e
    exact ⟨cn_num h2, cn_num h3, cn_write h1, hlt⟩
  · obtain ⟨d, e, rfl⟩ := key (f := (Ieee.double.read a).quotient (Ieee.double.fractionBits + 2) (Ieee.double.read b)) h
    obtain ⟨h1, h2, h3⟩ := quo_num e
    exact ⟨cn_num h2, cn_num h3, cn_write h1, hlt⟩
  · cases h
theorem nan_draw (t : Nat) : (t % 2) * 2 ^ 63 + 0x7ff0000000000000 + 1 + (t / 2) % (2 ^ 52 - 1) < 18446744073709551616 ∧ cn ((t % 2) * 2 ^ 63 + 0x7ff0000000000000 + 1 + (t / 2) % (2 ^ 52 - 1)) = none := by
  have h1 := Nat.mod_lt t (show 0 < 2 by decide)
  have h2 := Nat.mod_lt (t / 2) (show 0 < 2 ^ 52 - 1 by decide)
  refine ⟨by omega, cn_gt ?_⟩
  generalize t / 2 % (2 ^ 52 - 1) = m at h2
  have h3 : t % 2 = 0 ∨ t % 2 = 1 := by omega
  rcases h3 with h3 | h3 <;> rw [h3] <;> omega
section
variable {P : Program}
theorem run_fop {op : BinOp} (hop : op = .add ∨ op = .sub ∨ op = .mul ∨ op = .quo) (t : TypeId) (w : World) (a b : Nat) :
    ∃ r w', (binOp op t (.float .f64 a) (.float .f64 b)).run P w = .ok (.float .f64 r) w' ∧ (w' = w ∨ w' = w.drew) ∧ r < 18446744073709551616 ∧ cn r = fop op (cn a) (cn b) := by
  cases h : floatBits op .f64 a b with
  | some r =>
    obtain ⟨h1, h2, h3, h4⟩ := fb_some h
    exact ⟨r, w, run_float_arith w op t .f64 a b r h, .inl rfl, h4, by rw [h1, h2, h3]; exact h.symm⟩
  | none =>
    obtain ⟨h1, h2⟩ := nan_draw (w.tape w.drawn (.nanBits .f64 a b))
    refine ⟨_, w.drew, ?_, .inr rfl, h1, ?_⟩
    · unfold floatBits at h
      rcases hop with rfl | rfl | rfl | rfl <;> (simp only at h; simp [binOp, Op.floatArith, h, Question.forced, Question.cut])
    · rw [h2]
      unfold fop
      cases ha : cn a with
      | none => rfl
      | some a' =>
        cases hb : cn b with
        | none => rfl
        | some b' =>
          have ea : a' = a := by unfold cn at ha; split at ha <;> cases ha; rfl
          have eb : b' = b := by unfold cn at hb; split at hb <;> cases hb; rfl
          subst ea; subst eb
          exact h.symm
end
def fadd (x y : FV) : FV := fop .add x y
def fsub (x y : FV) : FV := fop .sub x y
def fmul (x y : FV) : FV := fop .mul x y
def fdiv (x y : FV) : FV := fop .quo x y
def ford (x y : FV) : Option Ordering := x.bind fun a => y.bind fun b => Ieee.double.order a b
def fEq (x y : FV) : Bool := ford x y == some .eq
def fNe (x y : FV) : Bool := ford x y != some .eq
def fLe (x y : FV) : Bool := ford x y == some .lt || ford x y == some .eq
def fGe (x y : FV) : Bool := ford x y == some .gt || ford x y == some .eq
def fabs (x : FV) : FV := x.map (· % 9223372036854775808)
def fsqrt (x : FV) : FV := x.bind fun a => Ieee.double.sqrt a
theorem cn_some {b c : Nat} (h : cn b = some c) : c = b ∧ (Ieee.double.read b).isNaN = false := by
  unfold cn at h
  split at h
  · cases h
  · rename_i hn
    exact ⟨by cases h; rfl, by simpa using hn⟩
theorem cn_none {b : Nat} (h : cn b = none) : (Ieee.double.read b).isNaN = true := by
  unfold cn at h
  split at h
  · assumption
  · cases h
theorem ord_cn (a b : Nat) : Ieee.double.order a b = ford (cn a) (cn b) := by
  unfold ford
  cases ha : cn a with
  | none =>
    have := cn_none ha
    unfold Format.order
    cases hr : Ieee.double.read a <;> rw [hr] at this <;> simp [Datum.isNaN] at this
    simp [Datum.order]
  | some a' =>
    obtain ⟨rfl, _⟩ := cn_some ha
    cases hb : cn b with
    | none =>
      have := cn_none hb
      unfold Format.order
      cases hr : Ieee.double.read b <;> rw [hr] at this <;> simp [Datum.isNaN] at this
      cases Ieee.double.read a' <;> simp [Datum.order]
    | some b' =>
      obtain ⟨rfl, _⟩ := cn_some hb
      rfl
def Ty.flt (o : FV) : Ty := ⟨fun _ u => ∃ b, u = .float .f64 b ∧ b < 18446744073709551616 ∧ cn b = o, fun _ h => h⟩
abbrev Ty.flts (xs : List FV) : Ty := .lst .flt xs
theorem one_flt {o : FV} : One (.flt o) := fun _ u ⟨_, e, _⟩ => by rw [e]; rfl
theorem flt_const {σ : GW} {b : Nat} (h : b < 18446744073709551616) (h2 : b % 9223372036854775808 ≤ 9218868437227405312) : (Ty.flt (some b)).has σ (.float .f64 b) := ⟨b, rfl, h, cn_le h2⟩
theorem cvf {σ : GW} {x y : FV} {v : Value} (h : x = y) (k : (Ty.flt x).has σ v) : (Ty.flt y).has σ v := h ▸ k
section
variable {P : Program} {d : Option Tmp} {ty : TypeId} {pos : String} {af : Array Edge} {g : Option (Nat × Bool)} {a : Act} {σ : GW} {t u : TypeId} {x y : Operand} {p q : FV}
theorem y_fop {op : BinOp} (hop : op = .add ∨ op = .sub ∨ op = .mul ∨ op = .quo) (hx : At (.flt p) σ a x) (hy : At (.flt q) σ a y) : Yld P ⟨d, .binOp op t x y u, ty, pos, af, g⟩ a σ (Ty.flt (fop op p q)).pr := by
  obtain ⟨ba, ea, la, ca⟩ := hx
  obtain ⟨bb, eb, lb, cb⟩ := hy
  obtain ⟨r, w', hr, hw, hl, hc⟩ := run_fop (P := P) hop t σ.w ba bb
  intro K Q hk
  have hr' : (execOp a.eval ⟨d, .binOp op t x y u, ty, pos, af, g⟩).run P σ.w = .ok (.value (.float .f64 r)) w' := by
    simp only [execOp, ea, eb]
    rcases hop with rfl | rfl | rfl | rfl <;> simp [eqGuard, hr]
  unfold Oper.wp
  rw [hr']
  rcases hw with rfl | rfl
  · exact hk _ σ (Stp.refl _ _) ⟨r, rfl, hl, by rw [hc, ca, cb]⟩
  · exact hk _ σ.drew (Stp.drew _) ⟨r, rfl, hl, by rw [hc, ca, cb]⟩
theorem y_fadd (hx : At (.flt p) σ a x) (hy : At (.flt q) σ a y) : Yld P ⟨d, .binOp .add t x y u, ty, pos, af, g⟩ a σ (Ty.flt (fadd p q)).pr := y_fop (.inl rfl) hx hy
theorem y_fsub (hx : At (.flt p) σ a x) (hy : At (.flt q) σ a y) : Yld P ⟨d, .binOp .sub t x y u, ty, pos, af, g⟩ a σ (Ty.flt (fsub p q)).pr := y_fop (.inr (.inl rfl)) hx hy
theorem y_fmul (hx : At (.flt p) σ a x) (hy : At (.flt q) σ a y) : Yld P ⟨d, .binOp .mul t x y u, ty, pos, af, g⟩ a σ (Ty.flt (fmul p q)).pr := y_fop (.inr (.inr (.inl rfl))) hx hy
theorem y_fquo (hx : At (.flt p) σ a x) (hy : At (.flt q) σ a y) : Yld P ⟨d, .binOp .quo t x y u, ty, pos, af, g⟩ a σ (Ty.flt (fdiv p q)).pr := y_fop (.inr (.inr (.inr rfl))) hx hy
section
variable (hx : At (.flt p) σ a x) (hy : At (.flt q) σ a y)
include hx hy
theorem y_feql : Yld P ⟨d, .binOp .eql t x y u, ty, pos, af, g⟩ a σ (Ty.bool (fEq p q)).pr := by
  obtain ⟨ba, ea, la, rfl⟩ := hx
  obtain ⟨bb, eb, lb, rfl⟩ := hy
  exact Yld.of_run (v := .bool (Ieee.double.order ba bb == some .eq)) (by simp only [execOp, ea, eb]; simp [go_sem, eqGuard, FloatKind.format]) (by rw [ord_cn]; rfl)
theorem y_fneq : Yld P ⟨d, .binOp .neq t x y u, ty, pos, af, g⟩ a σ (Ty.bool (fNe p q)).pr := by
  obtain ⟨ba, ea, la, rfl⟩ := hx
  obtain ⟨bb, eb, lb, rfl⟩ := hy
  exact Yld.of_run (v := .bool (Ieee.double.order ba bb != some .eq)) (by simp only [execOp, ea, eb]; simp [go_sem, eqGuard, FloatKind.format]) (by rw [ord_cn]; rfl)
theorem y_fleq : Yld P ⟨d, .binOp .leq t x y u, ty, pos, af, g⟩ a σ (Ty.bool (fLe p q)).pr := by
  obtain ⟨ba, ea, la, rfl⟩ := hx
  obtain ⟨bb, eb, lb, rfl⟩ := hy
  exact Yld.of_run (v := .bool (Ieee.double.order ba bb == some .lt || Ieee.double.order ba bb == some .eq)) (by simp only [execOp, ea, eb]; simp [go_sem, eqGuard, FloatKind.format]) (by rw [ord_cn]; rfl)
theorem y_fgeq : Yld P ⟨d, .binOp .geq t x y u, ty, pos, af, g⟩ a σ (Ty.bool (fGe p q)).pr := by
  obtain ⟨ba, ea, la, rfl⟩ := hx
  obtain ⟨bb, eb, lb, rfl⟩ := hy
  exact Yld.of_run (v := .bool (Ieee.double.order ba bb == some .gt || Ieee.double.order ba bb == some .eq)) (by simp only [execOp, ea, eb]; simp [go_sem, eqGuard, FloatKind.format]) (by rw [ord_cn]; rfl)
end
theorem sqrt_ext (b : Nat) : Extern.MathSqrt.sqrt #[.float .f64 b] = (match Ieee.double.sqrt b with | some r => pure (.float .f64 r) | none => do pure (.float .f64 (← choose (.nanBits .f64 b b)))) := rfl
theorem y_fsqrt {f : FuncId} {tys : Array TypeId} (hf : ∀ args w, (callFunc f args).run P w = ((Extern.MathSqrt.sqrt args).run P w).andThen fun v w' => .ok (.value v) w') (hx : At (.flt p) σ a x) :
    Yld P ⟨d, .call ⟨.value (.func f), #[x], tys⟩, ty, pos, af, g⟩ a σ (Ty.flt (fsqrt p)).pr := by
  obtain ⟨b, e, hb, rfl⟩ := hx
  have hrun : ∃ r w', (callFunc f #[.float .f64 b]).run P σ.w = .ok (.value (.float .f64 r)) w' ∧ (w' = σ.w ∨ w' = σ.w.drew) ∧ r < 18446744073709551616 ∧ cn r = fsqrt (cn b) := by
    rw [hf #[.float .f64 b] σ.w, sqrt_ext]
    cases h : Ieee.double.sqrt b with
    | some r =>
      have hlt : r < 18446744073709551616 := Ieee.Format.sqrt_lt _ h
      have h2 : ∃ d, (Ieee.double.read b).root (Ieee.double.fractionBits + 2) = some d ∧ r = Ieee.double.write d := by
        unfold Format.sqrt at h
        cases e2 : (Ieee.double.read b).root (Ieee.double.fractionBits + 2) with
        | none => rw [e2] at h; cases h
        | some d => rw [e2] at h; exact ⟨d, rfl, by cases h; rfl⟩
      obtain ⟨d, e2, rfl⟩ := h2
      obtain ⟨h3, h4⟩ := root_num e2
      exact ⟨_, σ.w, rfl, .inl rfl, hlt, by rw [cn_write h3, cn_num h4]; exact h.symm⟩
    | none =>
      obtain ⟨h1, h2⟩ := nan_draw (σ.w.tape σ.w.drawn (.nanBits .f64 b b))
      refine ⟨_, σ.w.drew, by simp [Question.forced, Question.cut], .inr rfl, h1, ?_⟩
      rw [h2]
      cases hc : cn b with
      | none => rfl
      | some b' =>
        obtain ⟨rfl, _⟩ := cn_some hc
        exact h.symm
  obtain ⟨r, w', hr, hw, hl, hc⟩ := hrun
  intro K Q hk
  have hr' : (execOp a.eval ⟨d, .call ⟨.value (.func f), #[x], tys⟩, ty, pos, af, g⟩).run P σ.w = .ok (.value (.float .f64 r)) w' := by
    simp only [execOp, resolve, List.map_toArray, List.map_cons, List.map_nil, e]
    simp only [Act.eval, Deferred.ofValue, Sem.run_bind, Sem.run_pure, Result.andThen_ok]
    simpa [invoke] using hr
  unfold Oper.wp
  rw [hr']
  rcases hw with rfl | rfl
  · exact hk _ σ (Stp.refl _ _) ⟨r, rfl, hl, hc⟩
  · exact hk _ σ.drew (Stp.drew _) ⟨r, rfl, hl, hc⟩
end
end Go.KL
namespace Go.KL
theorem flt_of {σ : GW} {b : Nat} {v : Value} (h : b < 18446744073709551616) (h2 : b % 9223372036854775808 ≤ 9218868437227405312) (k : (Ty.val (.float .f64 b)).has σ v) : (Ty.flt (some b)).has σ v := by
  have e : v = .float .f64 b := k
  rw [e]; exact flt_const h h2
abbrev BBlow := Int × FV
abbrev SFV := FV × FV
def S0 : SFV := (some 0, some 0)
def addS (s : SFV) (x : FV) : SFV := (fadd s.1 x, fadd s.2 (if fGe (fabs s.1) (fabs x) = true then fadd (fsub s.1 (fadd s.1 x)) x else fadd (fsub x (fadd s.1 x)) s.1))
def valS (s : SFV) : FV := fadd s.1 s.2
def added (l : List FV) : FV := valS (l.foldl addS S0)
end Go.KL
namespace Go.KL
def Ty.fbits (o : FV) : Ty := ⟨fun _ u => ∃ b : Nat, u = .int .u64 b ∧ b < 18446744073709551616 ∧ cn b = o, fun _ h => h⟩
theorem cn_abs {b : Nat} : cn (b % 9223372036854775808) = fabs (cn b) := by
  have hm : b % 9223372036854775808 % 9223372036854775808 = b % 9223372036854775808 := Nat.mod_mod _ _
  by_cases h : b % 9223372036854775808 ≤ 9218868437227405312
  · rw [cn_le h, cn_le (by rw [hm]; exact h)]; rfl
  · rw [cn_gt (by omega : 9218868437227405312 < b % 9223372036854775808), cn_gt (by rw [hm]; omega)]; rfl
section
variable {P : Program} {d : Option Tmp} {ty : TypeId} {pos : String} {af : Array Edge} {g : Option (Nat × Bool)} {a : Act} {σ : GW} {t u : TypeId} {x y : Operand} {p : FV} {f : FuncId} {tys : Array TypeId}
theorem y_fbits (hf : ∀ args w, (callFunc f args).run P w = ((Extern.MathFloatBits.float64bits args).run P w).andThen fun v w' => .ok (.value v) w') (hx : At (.flt p) σ a x) :
    Yld P ⟨d, .call ⟨.value (.func f), #[x], tys⟩, ty, pos, af, g⟩ a σ (Ty.fbits p).pr := by
  obtain ⟨b, e, hb, rfl⟩ := hx
  have hr : (callFunc f #[.float .f64 b]).run P σ.w = .ok (.value (.int .u64 (b : Int))) σ.w := by rw [hf #[.float .f64 b] σ.w]; rfl
  refine Yld.of_run (v := .int .u64 (b : Int)) ?_ ⟨b, rfl, hb, rfl⟩
  simp only [execOp, resolve, List.map_toArray, List.map_cons, List.map_nil, e]
  simp only [Act.eval, Deferred.ofValue, Sem.run_bind, Sem.run_pure, Result.andThen_ok]
  simpa [invoke] using hr
theorem y_fofbits (hf : ∀ args w, (callFunc f args).run P w = ((Extern.MathFloatBits.float64frombits args).run P w).andThen fun v w' => .ok (.value v) w') (hx : At (.fbits p) σ a x) :
    Yld P ⟨d, .call ⟨.value (.func f), #[x], tys⟩, ty, pos, af, g⟩ a σ (Ty.flt p).pr := by
  obtain ⟨b, e, hb, rfl⟩ := hx
  have hr : (callFunc f #[.int .u64 (b : Int)]).run P σ.w = .ok (.value (.float .f64 b)) σ.w := by rw [hf #[.int .u64 (b : Int)] σ.w]; rfl
  refine Yld.of_run (v := .float .f64 b) ?_ ⟨b, rfl, hb, rfl⟩
  simp only [execOp, resolve, List.map_toArray, List.map_cons, List.map_nil, e]
  simp only [Act.eval, Deferred.ofValue, Sem.run_bind, Sem.run_pure, Result.andThen_ok]
  simpa [invoke] using hr
theorem y_fnosign (hx : At (.fbits p) σ a x) (hy : a.eval y = .int .u64 9223372036854775808) : Yld P ⟨d, .binOp .andNot t x y u, ty, pos, af, g⟩ a σ (Ty.fbits (fabs p)).pr := by
  obtain ⟨b, ex, hb, rfl⟩ := hx
  have e : bits .andNot .u64 (b : Int) 9223372036854775808 = ((b % 9223372036854775808 : Nat) : Int) := by
    rw [u64_andNot (b : Int) 9223372036854775808 (by omega) (by omega) (by decide) (by decide)]
    congr 1
    rw [Int.toNat_natCast]
    show b &&& 9223372036854775807 = b % 9223372036854775808
    exact Nat.and_two_pow_sub_one_eq_mod b 63
  exact Yld.of_run (v := .int .u64 ((b % 9223372036854775808 : Nat) : Int)) (by simp only [execOp, ex, hy]; simp only [go_sem, e]; try rfl) ⟨_, rfl, by omega, cn_abs⟩
end
end Go.KL
namespace Go.KL
def pzF (x : FV) : FV := if fEq x (some 0) = true then some 0 else x
section
variable {xs : List FV} {k : Nat}
theorem add_succ (h : k < xs.length) : (xs.take (k + 1)).foldl addS S0 = addS ((xs.take k).foldl addS S0) (xs.getD k (some 0)) := by
  rw [List.take_add_one, List.foldl_append, List.getD_eq_getElem?_getD, List.getElem?_eq_getElem h]; rfl
theorem add_yes (h : k < xs.length) (hc : fGe (fabs ((xs.take k).foldl addS S0).1) (fabs (xs.getD k (some 0))) = true) :
    (xs.take (k + 1)).foldl addS S0 = (fadd ((xs.take k).foldl addS S0).1 (xs.getD k (some 0)), fadd ((xs.take k).foldl addS S0).2 (fadd (fsub ((xs.take k).foldl addS S0).1 (fadd ((xs.take k).foldl addS S0).1 (xs.getD k (some 0)))) (xs.getD k (some 0)))) := by
  rw [add_succ h, addS, if_pos hc]
theorem add_no (h : k < xs.length) (hc : fGe (fabs ((xs.take k).foldl addS S0).1) (fabs (xs.getD k (some 0))) = false) :
    (xs.take (k + 1)).foldl addS S0 = (fadd ((xs.take k).foldl addS S0).1 (xs.getD k (some 0)), fadd ((xs.take k).foldl addS S0).2 (fadd (fsub (xs.getD k (some 0)) (fadd ((xs.take k).foldl addS S0).1 (xs.getD k (some 0)))) ((xs.take k).foldl addS S0).1)) := by
  rw [add_succ h, addS, if_neg (by rw [hc]; decide)]
end
end Go.KL

/- Floats that are whole numbers: exact. -/
namespace Go.KL
open Ieee
theorem read_form {b : Nat} {s : Bool} {m : Nat} {i : Int} (h : Ieee.double.read b = .number s m i) : (m = 0 ∧ i = -1074) ∨ Canon m i := by
  by_cases h0 : b % 9223372036854775808 = 0
  · rw [read_eq, if_pos (by omega), h0] at h
    cases h; exact .inl ⟨rfl, rfl⟩
  · by_cases h1 : b % 9223372036854775808 < 9218868437227405312
    · obtain ⟨m', i', hr, hc, _⟩ := read_canon (by omega) h1
      rw [hr] at h; cases h; exact .inr hc
    · rw [read_eq, if_neg (by omega), if_neg h1] at h
      split at h <;> cases h
theorem word_parts (s : Bool) {r : Nat} (h : r < 9223372036854775808) : Ieee.double.word s r % 9223372036854775808 = r ∧ (Ieee.double.word s r / 9223372036854775808 % 2 == 1) = s ∧ Ieee.double.word s r < 18446744073709551616 := by
  rw [word_eq]
  cases s
  · simp only [Bool.false_eq_true, if_false]
    refine ⟨by omega, ?_, by omega⟩
    rw [Nat.div_eq_of_lt h]; rfl
  · simp only [if_true]
    refine ⟨by omega, ?_, by omega⟩
    have : (9223372036854775808 + r) / 9223372036854775808 = 1 := by omega
    rw [this]; rfl
theorem read_word (s : Bool) {m : Nat} {i : Int} (h : Canon m i) : Ieee.double.read (Ieee.double.word s ((i + 1074).toNat * 4503599627370496 + m)) = .number s m i := by
  have hf := h.fin
  have hl := h.low
  have hlt := h.lt
  obtain ⟨h1, h2, _⟩ := word_parts s (r := (i + 1074).toNat * 4503599627370496 + m) (by omega)
  rw [read_eq, h1, h2]
  generalize hq : (i + 1074).toNat = q at *
  have hiq : i = (q : Int) - 1074 := by omega
  by_cases hm : m < 4503599627370496
  · have hi : i = -1074 := by
      rcases h.norm with hn | hn
      · omega
      · exact hn
    have hq0 : q = 0 := by omega
    subst hq0
    have e0 : 0 * 4503599627370496 + m = m := by omega
    rw [e0, if_pos hm, hi]
  · rw [if_neg (by omega), if_pos (by omega)]
    have e1 : (q * 4503599627370496 + m) / 4503599627370496 = q + 1 := by omega
    have e2 : (q * 4503599627370496 + m) % 4503599627370496 = m - 4503599627370496 := by omega
    have e3 : 4503599627370496 + (m - 4503599627370496) = m := by omega
    have e4 : (-1074 : Int) + ((q + 1 - 1 : Nat) : Int) = i := by omega
    rw [e1, e2, e3, e4]
theorem read_zero (s : Bool) : Ieee.double.read (Ieee.double.word s 0) = .number s 0 (-1074) := by
  obtain ⟨h1, h2, _⟩ := word_parts s (r := 0) (by decide)
  rw [read_eq, h1, h2, if_pos (by decide)]
end Go.KL

/- Floats that are whole numbers: sums, products, quotients of them are exact. -/
namespace Go.KL
open Ieee
def K74 : Nat := 1074
theorem k74 : K74 = 1074 := rfl
attribute [irreducible] K74
theorem sg_eq (s : Bool) (m k : Nat) : signed s m k = (if s = true then -1 else 1) * ((m * 2 ^ k : Nat) : Int) := by
  unfold signed
  rw [Nat.shiftLeft_eq]
  cases s
  · simp only [Bool.false_eq_true, if_false]; omega
  · simp only [if_true]; omega
theorem sg_shift (s : Bool) (m a b : Nat) : signed s m (a + b) = signed s m a * ((2 ^ b : Nat) : Int) := by
  rw [sg_eq, sg_eq, Nat.pow_add, ← Nat.mul_assoc, Int.natCast_mul (m * 2 ^ a), Int.mul_assoc]
def IsI (x : FV) (z : Int) : Prop := ∃ b s m i, x = some b ∧ b < 18446744073709551616 ∧ Ieee.double.read b = .number s m i ∧ -1074 ≤ i ∧ signed s m (i + K74).toNat = z * ((2 ^ K74 : Nat) : Int)
theorem pow_posI (k : Nat) : (0 : Int) < ((2 ^ k : Nat) : Int) := by have := Nat.two_pow_pos k; omega
theorem neg_left {a b : Int} (h : a * b < 0) (hb : 0 < b) : a < 0 := by
  apply Classical.byContradiction
  intro hn
  have := Int.mul_nonneg (show 0 ≤ a by omega) (show 0 ≤ b by omega)
  omega
theorem cmp_eq (p q : Int) : (compare p q == Ordering.eq) = decide (p = q) := by
  show (compareOfLessAndEq p q == Ordering.eq) = _
  unfold compareOfLessAndEq
  by_cases h1 : p < q
  · rw [if_pos h1, decide_eq_false (by omega)]; rfl
  · rw [if_neg h1]
    by_cases h2 : p = q
    · rw [if_pos h2, decide_eq_true h2]; rfl
    · rw [if_neg h2, decide_eq_false h2]; rfl
section
variable {x y : FV} {p q : Int} (hx : IsI x p) (hy : IsI y q)
include hx hy
end
end Go.KL

/- Runes as the document reads them: -1 for a byte that is none. -/
namespace Go.KL
section
variable {s : ByteArray} (h128 : ¬ (s.get! 0).toNat < 128)
include h128 in
end
/-! ### All runes of a text -/
end Go.KL

/- What the law RowSays wants beside: cycles as the document finds them, text by signs. -/
namespace Go.KL
end Go.KL

/- Patterns of bells: the maths. -/
namespace Go.KL
/-! ### Signs -/
/-! ### Ahead of the star and behind it -/
/-! ### What was seen -/
/-! ### Like a pattern -/
/-! ### Steps -/
/-! ### A pattern that may be -/
/-! ### The walks of Like and fits -/
end Go.KL

/- Results of which the first lies in a struct's variable. -/
namespace Go.KL
open Go.RowKit
variable {P : Program} {fn : Func} {σ0 σ : GW} {a : Act} {N d e f : Nat} {D : List Deferred} {L : List Nat} {R : Value → GW → Prop}
end Go.KL

/- How many rows are like patterns. -/
namespace Go.KL
abbrev Ty.str (s : ByteArray) : Ty := Ty.val (.string s)
end Go.KL

/- Rows whose elements are structs of c cells. -/
namespace Go.KL
open Go.RowKit
variable {P : Program} {d : Option Tmp} {ty : TypeId} {pos : String} {af : Array Edge} {g : Option (Nat × Bool)} {a : Act} {σ : GW}
/-! ### Patterns -/
end Go.KL

/- Blows: which may be; floats held against each other; how they are judged. -/
namespace Go.KL
open Ieee
section
variable {n : Int} {l : List BBlow}
end
/-! ### A float is the same as itself -/
theorem read_num {b : Nat} (h : (Ieee.double.read b).isNaN = false) : ford (some b) (some b) = some .eq := by
  show (Ieee.double.read b).order (Ieee.double.read b) = some .eq
  have hc : ∀ z : Int, compare z z = .eq := fun z => Std.ReflOrd.compare_self
  have hn : ∀ z : Nat, compare z z = .eq := fun z => Std.ReflOrd.compare_self
  cases hr : Ieee.double.read b with
  | number s m i => simp [Datum.order, hc]
  | infinity s => simp [Datum.order, hn]
  | nan s f => rw [hr] at h; simp [Datum.isNaN] at h
def Fok (x : FV) : Prop := ∀ b, x = some b → b < 18446744073709551616 ∧ cn b = some b
theorem ne_eq (x y : FV) : fNe x y = !fEq x y := rfl
theorem same_nan {x y : FV} (hxy : x = y) (c : (fNe x x || fNe y y) = true) : (fNe x x && fNe y y) = true := by
  subst hxy
  simpa using c
theorem flt_ok {σ : GW} {x : FV} {v : Value} (h : (Ty.flt x).has σ v) : Fok x := by
  obtain ⟨b, _, hb, rfl⟩ := h
  intro c hc
  obtain ⟨rfl, _⟩ := cn_some hc
  exact ⟨hb, hc⟩
theorem shl_zero {m k : Nat} (h : m <<< k = 0) : m = 0 := by
  rw [Nat.shiftLeft_eq] at h
  rcases Nat.mul_eq_zero.1 h with h | h
  · exact h
  · have := Nat.two_pow_pos k; omega
theorem zero_read {b : Nat} (h : fEq (some b) (some 0) = true) : ∃ s i, Ieee.double.read b = .number s 0 i := by
  have h1 : (Ieee.double.read b).order (Ieee.double.read 0) = some .eq := by
    have h2 : ford (some b) (some 0) = some .eq := by unfold fEq at h; simpa using h
    exact h2
  have h0 : Ieee.double.read 0 = .number false 0 (-1074) := by decide +kernel
  rw [h0] at h1
  cases hr : Ieee.double.read b with
  | number s m i =>
    rw [hr] at h1
    simp only [Datum.order, Option.some.injEq] at h1
    have h3 := Std.LawfulEqOrd.eq_of_compare h1
    have h5 : signed s m (i - min i (-1074)).toNat = 0 := by rw [h3]; simp [signed]
    have h4 : m <<< (i - min i (-1074)).toNat = 0 := by
      unfold signed at h5
      generalize m <<< (i - min i (-1074)).toNat = q at h5 ⊢
      cases s
      · simp only [Bool.false_eq_true, if_false] at h5; omega
      · simp only [if_true] at h5; omega
    rw [shl_zero h4]
    exact ⟨s, i, rfl⟩
  | infinity s => rw [hr] at h1; cases s <;> simp [Datum.order] at h1
  | nan s f => rw [hr] at h1; simp [Datum.order] at h1
theorem one_div_zero {b : Nat} (h : fEq (some b) (some 0) = true) : fEq (fdiv (some 4607182418800017408) (some b)) (fdiv (some 4607182418800017408) (some b)) = true := by
  obtain ⟨s, i, hr⟩ := zero_read h
  obtain ⟨m1, i1, h1, hm⟩ : ∃ m1 i1, Ieee.double.read 4607182418800017408 = .number false m1 i1 ∧ m1 ≠ 0 := ⟨4503599627370496, -52, by decide +kernel, by decide⟩
  have hd : ∃ r, floatBits .quo .f64 4607182418800017408 b = some r := by
    refine ⟨Ieee.double.write (.infinity (false ^^ s)), ?_⟩
    show ((Ieee.double.read 4607182418800017408).quotient (Ieee.double.fractionBits + 2) (Ieee.double.read b)).map Ieee.double.write = _
    rw [h1, hr]
    simp [Datum.quotient, hm]
  obtain ⟨r, hr2⟩ := hd
  have e : fdiv (some 4607182418800017408) (some b) = some r := hr2
  rw [e]
  have := read_num (cn_some (fb_some hr2).2.2.1).2
  unfold fEq
  rw [this]; rfl
theorem same_num {x y : FV} (hx : Fok x) (hxy : x = y) (c : (fNe x x || fNe y y) = false) : (fEq x y && (fNe x (some 0) || fEq (fdiv (some 4607182418800017408) x) (fdiv (some 4607182418800017408) y))) = true := by
  subst hxy
  have h1 : fNe x x = false := by simpa using c
  have h2 : fEq x x = true := by rw [ne_eq] at h1; simpa using h1
  rw [h2, Bool.true_and]
  cases h3 : fNe x (some 0) with
  | true => rfl
  | false =>
    cases x with
    | none => simp [fNe, ford] at h1
    | some b =>
      rw [ne_eq] at h3
      rw [one_div_zero (by simpa using h3)]; rfl
end Go.KL

/- Floats: how far a rounded sum lies from the sum; sums of what isn't below nought. -/
namespace Go.KL
open Ieee
/-! ### A nought more takes the sign off a nought -/
theorem add_zero_pz {x : FV} (hx : Fok x) : fadd x (some 0) = pzF x := by
  cases x with
  | none => rfl
  | some b =>
    obtain ⟨hlt, hcn⟩ := hx b rfl
    have hnn := (cn_some hcn).2
    have h0 : Ieee.double.read 0 = .number false 0 (-1074) := by decide +kernel
    have hw := word_of hlt
    have e : fadd (some b) (some 0) = ((Ieee.double.read b).sum (.number false 0 (-1074))).map Ieee.double.write := by
      show ((Ieee.double.read b).sum (Ieee.double.read 0)).map Ieee.double.write = _
      rw [h0]
    have eo : ford (some b) (some 0) = (Ieee.double.read b).order (.number false 0 (-1074)) := by
      show (Ieee.double.read b).order (Ieee.double.read 0) = _
      rw [h0]
    by_cases hz : b % 9223372036854775808 = 0
    · have hr : Ieee.double.read b = .number (b / 9223372036854775808 % 2 == 1) 0 (-1074) := by rw [read_eq, if_pos (by omega), hz]
      have hq : fEq (some b) (some 0) = true := by
        unfold fEq
        rw [eo, hr]
        simp [Datum.order, signed]
      unfold pzF
      rw [if_pos hq, e, hr]
      simp [Datum.sum, signed]
      decide +kernel
    · by_cases hf : b % 9223372036854775808 < 9218868437227405312
      · obtain ⟨m, i, hr, hc, hrung⟩ := read_canon (by omega) hf
        have hl := hc.low
        have hm0 : m ≠ 0 := by have := hc.pos; omega
        have hmin : min i (-1074) = -1074 := by omega
        have hsg : signed (b / 9223372036854775808 % 2 == 1) m (i - -1074).toNat ≠ 0 := by
          rw [sg_eq]
          have : 0 < m * 2 ^ (i - -1074).toNat := Nat.mul_pos hc.pos (Nat.two_pow_pos _)
          split <;> omega
        have hzr : signed false 0 ((-1074 : Int) - -1074).toNat = 0 := by simp [signed]
        have hne : fEq (some b) (some 0) = false := by
          unfold fEq
          rw [eo, hr]
          show (some (compare (signed _ m (i - min i (-1074)).toNat) (signed false 0 (-1074 - min i (-1074)).toNat)) == some Ordering.eq) = false
          rw [hmin, hzr]
          show (compare (signed _ m (i - -1074).toNat) 0 == Ordering.eq) = false
          rw [cmp_eq]
          exact decide_eq_false hsg
        unfold pzF
        rw [if_neg (by rw [hne]; decide), e, hr]
        show some (Ieee.double.nearest (if signed _ m (i - min i (-1074)).toNat + signed false 0 (-1074 - min i (-1074)).toNat = 0 then _ else decide (signed _ m (i - min i (-1074)).toNat + signed false 0 (-1074 - min i (-1074)).toNat < 0)) (signed _ m (i - min i (-1074)).toNat + signed false 0 (-1074 - min i (-1074)).toNat).natAbs (min i (-1074))) = some b
        rw [hmin, hzr, Int.add_zero, if_neg hsg]
        have hab : (signed (b / 9223372036854775808 % 2 == 1) m (i - -1074).toNat).natAbs = m <<< (i - -1074).toNat := by
          rw [sg_eq, Nat.shiftLeft_eq, Int.natAbs_mul, Int.natAbs_natCast]
          split <;> simp
        have hsn : decide (signed (b / 9223372036854775808 % 2 == 1) m (i - -1074).toNat < 0) = (b / 9223372036854775808 % 2 == 1) := by
          rw [sg_eq] at hsg ⊢
          have : 0 < m * 2 ^ (i - -1074).toNat := Nat.mul_pos hc.pos (Nat.two_pow_pos _)
          cases (b / 9223372036854775808 % 2 == 1)
          · simp only [Bool.false_eq_true, if_false]; exact decide_eq_false (by omega)
          · simp only [if_true]; exact decide_eq_true (by omega)
        rw [hab, hsn]
        have := near_canon (b / 9223372036854775808 % 2 == 1) hc (i - -1074).toNat
        rw [show i - (((i - -1074).toNat : Nat) : Int) = -1074 by omega] at this
        rw [this, hrung, hw]
      · have hinf : b % 9223372036854775808 = 9218868437227405312 := by
          apply Classical.byContradiction
          intro hne
          rw [cn_gt (by omega)] at hcn; cases hcn
        have hr : Ieee.double.read b = .infinity (b / 9223372036854775808 % 2 == 1) := by rw [read_eq, if_neg (by omega), if_neg hf, if_pos hinf]
        have hne : fEq (some b) (some 0) = false := by
          unfold fEq
          rw [eo, hr]
          show (some (if _ then Ordering.lt else Ordering.gt) == some Ordering.eq) = false
          split <;> rfl
        unfold pzF
        rw [if_neg (by rw [hne]; decide), e, hr]
        show some (Ieee.double.word _ Ieee.double.infRung) = some b
        rw [infR_eq, ← hinf, hw]
theorem fok_fop {op : BinOp} {x y : FV} : Fok (fop op x y) := by
  intro b h
  unfold fop at h
  cases x with
  | none => cases h
  | some p =>
    cases y with
    | none => cases h
    | some q =>
      have h2 : floatBits op .f64 p q = some b := h
      exact ⟨(fb_some h2).2.2.2, (fb_some h2).2.2.1⟩
/-! ### Rounding -/
def Rnd (V W : Nat) : Prop := (V = 0 ∧ W = 0) ∨ ∃ k u : Nat, W = k * 2 ^ u ∧ 0 < k ∧ k ≤ 9007199254740992 ∧ (4503599627370496 ≤ k ∨ u = 0) ∧ 2 * W ≤ 2 * V + 2 ^ u ∧ 2 * V ≤ 2 * W + 2 ^ u ∧ (u = 0 → W = V) ∧ (2 ^ (u + 52) ≤ V ∨ u = 0)
theorem pow52 : (2 : Nat) ^ 52 = 4503599627370496 := by decide
theorem le_unit {k N u x : Nat} (h : k * 2 ^ u ≤ N * 2 ^ u + x) (hx : x < 2 ^ u) : k ≤ N := by
  apply Classical.byContradiction
  intro hn
  have h1 : (N + 1) * 2 ^ u ≤ k * 2 ^ u := Nat.mul_le_mul_right _ (by omega)
  rw [Nat.succ_mul] at h1
  omega
theorem Rnd.le {V W k j : Nat} (h : Rnd V W) (hk : k ≤ 9007199254740992) (hV : V ≤ k * 2 ^ j) : W ≤ k * 2 ^ j := by
  rcases h with ⟨_, h⟩ | ⟨c, u, hW, hc0, hc1, hc2, he1, he2, h0, hb⟩
  · omega
  · have hpu := Nat.two_pow_pos u
    by_cases hju : u ≤ j
    · have e : k * 2 ^ j = (k * 2 ^ (j - u)) * 2 ^ u := by rw [Nat.mul_assoc, ← Nat.pow_add, show j - u + u = j by omega]
      rw [e] at hV ⊢
      rw [hW]
      refine Nat.mul_le_mul_right _ (le_unit (u := u) (x := 2 ^ u / 2) ?_ (by omega))
      rw [hW] at he1
      omega
    · have hV2 : 2 ^ (u + 52) ≤ V := by rcases hb with hb | hb; exact hb; omega
      have e1 : k * 2 ^ j ≤ 2 ^ (u + 52) := by
        have a1 : k * 2 ^ j ≤ 2 ^ 53 * 2 ^ j := Nat.mul_le_mul_right _ (by omega)
        rw [← Nat.pow_add] at a1
        exact Nat.le_trans a1 (Nat.pow_le_pow_right (by decide) (by omega))
      have hVe : V = 2 ^ (u + 52) := by omega
      have hke : k * 2 ^ j = 2 ^ (u + 52) := by omega
      rw [hke]
      have e2 : (2 : Nat) ^ (u + 52) = 4503599627370496 * 2 ^ u := by rw [Nat.pow_add, pow52, Nat.mul_comm]
      rw [hVe, e2] at he1
      rw [hW, e2]
      refine Nat.mul_le_mul_right _ (le_unit (u := u) (x := 2 ^ u / 2) ?_ (by omega))
      rw [hW] at he1
      omega
theorem Rnd.ge {V W k j : Nat} (h : Rnd V W) (hk : k ≤ 9007199254740992) (hV : k * 2 ^ j ≤ V) : k * 2 ^ j ≤ W := by
  rcases h with ⟨h1, h⟩ | ⟨c, u, hW, hc0, hc1, hc2, he1, he2, h0, hb⟩
  · omega
  · have hpu := Nat.two_pow_pos u
    by_cases hju : u ≤ j
    · have e : k * 2 ^ j = (k * 2 ^ (j - u)) * 2 ^ u := by rw [Nat.mul_assoc, ← Nat.pow_add, show j - u + u = j by omega]
      rw [e] at hV ⊢
      rw [hW]
      refine Nat.mul_le_mul_right _ (le_unit (u := u) (x := 2 ^ u / 2) ?_ (by omega))
      rw [hW] at he2
      omega
    · have hc3 : 4503599627370496 ≤ c := by rcases hc2 with h | h; exact h; omega
      have a1 : k * 2 ^ j ≤ 2 ^ 53 * 2 ^ j := Nat.mul_le_mul_right _ (by omega)
      rw [← Nat.pow_add] at a1
      have a2 : 2 ^ (53 + j) ≤ 2 ^ (u + 52) := Nat.pow_le_pow_right (by decide) (by omega)
      have e2 : (2 : Nat) ^ (u + 52) = 4503599627370496 * 2 ^ u := by rw [Nat.pow_add, pow52, Nat.mul_comm]
      have a3 : 4503599627370496 * 2 ^ u ≤ c * 2 ^ u := Nat.mul_le_mul_right _ hc3
      omega
theorem Rnd.small {V W : Nat} (h : Rnd V W) (hV : V < 9007199254740992) : W = V := by
  rcases h with ⟨h1, h⟩ | ⟨c, u, hW, hc0, hc1, hc2, he1, he2, h0, hb⟩
  · omega
  · rcases Nat.eq_zero_or_pos u with hu | hu
    · exact h0 hu
    · rcases hb with hb | hb
      · have : (2 : Nat) ^ 53 ≤ 2 ^ (u + 52) := Nat.pow_le_pow_right (by decide) (by omega)
        omega
      · omega
theorem rung_mono {k1 u1 k2 u2 : Nat} (h1 : k1 ≤ 9007199254740992) (h2 : 4503599627370496 ≤ k1 ∨ u1 = 0) (h3 : k2 ≤ 9007199254740992) (h4 : 4503599627370496 ≤ k2 ∨ u2 = 0) (h : k1 * 2 ^ u1 ≤ k2 * 2 ^ u2) : u1 * 4503599627370496 + k1 ≤ u2 * 4503599627370496 + k2 := by
  rcases Nat.lt_trichotomy u1 u2 with hu | hu | hu
  · have : 4503599627370496 ≤ k2 := by rcases h4 with h | h; exact h; omega
    omega
  · subst hu
    have := Nat.le_of_mul_le_mul_right h (Nat.two_pow_pos u1)
    omega
  · have hk1 : 4503599627370496 ≤ k1 := by rcases h2 with h | h; exact h; omega
    obtain ⟨d, hd⟩ : ∃ d, u1 = u2 + 1 + d := ⟨u1 - u2 - 1, by omega⟩
    rw [hd, Nat.pow_add, Nat.pow_add] at h
    have h5 : k1 * 2 * 2 ^ d ≤ k2 := by
      have e : k1 * (2 ^ u2 * 2 ^ 1 * 2 ^ d) = (k1 * 2 * 2 ^ d) * 2 ^ u2 := by
        generalize 2 ^ u2 = a
        generalize 2 ^ d = b
        grind
      rw [e] at h
      exact Nat.le_of_mul_le_mul_right h (Nat.two_pow_pos u2)
    have h6 : k1 * 2 ≤ k1 * 2 * 2 ^ d := Nat.le_mul_of_pos_right _ (Nat.two_pow_pos d)
    have hd0 : d = 0 := by
      apply Classical.byContradiction
      intro hne
      have : (2 : Nat) ^ 1 ≤ 2 ^ d := Nat.pow_le_pow_right (by decide) (by omega)
      have : k1 * 2 * 2 ^ 1 ≤ k1 * 2 * 2 ^ d := Nat.mul_le_mul_left _ this
      omega
    subst hd0
    omega
end Go.KL

/- Floats: a sum, rounded. -/
namespace Go.KL
open Ieee
structure Prt (k u : Nat) : Prop where
  pos : 0 < k
  le : k ≤ 9007199254740992
  norm : 4503599627370496 ≤ k ∨ u = 0
theorem cut_err (s : Bool) {n d : Nat} (hd : d ≤ n.log2 + 2) : ∃ k, Toward.even.cut s n d = k ∧ 2 * (k * 2 ^ d) ≤ 2 * n + 2 ^ d ∧ 2 * n ≤ 2 * (k * 2 ^ d) + 2 ^ d ∧ n / 2 ^ d ≤ k ∧ k ≤ n / 2 ^ d + 1 := by
  refine ⟨_, rfl, ?_⟩
  unfold Toward.cut
  simp only [Nat.min_eq_left hd, Nat.shiftLeft_eq, Nat.one_mul]
  have hp := Nat.two_pow_pos d
  have hdm := Nat.div_add_mod n (2 ^ d)
  have hml := Nat.mod_lt n hp
  generalize hg : 2 ^ d = G at *
  generalize hl : n / G = low at *
  generalize hr : n % G = rest at *
  have hc : low * G = G * low := Nat.mul_comm _ _
  cases hmore : (decide (G < 2 * rest) || (G == 2 * rest && low % 2 == 1))
  · have h1 : ¬ G < 2 * rest := by
      simp only [Bool.or_eq_false_iff, decide_eq_false_iff_not] at hmore
      exact hmore.1
    simp only [Bool.toNat_false, Nat.add_zero]
    omega
  · have h1 : G ≤ 2 * rest := by
      simp only [Bool.or_eq_true, decide_eq_true_eq, Bool.and_eq_true, beq_iff_eq] at hmore
      omega
    simp only [Bool.toNat_true]
    have h2 : (low + 1) * G = low * G + G := Nat.succ_mul _ _
    omega
theorem near_rnd (s : Bool) {mag : Nat} {p : Int} (hm : mag ≠ 0) (hp : -1074 ≤ p) : ∃ k u, Ieee.double.nearest s mag p = Ieee.double.word s (min (u * 4503599627370496 + k) 9218868437227405312) ∧ Prt k u ∧ Rnd (mag * 2 ^ (p + K74).toNat) (k * 2 ^ u) := by
  have hk := k74
  have h1 := Nat.log2_self_le hm
  have h2 : mag < 2 ^ (mag.log2 + 1) := (Nat.log2_lt hm).1 (Nat.lt_succ_self _)
  obtain ⟨L, hL⟩ : ∃ L, L = mag.log2 := ⟨_, rfl⟩
  rw [← hL] at h1 h2
  obtain ⟨last, hlast⟩ : ∃ last : Int, last = max (p + (L : Int) - 52) (-1074) := ⟨_, rfl⟩
  have hn : Ieee.double.nearest s mag p = Ieee.double.word s (min ((last + 1074).toNat * 4503599627370496 + Toward.even.cut s (mag <<< (p - last).toNat) (last - p).toNat) 9218868437227405312) := by
    unfold Format.nearest
    rw [if_neg hm]
    simp only [fb_eq, least_eq, binade_eq, infR_eq]
    rw [← hL, show p + (L : Int) - ((52 : Nat) : Int) = p + (L : Int) - 52 by rfl, ← hlast]
    rw [show (last - (-1074)).toNat = (last + 1074).toNat by congr 1]
  have e74 : (last + 1074).toNat = (last + K74).toNat := by omega
  rw [e74] at hn
  by_cases hc : L ≤ 52
  · have hlp : last ≤ p := by omega
    have e1 : (last - p).toNat = 0 := by omega
    rw [e1, cut_none] at hn
    obtain ⟨d, hd⟩ : ∃ d, d = (p - last).toNat := ⟨_, rfl⟩
    rw [← hd, Nat.shiftLeft_eq] at hn
    have hV : mag * 2 ^ (p + K74).toNat = mag * 2 ^ d * 2 ^ (last + K74).toNat := by rw [Nat.mul_assoc, ← Nat.pow_add]; congr 2; omega
    have hd52 : d ≤ 52 - L := by omega
    have hle : mag * 2 ^ d < 9007199254740992 := by
      have a1 : mag * 2 ^ d < 2 ^ (L + 1) * 2 ^ d := Nat.mul_lt_mul_of_pos_right h2 (Nat.two_pow_pos _)
      rw [← Nat.pow_add] at a1
      have a2 : (2 : Nat) ^ (L + 1 + d) ≤ 2 ^ 53 := Nat.pow_le_pow_right (by decide) (by omega)
      omega
    have hnorm : 4503599627370496 ≤ mag * 2 ^ d ∨ (last + K74).toNat = 0 := by
      by_cases hl2 : last = -1074
      · right; omega
      · left
        have hd2 : d = 52 - L := by omega
        have a1 : 2 ^ L * 2 ^ d ≤ mag * 2 ^ d := Nat.mul_le_mul_right _ h1
        rw [← Nat.pow_add, hd2, show L + (52 - L) = 52 by omega, pow52] at a1
        rw [hd2]; exact a1
    have hpos : 0 < mag * 2 ^ d := Nat.mul_pos (by omega) (Nat.two_pow_pos _)
    refine ⟨mag * 2 ^ d, (last + K74).toNat, hn, ⟨hpos, by omega, hnorm⟩, .inr ⟨mag * 2 ^ d, (last + K74).toNat, rfl, hpos, by omega, hnorm, by have := Nat.two_pow_pos (last + K74).toNat; omega, by have := Nat.two_pow_pos (last + K74).toNat; omega, fun _ => hV.symm, ?_⟩⟩
    rcases hnorm with h | h
    · left
      rw [hV, Nat.pow_add, Nat.mul_comm, pow52]
      exact Nat.mul_le_mul_right _ h
    · exact .inr h
  · have hl2 : last = p + (L : Int) - 52 := by omega
    have e1 : (p - last).toNat = 0 := by omega
    obtain ⟨d, hd⟩ : ∃ d, d = (last - p).toNat := ⟨_, rfl⟩
    have hdL : d = L - 52 := by omega
    rw [e1, Nat.shiftLeft_zero, ← hd] at hn
    obtain ⟨k, hk1, hk2, hk3, hk4, hk5⟩ := cut_err s (n := mag) (d := d) (by omega)
    rw [hk1] at hn
    have hu : (last + K74).toNat = d + (p + K74).toNat := by omega
    have hlow : 4503599627370496 ≤ mag / 2 ^ d := by
      rw [Nat.le_div_iff_mul_le (Nat.two_pow_pos _), ← pow52, ← Nat.pow_add, hdL, show 52 + (L - 52) = L by omega]
      exact h1
    have hhi : mag / 2 ^ d < 9007199254740992 := by
      rw [Nat.div_lt_iff_lt_mul (Nat.two_pow_pos _)]
      have : (9007199254740992 : Nat) = 2 ^ 53 := by decide
      rw [this, ← Nat.pow_add, hdL, show 53 + (L - 52) = L + 1 by omega]
      exact h2
    have hW : k * 2 ^ (last + K74).toNat = k * 2 ^ d * 2 ^ (p + K74).toNat := by rw [hu, Nat.pow_add, Nat.mul_assoc]
    refine ⟨k, (last + K74).toNat, hn, ⟨by omega, by omega, .inl (by omega)⟩, .inr ⟨k, (last + K74).toNat, rfl, by omega, by omega, .inl (by omega), ?_, ?_, fun h => by omega, .inl ?_⟩⟩
    · rw [hW, hu, Nat.pow_add]
      have := Nat.mul_le_mul_right (2 ^ (p + K74).toNat) hk2
      rw [Nat.add_mul, Nat.mul_assoc 2, Nat.mul_assoc 2] at this
      exact this
    · rw [hW, hu, Nat.pow_add]
      have := Nat.mul_le_mul_right (2 ^ (p + K74).toNat) hk3
      rw [Nat.add_mul, Nat.mul_assoc 2, Nat.mul_assoc 2] at this
      exact this
    · rw [hu, show d + (p + K74).toNat + 52 = L + (p + K74).toNat by omega, Nat.pow_add]
      exact Nat.mul_le_mul_right _ h1
theorem read_rung (s : Bool) {k u : Nat} (h : Prt k u) (hf : u * 4503599627370496 + k < 9218868437227405312) : ∃ m i, Ieee.double.read (Ieee.double.word s (u * 4503599627370496 + k)) = .number s m i ∧ -1074 ≤ i ∧ m * 2 ^ (i + K74).toNat = k * 2 ^ u := by
  have hk := k74
  have h1 := h.le
  have h2 := h.pos
  by_cases hc : k = 9007199254740992
  · subst hc
    have e1 : ((u : Int) + 1 - 1074 + 1074).toNat = u + 1 := by omega
    have hcan : Canon 4503599627370496 ((u : Int) + 1 - 1074) := ⟨by decide, by decide, by omega, .inl (Nat.le_refl _), by rw [e1]; omega⟩
    refine ⟨4503599627370496, (u : Int) + 1 - 1074, ?_, by omega, ?_⟩
    · have := read_word s hcan
      have e2 : (u + 1) * 4503599627370496 + 4503599627370496 = u * 4503599627370496 + 9007199254740992 := by omega
      rw [e1, e2] at this
      exact this
    · rw [show ((u : Int) + 1 - 1074 + K74).toNat = u + 1 by omega, Nat.pow_succ]; omega
  · have e1 : ((u : Int) - 1074 + 1074).toNat = u := by omega
    have hcan : Canon k ((u : Int) - 1074) := ⟨h2, by omega, by omega, by rcases h.norm with h | h; exact .inl h; exact .inr (by omega), by rw [e1]; exact hf⟩
    refine ⟨k, (u : Int) - 1074, ?_, by omega, ?_⟩
    · have := read_word s hcan
      rw [e1] at this
      exact this
    · rw [show ((u : Int) - 1074 + K74).toNat = u by omega]
def IsV (x : FV) (s : Bool) (V : Nat) : Prop := ∃ b m i, x = some b ∧ b < 18446744073709551616 ∧ Ieee.double.read b = .number s m i ∧ -1074 ≤ i ∧ m * 2 ^ (i + K74).toNat = V
def sv (s : Bool) (V : Nat) : Int := if s = true then -(V : Int) else V
def Fin (V : Nat) : Prop := V = 0 ∨ ∃ k u, V = k * 2 ^ u ∧ Prt k u ∧ u * 4503599627370496 + k < 9218868437227405312
theorem IsV.fin {x : FV} {s : Bool} {V : Nat} (h : IsV x s V) : Fin V := by
  obtain ⟨b, m, i, rfl, _, hr, hi, hV⟩ := h
  have hk := k74
  rcases read_form hr with ⟨h0, _⟩ | hc
  · left; rw [← hV, h0, Nat.zero_mul]
  · right
    have h1 := hc.fin
    have e : (i + K74).toNat = (i + 1074).toNat := by omega
    exact ⟨m, (i + K74).toNat, hV.symm, ⟨hc.pos, by have := hc.lt; omega, by rcases hc.norm with h | h; exact .inl h; exact .inr (by omega)⟩, by rw [e]; exact h1⟩
theorem sum_v {s t : Bool} {m n : Nat} {i j : Int} (hi : -1074 ≤ i) (hj : -1074 ≤ j) :
    ∃ d, (Datum.number s m i).sum (.number t n j) = some d ∧
      ((∃ W, Rnd (sv s (m * 2 ^ (i + K74).toNat) + sv t (n * 2 ^ (j + K74).toNat)).natAbs W ∧ IsV (some (Ieee.double.write d)) (if sv s (m * 2 ^ (i + K74).toNat) + sv t (n * 2 ^ (j + K74).toNat) = 0 then s && t else decide (sv s (m * 2 ^ (i + K74).toNat) + sv t (n * 2 ^ (j + K74).toNat) < 0)) W) ∨
       ((∀ T, Fin T → ¬ (sv s (m * 2 ^ (i + K74).toNat) + sv t (n * 2 ^ (j + K74).toNat)).natAbs ≤ T) ∧ Ieee.double.write d = Ieee.double.word (decide (sv s (m * 2 ^ (i + K74).toNat) + sv t (n * 2 ^ (j + K74).toNat) < 0)) 9218868437227405312)) := by
  have hk := k74
  refine ⟨_, rfl, ?_⟩
  generalize hT : signed s m (i - min i j).toNat + signed t n (j - min i j).toNat = T
  generalize hS : sv s (m * 2 ^ (i + K74).toNat) + sv t (n * 2 ^ (j + K74).toNat) = S
  have hsv : ∀ (s : Bool) (m k : Nat), signed s m k = sv s (m * 2 ^ k) := fun s m k => by
    rw [sg_eq]; unfold sv
    cases s
    · simp only [Bool.false_eq_true, if_false]; omega
    · simp only [if_true]; omega
  have hsum : T * ((2 ^ (min i j + K74).toNat : Nat) : Int) = S := by
    rw [← hT, Int.add_mul, ← sg_shift, ← sg_shift, show (i - min i j).toNat + (min i j + K74).toNat = (i + K74).toNat by omega, show (j - min i j).toNat + (min i j + K74).toNat = (j + K74).toNat by omega, hsv, hsv]
    exact hS
  have hp1 := pow_posI (min i j + K74).toNat
  have hT0 : T = 0 ↔ S = 0 := by
    rw [← hsum]
    constructor
    · rintro rfl; exact Int.zero_mul _
    · intro h
      rcases Int.mul_eq_zero.1 h with h | h
      · exact h
      · omega
  have hTs : T < 0 ↔ S < 0 := by
    rw [← hsum]
    exact ⟨fun h => Int.mul_neg_of_neg_of_pos h hp1, fun h => neg_left h hp1⟩
  have habs : T.natAbs * 2 ^ (min i j + K74).toNat = S.natAbs := by
    have := congrArg Int.natAbs hsum
    rwa [Int.natAbs_mul, Int.natAbs_natCast] at this
  by_cases hz : S = 0
  · left
    have hTz := hT0.2 hz
    refine ⟨0, .inl ⟨by omega, rfl⟩, ?_⟩
    rw [if_pos hTz, if_pos hz, hTz]
    show IsV (some (Ieee.double.nearest (s && t) 0 (min i j))) _ 0
    have e : Ieee.double.nearest (s && t) 0 (min i j) = Ieee.double.word (s && t) 0 := by unfold Format.nearest; rw [if_pos rfl]
    rw [e]
    exact ⟨_, 0, -1074, rfl, (word_parts _ (r := 0) (by decide)).2.2, read_zero _, by omega, by simp⟩
  · have hTz : T ≠ 0 := fun h => hz (hT0.1 h)
    rw [if_neg hTz, if_neg hz]
    have hd : decide (T < 0) = decide (S < 0) := decide_eq_decide.2 hTs
    rw [hd]
    obtain ⟨k, u, h1, h2, h3⟩ := near_rnd (decide (S < 0)) (mag := T.natAbs) (p := min i j) (by omega) (by omega)
    rw [habs] at h3
    by_cases hf : u * 4503599627370496 + k < 9218868437227405312
    · left
      refine ⟨k * 2 ^ u, h3, ?_⟩
      show IsV (some (Ieee.double.nearest _ T.natAbs (min i j))) _ _
      rw [h1, Nat.min_eq_left (by omega)]
      obtain ⟨m', i', r1, r2, r3⟩ := read_rung (decide (S < 0)) h2 hf
      exact ⟨_, m', i', rfl, (word_parts _ (by omega)).2.2, r1, r2, r3⟩
    · right
      refine ⟨fun V hV hle => ?_, ?_⟩
      · rcases hV with rfl | ⟨k2, u2, rfl, hp2, hf2⟩
        · omega
        · have := rung_mono h2.le h2.norm hp2.le hp2.norm (h3.le hp2.le hle)
          omega
      · show Ieee.double.nearest _ T.natAbs (min i j) = _
        rw [h1, Nat.min_eq_right (by omega)]
end Go.KL

/- Rows of sums: structs of two floats, each behind a pointer into the row. -/
namespace Go.KL
open Go.RowKit
section
variable {P : Program} {d : Option Tmp} {ty : TypeId} {pos : String} {af : Array Edge} {g : Option (Nat × Bool)} {a : Act} {σ : GW}
end
end Go.KL

/- How blows are judged: the numbers. -/
namespace Go.KL
section
variable {P : Program} {d : Option Tmp} {ty : TypeId} {pos : String} {af : Array Edge} {g : Option (Nat × Bool)} {a : Act} {σ : GW}
end
/-! ### The numbers -/
def foldTo (f : Nat → FV) : Nat → SFV
  | 0 => S0
  | k + 1 => addS (foldTo f k) (f k)
end Go.KL

/- Sums of floats that aren't below nought aren't below nought. -/
namespace Go.KL
open Ieee
theorem add_v {x y : FV} {s t : Bool} {A B : Nat} (hx : IsV x s A) (hy : IsV y t B) :
    (∃ W, Rnd (sv s A + sv t B).natAbs W ∧ IsV (fadd x y) (if sv s A + sv t B = 0 then s && t else decide (sv s A + sv t B < 0)) W) ∨ ((∀ T, Fin T → ¬ (sv s A + sv t B).natAbs ≤ T) ∧ fadd x y = some (Ieee.double.word (decide (sv s A + sv t B < 0)) 9218868437227405312)) := by
  obtain ⟨b, m, i, rfl, _, hr, hi, rfl⟩ := hx
  obtain ⟨c, n, j, rfl, _, hr2, hj, rfl⟩ := hy
  obtain ⟨d, h1, h2⟩ := sum_v (s := s) (t := t) (m := m) (n := n) hi hj
  have e : fadd (some b) (some c) = some (Ieee.double.write d) := by
    show ((Ieee.double.read b).sum (Ieee.double.read c)).map Ieee.double.write = _
    rw [hr, hr2, h1]; rfl
  rw [e]
  rcases h2 with h2 | ⟨h2, h3⟩
  · exact .inl h2
  · exact .inr ⟨h2, by rw [h3]⟩
theorem Fin.ge {V W A : Nat} (h : Rnd V W) (hA : Fin A) (hV : A ≤ V) : A ≤ W := by
  rcases hA with rfl | ⟨k, u, rfl, hp, _⟩
  · exact Nat.zero_le _
  · exact h.ge hp.le hV
theorem Fin.le {V W A : Nat} (h : Rnd V W) (hA : Fin A) (hV : V ≤ A) : W ≤ A := by
  rcases hA with rfl | ⟨k, u, rfl, hp, _⟩
  · have := h.small (by omega); omega
  · exact h.le hp.le hV
theorem inf_read : Ieee.double.read 9218868437227405312 = .infinity false := by decide +kernel
abbrev INF : FV := some 9218868437227405312
theorem inf_word : Ieee.double.word false 9218868437227405312 = 9218868437227405312 := by rw [word_eq]; rfl
def NN (x : FV) : Prop := x = none ∨ (∃ V, IsV x false V) ∨ x = INF
theorem add_none (x : FV) : fadd x none = none := by cases x <;> rfl
section
variable {f : Nat → FV} {n : Nat} (hf : ∀ j, j < n → NN (f j))
include hf
end
/-! ### Signs -/
section
variable {N : Nat} {l : List BBlow} (h1 : 2 ≤ l.length) (h2 : l.length ≤ 5000)
end
end Go.KL

/- A region in whatever order, one operation of which writes: the others neither read nor write what it writes. -/
namespace Go.KL
open Go.RowKit
variable {P : Program}

def Ty.any : Ty := ⟨fun _ _ => True, fun _ h => h⟩

structure Mid3 (p d N : Nat) (D : List Deferred) (W : List Nat) (B : Pr) (ops : Array Oper) (Φ : Nat → Ty) (a0 : Act) (σ0 : GW) (L : Nat → Bool) (a : Act) (σ : GW) : Prop where
  stp : StpL W σ0 σ
  stp0 : L p = false → Stp 0 σ0 σ
  ok : Ok N D a
  done : ∀ j, L j = true → j ≠ p → rd ops (fun i => (Φ i).pr) j a σ
  donep : L p = true → B.has σ (a.eval (.tmp d))
  same : ∀ t, (∀ j, dstOf ops j = some t → L j = false) → a.eval (.tmp t) = a0.eval (.tmp t)

def Obl3 (P : Program) (N : Nat) (D : List Deferred) (W : List Nat) (ops : Array Oper) (Φ : Nat → Ty) (a0 : Act) (σ0 : GW) (i : Nat) (o : Oper) : Prop :=
  ∀ a σ, StpL W σ0 σ → Ok N D a → (∀ t, free ops i t = true → a.eval (.tmp t) = a0.eval (.tmp t)) → Deps ops (fun i => (Φ i).pr) a σ o.after.toList (Run P ops o a σ (Φ i).pr)
def OblW (P : Program) (N : Nat) (D : List Deferred) (W : List Nat) (B : Pr) (ops : Array Oper) (Φ : Nat → Ty) (a0 : Act) (σ0 : GW) (i : Nat) (o : Oper) : Prop :=
  ∀ a σ, Stp 0 σ0 σ → Ok N D a → (∀ t, free ops i t = true → a.eval (.tmp t) = a0.eval (.tmp t)) → Deps ops (fun i => (Φ i).pr) a σ o.after.toList (YldL W P o a σ (fun v τ => B.has τ v))
def Obls3 (P : Program) (p N : Nat) (D : List Deferred) (W : List Nat) (B : Pr) (ops : Array Oper) (Φ : Nat → Ty) (a0 : Act) (σ0 : GW) : Nat → List Oper → Prop
  | _, [] => True
  | i, o :: l => (if i = p then OblW P N D W B ops Φ a0 σ0 i o else Obl3 P N D W ops Φ a0 σ0 i o) ∧ Obls3 P p N D W B ops Φ a0 σ0 (i + 1) l
theorem Obls3.get {p N : Nat} {D : List Deferred} {W : List Nat} {B : Pr} {ops : Array Oper} {Φ : Nat → Ty} {a0 : Act} {σ0 : GW} : ∀ (l : List Oper) (k : Nat), Obls3 P p N D W B ops Φ a0 σ0 k l → ∀ j o, l[j]? = some o → (if k + j = p then OblW P N D W B ops Φ a0 σ0 (k + j) o else Obl3 P N D W ops Φ a0 σ0 (k + j) o)
  | [], _, _, j, o, h => by simp at h
  | x :: l, k, h, 0, o, hj => by simp at hj; subst hj; exact h.1
  | x :: l, k, h, j + 1, o, hj => by
    have := Obls3.get l (k + 1) h.2 j o (by simpa using hj)
    rwa [show k + 1 + j = k + (j + 1) by omega] at this
theorem Obls3.up {p N : Nat} {D : List Deferred} {W : List Nat} {B : Pr} {ops : Array Oper} {Φ : Nat → Ty} {a0 : Act} {σ0 σ1 : GW} (hs : Stp 0 σ0 σ1) : ∀ (l : List Oper) (k : Nat), Obls3 P p N D W B ops Φ a0 σ0 k l → Obls3 P p N D W B ops Φ a0 σ1 k l
  | [], _, _ => trivial
  | x :: l, k, h => by
    refine ⟨?_, Obls3.up hs l (k + 1) h.2⟩
    have h1 := h.1
    split at h1
    · rename_i e; rw [if_pos e]; exact fun a σ hs' => h1 a σ (hs.trans hs')
    · rename_i e; rw [if_neg e]; exact fun a σ hs' => h1 a σ (hs.toL0.trans hs')

theorem Mid3.op {p d N : Nat} {D : List Deferred} {W : List Nat} {B : Pr} {ops : Array Oper} {Φ : Nat → Ty} {a0 : Act} {σ0 : GW} {L : Nat → Bool} {a : Act} {σ : GW} {i : Nat} {o : Oper} {Q : Exit → Act → World → Prop} {K : Act → World → Prop}
    (hF : Form N ops) (h1 : 1 ∉ W) (hp : dstOf ops p = some d) (hΦ : ∀ e v, (Φ p).has e v) (hpg : ∀ o, ops[p]? = some o → o.guard = none) (hm : Mid3 p d N D W B ops Φ a0 σ0 L a σ) (ho : ops[i]? = some o) (hL : L i = false)
    (hob : if i = p then OblW P N D W B ops Φ a0 σ0 i o else Obl3 P N D W ops Φ a0 σ0 i o)
    (hall : ∀ e ∈ o.after, Region.binds .any e = true → L e.on = true) (hclosed : ∀ (j : Nat) oj, ops[j]? = some oj → L j = true → ∀ e ∈ oj.after, Region.binds .any e = true → L e.on = true)
    (hK : ∀ a' σ', Mid3 p d N D W B ops Φ a0 σ0 (fun j => L j || j == i) a' σ' → K a' σ'.w) : wpOp P ops Q i K a σ.w := by
  have hdi : dstOf ops i = o.dst := by simp [dstOf, ho]
  have hsame : ∀ t, free ops i t = true → a.eval (.tmp t) = a0.eval (.tmp t) := by
    intro t ht
    refine hm.same t fun j hj => ?_
    cases hLj : L j with
    | false => rfl
    | true =>
      exfalso
      unfold dstOf at hj
      obtain ⟨oj, hoj, hd⟩ := Option.bind_eq_some_iff.1 hj
      unfold free at ht
      have := (List.all_eq_true.1 ht) oj (List.mem_of_getElem? hoj)
      simp only [hd, bne_self_eq_false, Bool.false_or, List.any_eq_true, Bool.and_eq_true, beq_iff_eq] at this
      obtain ⟨e, he, hb, hon⟩ := this
      have := hclosed j oj (by simpa using hoj) hLj e (by simpa using he) hb
      rw [hon, hL] at this
      cases this
  have hdeps : ∀ e ∈ o.after.toList, Region.binds .any e = true → rd ops (fun i => (Φ i).pr) e.on a σ := fun e he hb => by
    by_cases hep : e.on = p
    · rw [hep]; unfold rd; rw [hp]; exact hΦ _ _
    · exact hm.done e.on (hall e (by simpa using he) hb) hep
  -- whatever step of whichever kind: what holds behind it
  have done' : ∀ v (τ : GW), σ.Le τ → (i ≠ p → (Φ i).has τ v) → ∀ j, (L j || j == i) = true → j ≠ p → rd ops (fun i => (Φ i).pr) j (a.put o.dst v) τ := by
    intro v τ hle hv j hLj hjp
    by_cases hji : j = i
    · subst hji
      unfold rd
      cases hd : dstOf ops j with
      | none => trivial
      | some d =>
        have : o.dst = some d := by rw [← hdi]; exact hd
        simp only [this]
        rw [eval_put_same hm.ok (hF.lt j d hd)]
        exact hv hjp
    · have hLj' : L j = true := by simpa [hji] using hLj
      have h0 := hm.done j hLj' hjp
      unfold rd at h0 ⊢
      cases hd : dstOf ops j with
      | none => trivial
      | some d =>
        rw [hd] at h0
        simp only at h0 ⊢
        rw [eval_put_ne (fun he => hji (hF.uniq j i d hd (by rw [hdi]; exact he)))]
        exact (Φ j).up hle h0
  have same' : ∀ v t, (∀ j, dstOf ops j = some t → (L j || j == i) = false) → (a.put o.dst v).eval (.tmp t) = a0.eval (.tmp t) := by
    intro v t ht
    have h1 : o.dst ≠ some t := fun he => by
      have := ht i (by rw [hdi]; exact he)
      simp at this
    rw [eval_put_ne h1]
    exact hm.same t fun j hj => by
      have := ht j hj
      simp at this
      exact this.1
  by_cases hip : i = p
  · subst hip
    rw [if_pos rfl] at hob
    have hy := Deps.elim o.after.toList hdeps (hob a σ (hm.stp0 hL) hm.ok hsame)
    unfold wpOp
    simp only [ho]
    have hw : Region.wanted o (yielded ops a.tmps) = true := by simp [Region.wanted, hpg o ho]
    rw [if_pos hw]
    refine .inl (hy K Q fun v τ hs hr => hK _ τ ⟨hm.stp.trans hs, fun h => (by simp at h), hm.ok.put _ _, done' v τ (hs.le h1) (fun h => absurd rfl h), fun _ => ?_, same' v⟩)
    have : o.dst = some d := by rw [← hdi]; exact hp
    rw [this, eval_put_same hm.ok (hF.lt i d hp)]
    exact hr
  · rw [if_neg hip] at hob
    have hrun := Deps.elim o.after.toList hdeps (hob a σ hm.stp hm.ok hsame)
    have next : ∀ v τ, Stp 0 σ τ → (Φ i).has τ v → K (a.put o.dst v) τ.w := by
      intro v τ hs hv
      refine hK _ τ ⟨hm.stp.trans hs.toL0, fun h => ?_, hm.ok.put _ _, done' v τ hs.le0 (fun _ => hv), fun h => ?_, same' v⟩
      · simp at h; exact (hm.stp0 h.1).trans hs
      · have hLp : L p = true := by simpa [Ne.symm hip] using h
        rw [eval_put_ne (fun he => hip (hF.uniq i p d (by rw [hdi]; exact he) hp))]
        exact B.up hs (hm.donep hLp)
    unfold wpOp
    simp only [ho]
    by_cases hw : Region.wanted o (yielded ops a.tmps) = true
    · rw [if_pos hw]
      exact .inl (hrun.1 hw K Q next)
    · rw [if_neg hw]
      exact next undef σ (Stp.refl _ _) (hrun.2 (by simpa using hw))

structure Half3 (m d N : Nat) (D : List Deferred) (W : List Nat) (B : Pr) (ops : Array Oper) (Φ : Nat → Ty) (a0 : Act) (σ0 : GW) (a : Act) (σ : GW) : Prop where
  stp : StpL W σ0 σ
  ok : Ok N D a
  done : ∀ j, j < m → rd ops (fun i => (Φ i).pr) j a σ
  donep : B.has σ (a.eval (.tmp d))
  same : ∀ t, ((ops.toList.take m).all fun o => o.dst != some t) = true → a.eval (.tmp t) = a0.eval (.tmp t)

theorem Mid3.half {m p d N : Nat} {D : List Deferred} {W : List Nat} {B : Pr} {ops : Array Oper} {Φ : Nat → Ty} {a0 : Act} {σ0 : GW} {a : Act} {σ : GW} (h : Mid3 p d N D W B ops Φ a0 σ0 (fun j => decide (j < m)) a σ) (hpm : p < m) (hp : dstOf ops p = some d) (hΦ : ∀ e v, (Φ p).has e v) : Half3 m d N D W B ops Φ a0 σ0 a σ := by
  refine ⟨h.stp, h.ok, fun j hj => ?_, h.donep (by simpa using hpm), fun t ht => h.same t fun j hj => ?_⟩
  · by_cases hjp : j = p
    · rw [hjp]; unfold rd; rw [hp]; exact hΦ _ _
    · exact h.done j (by simpa using hj) hjp
  · by_cases hjm : j < m
    · obtain ⟨o, ho, hd⟩ := Option.bind_eq_some_iff.1 hj
      have := (List.all_eq_true.1 ht) o (List.mem_of_getElem? (i := j) (by rw [List.getElem?_take, if_pos hjm]; exact ho))
      simp [hd] at this
    · simpa using hjm

theorem Half3.kt {m d N : Nat} {D : List Deferred} {W : List Nat} {B : Pr} {ops : Array Oper} {Φ : Nat → Ty} {a0 a : Act} {σ0 σ : GW} {T : Ty} {t : Nat} (h : Half3 m d N D W B ops Φ a0 σ0 a σ) (h1 : 1 ∉ W) (k : T.has σ0 (a0.eval (.tmp t))) (ht : ((ops.toList.take m).all fun o => o.dst != some t) = true) : T.has σ (a.eval (.tmp t)) := by
  rw [h.same t ht]; exact T.up (h.stp.le h1) k
end Go.KL

/- Plain maths: calls and touches. -/
namespace Go.KL
abbrev BCall := Int × List (List Int)
/-! ### Which calls may be -/
/-! ### The changes of a lead -/
/-! ### The rows of a touch -/
section
variable {nm : ByteArray} {n : Nat} {l : List (List Int)} {cs : List BCall} {leads : List Int}
end
/-! ### Which touches may be -/
end Go.KL

/- Arguments that are structs, and slices of these: how a row reads them. -/
namespace Go.KL
open Go.ChangeShapes Go.WideShapes Go.ChangeAt Go.RowKit Go.Deep
variable {P : Program}
end Go.KL

/- Arguments that are floats. -/
namespace Go.KL
open Go.ChangeShapes Go.WideShapes Go.ChangeAt Go.RowKit Go.Deep
variable {P : Program}
theorem trod_float {H : Type} {enc : TypeId × Value → H} {w : World} {base : Nat} {spare : Nat → Bool} {held : Bool} {fuel : Nat} {cs : List Value} {x : DataW H × List MemPlace} {t : TypeId} {k : FloatKind} (ht : P.underlying t = some (.float k))
    (h : DataW.trod enc P w base spare held fuel t cs = some x) : ∃ b, cs = [.float k b] ∧ x = (.lit (.float k b), []) ∧ (Lit.float k b).wf = true := by
  cases fuel with
  | zero => simp [DataW.trod] at h
  | succ n =>
    unfold DataW.trod at h
    rw [ht] at h
    split at h <;> simp_all
theorem fok_cn {b : Nat} (h : b < 18446744073709551616) : Fok (cn b) := fun c e => by
  obtain ⟨rfl, _⟩ := cn_some e
  exact ⟨h, e⟩
theorem rd_float {t : TypeId} (ht : P.underlying t = some (.float .f64)) : Rd P t (fun o : FV => [Ty.flt o]) (fun o => Fok o) (fun _ => 1) (fun _ => True) := by
  intro H enc B BA hB W fuel cs d ps h
  obtain ⟨b, rfl, e, hw⟩ := trod_float ht h
  obtain ⟨rfl, rfl⟩ := Prod.mk.inj e
  simp only [Lit.wf, decide_eq_true_eq] at hw
  exact ⟨cn b, fok_cn hw, hB.one _, fun _ => trivial, rfl, one_cell ⟨b, rfl, hw, rfl⟩⟩
end Go.KL

/- Closures over one variable; slices.Grow of nothing; cuts of rows of structs. -/
namespace Go.KL
open Go.RowKit
variable {P : Program} {d : Option Tmp} {ty : TypeId} {pos : String} {af : Array Edge} {g : Option (Nat × Bool)} {a : Act} {σ : GW}
def Ty.clo (f : FuncId) (ts : List Ty) : Ty := ⟨fun σ v => ∃ p, v = .func (.func f) #[] #[p] ∧ (Ty.ref ts).has σ p, fun h ⟨p, e, hp⟩ => ⟨p, e, Ty.up _ h hp⟩⟩
theorem y_clo {f : FuncId} {ts : List Ty} {x : Operand} (hx : At (.ref ts) σ a x) : Yld P ⟨d, .makeFunc (.func f) #[] #[x], ty, pos, af, g⟩ a σ (Ty.clo f ts).pr :=
  Yld.of_run (v := .func (.func f) #[] #[a.eval x]) (by simp [execOp, Instr.makeFunc, Sem.run_bind]) ⟨_, rfl, hx⟩
/-! ### slices.Grow of nothing -/
/-! ### Cuts of rows of structs -/
/-! ### Signs of calls -/
end Go.KL

/- Plain maths: is a touch true? -/
namespace Go.KL
end Go.KL
namespace Go.KL
end Go.KL

/- Plain maths: names by their runes. -/
namespace Go.KL
end Go.KL

/- Literals of structs in rows of one's own. -/
namespace Go.KL
open Go.RowKit
variable {P : Program} {d : Option Tmp} {ty : TypeId} {pos : String} {af : Array Edge} {g : Option (Nat × Bool)} {a : Act} {σ : GW}
end Go.KL

/- Structs that are built of structs; 'append' of what is owned. -/
namespace Go.KL
open Go.RowKit
variable {P : Program}
theorem Own.src {σ : GW} {k : Nat} {e : TypeId} {c : Nat} {v : Value} {n : Nat} {ts : List Ty} (h : Own σ k e c v n ts) : ∃ ad cap b o, v = .slice ad n cap ∧ ts.length = n * c ∧ (ts = [] ∨ ad = some (⟨b, o, none⟩ : Addr)) ∧ Cells σ b o ts := by
  have hl := h.len
  obtain ⟨us, h1, h2, h3, h4⟩ := h
  rcases h1.2 with ⟨rfl, rfl⟩ | ⟨g, cap, cur, rfl, _⟩
  · have : ts = [] := List.eq_nil_of_length_eq_zero (by omega)
    subst this
    exact ⟨none, 0, 0, 0, rfl, by simp, .inl rfl, fun j T hj => by simp at hj⟩
  · refine ⟨_, cap, g, 0, rfl, hl, .inr rfl, fun j T hj => ?_⟩
    have hlt := (List.getElem?_eq_some_iff.1 hj).1
    have hu : us[j]? = some us[j] := by simp [show j < us.length by omega]
    refine ⟨us[j], ?_, h3 j T _ hj hu⟩
    have := h1.cells (g := g) rfl j _ hu
    rwa [Addr.add_lit] at this
variable {d : Option Tmp} {ty : TypeId} {pos : String} {af : Array Edge} {g : Option (Nat × Bool)} {a : Act} {σ : GW}
/-! ### Structs of structs -/
end Go.KL

/- Arrays that lie in a struct, or in a variable: loaded whole, handed back. -/
namespace Go.KL
open Go.RowKit
section
variable {P : Program}
theorem run_loadVarA {t : TypeId} {nA : Nat} {eA : TypeId} {z : Value} {c by_ : Nat} (ht : P.underlying t = some (.array nA eA)) (he : Info P t z c by_) {w : World} {ad : Addr} {us : List Value} (hl : us.length = c) (h : ∀ j u, us[j]? = some u → w.cell? (ad.add j) = some u) :
    (loadVar t ad).run P w = .ok (.agg us.toArray) w := by
  have hagg : (isAgg t).run P w = .ok true w := by
    unfold isAgg
    rw [Sem.run_bind, run_underlying ht w]
    simp
  have hc := run_loadCellsFrom (P := P) us 0 #[] (fun j u hj => by rw [Nat.zero_add]; exact h j u hj)
  rw [hl] at hc
  simp [loadVar, Sem.run_bind, hagg, he.size, loadCells, hc]
end
section
variable {P : Program} {d : Option Tmp} {ty : TypeId} {pos : String} {af : Array Edge} {g : Option (Nat × Bool)} {a : Act} {σ : GW}
theorem ownp_loadaggA {k : Nat} {x : Operand} {ts : List Ty} {t : TypeId} {nA : Nat} {eA : TypeId} {z v : Value} {by_ : Nat} (ht : P.underlying t = some (.array nA eA)) (he : Info P t z ts.length by_) (h : OwnP σ k v ts) (hx : a.eval x = v) :
    Yld P ⟨d, .load t x, ty, pos, af, g⟩ a σ (Ty.agg ts).pr := by
  obtain ⟨gg, e', cur, rfl, h2, h3, h4, h5⟩ := h
  refine Yld.of_run (v := .agg cur) ?_ ⟨cur, rfl, h4, h5⟩
  simp only [execOp, hx]
  have := run_loadVarA (P := P) ht he (w := σ.w) (ad := ⟨gg, 0, none⟩) (us := cur.toList) (by simp [h4]) (fun j u hj => by
    rw [Addr.add_lit, Nat.zero_add]
    simp at hj
    simp [World.cell?, h3, hj])
  simp [Instr.loadAt, Instr.sureAddr, this]
theorem ownp_loadsubA {k o n : Nat} {x : Operand} {ts : List Ty} {t : TypeId} {nA : Nat} {eA : TypeId} {z v : Value} {by_ : Nat} (ht : P.underlying t = some (.array nA eA)) (he : Info P t z n by_) (hl : o + n ≤ ts.length) (h : OwnP σ k v ts) (hx : a.eval x = ptrAt v o) :
    Yld P ⟨d, .load t x, ty, pos, af, g⟩ a σ (Ty.agg ((ts.drop o).take n)).pr := by
  obtain ⟨gg, e', cur, rfl, h2, h3, h4, h5⟩ := h
  have hx' : a.eval x = .pointer (some ⟨gg, o, none⟩) := hx
  have hlen : ((cur.toList.drop o).take n).length = n := by rw [List.length_take, List.length_drop, Array.length_toList]; omega
  have hget : ∀ j, j < n → ((cur.toList.drop o).take n)[j]? = cur[o + j]? := fun j hj => by rw [List.getElem?_take_of_lt hj, List.getElem?_drop]; simp
  refine Yld.of_run (v := .agg ((cur.toList.drop o).take n).toArray) ?_ ⟨_, rfl, ?_, fun j T u hj hu => ?_⟩
  · simp only [execOp, hx']
    have := run_loadVarA (P := P) ht he (w := σ.w) (ad := ⟨gg, o, none⟩) (us := (cur.toList.drop o).take n) hlen (fun j u hj => by
      have hlt : j < n := by have := (List.getElem?_eq_some_iff.1 hj).1; omega
      rw [hget j hlt] at hj
      rw [Addr.add_lit]
      simp [World.cell?, h3, hj])
    simp [Instr.loadAt, Instr.sureAddr, this]
  · simp only [List.size_toArray, hlen]; rw [List.length_take, List.length_drop]; omega
  · have hlt : j < n := by have := (List.getElem?_eq_some_iff.1 hj).1; rw [List.length_take] at this; omega
    rw [List.getElem?_take_of_lt hlt, List.getElem?_drop] at hj
    have hu2 : ((cur.toList.drop o).take n)[j]? = some u := by simpa using hu
    rw [hget j hlt] at hu2
    exact h5 _ T u hj hu2
end
section
variable {P : Program} {fn : Func} {σ0 σ : GW} {a : Act} {N d e f : Nat} {D : List Deferred} {L : List Nat} {R : Value → GW → Prop}
theorem run_cellA {t k : Nat} {T : TypeId} {nA : Nat} {eA : TypeId} {z : Value} {by_ : Nat} {ts : List Ty} (hT : P.underlying T = some (.array nA eA)) (he : Info P T z ts.length by_) (h : OwnP σ k (a.eval (.tmp t)) ts) :
    ∃ ad cur, a.tmps.getD t undef = .pointer (some ad) ∧ (loadVar T ad).run P σ.w = .ok (.agg cur) σ.w ∧ (Ty.agg ts).has σ (.agg cur) := by
  obtain ⟨gg, e', cur, e1, h2, h3, h4, h5⟩ := h
  have hl := run_loadVarA (P := P) hT he (w := σ.w) (ad := ⟨gg, 0, none⟩) (us := cur.toList) (by simp [h4]) (fun j u hj => by
    rw [Addr.add_lit, Nat.zero_add]
    simp at hj
    simp [World.cell?, h3, hj])
  exact ⟨_, cur, e1, by simpa using hl, cur, rfl, h4, h5⟩
theorem retL1cA {t k : Nat} {T : TypeId} {nA : Nat} {eA : TypeId} {z : Value} {by_ : Nat} {ts : List Ty} (hr : fn.results = #[.cell t T]) (ok : Ok N [] a) (hF : FromL L σ0 σ) (hT : P.underlying T = some (.array nA eA)) (he : Info P T z ts.length by_) (h : OwnP σ k (a.eval (.tmp t)) ts)
    (hR : ∀ v, (Ty.agg ts).has σ v → R v σ) : bodyPost P fn (RetL σ0 L R) .ret a σ.w := by
  obtain ⟨ad, cur, e2, hl, hv⟩ := run_cellA hT he h
  refine bodyPost_ret (v := .agg cur) ?_ ok.defers ⟨_, σ, rfl, hF, rfl, hR _ hv⟩
  have e3 : a.tmps[t]?.getD undef = .pointer (some ad) := by rw [← e2, Array.getD_eq_getD_getElem?]
  simp [results, hr, e3, asAddr, hl]
theorem retL2cA {t k : Nat} {T : TypeId} {nA : Nat} {eA : TypeId} {z : Value} {by_ : Nat} {ts : List Ty} (hr : fn.results = #[.cell t T, .tmp e]) (ok : Ok N [] a) (hF : FromL L σ0 σ) (hT : P.underlying T = some (.array nA eA)) (he : Info P T z ts.length by_) (h : OwnP σ k (a.eval (.tmp t)) ts)
    (hR : ∀ v, (Ty.agg ts).has σ v → R (.tuple #[v, a.eval (.tmp e)]) σ) : bodyPost P fn (RetL σ0 L R) .ret a σ.w := by
  obtain ⟨ad, cur, e2, hl, hv⟩ := run_cellA hT he h
  refine bodyPost_ret (v := .tuple #[.agg cur, a.eval (.tmp e)]) ?_ ok.defers ⟨_, σ, rfl, hF, rfl, hR _ hv⟩
  have e3 : a.tmps[t]?.getD undef = .pointer (some ad) := by rw [← e2, Array.getD_eq_getD_getElem?]
  simp [results, hr, e3, asAddr, hl, Act.eval]
end
end Go.KL

/- A sum that begins with a nought is never a nought below nought. -/
namespace Go.KL
open Ieee
def NZ (x : FV) : Prop := ¬ IsV x true 0
theorem nz_none : NZ none := fun ⟨_, _, _, e, _⟩ => by cases e
theorem nz_zero : NZ (some 0) := fun ⟨b, m, i, e, _, hr, _⟩ => by
  cases e
  rw [show Ieee.double.read 0 = .number false 0 (-1074) by decide +kernel] at hr
  cases hr
theorem fz_cases {x : FV} (hf : Fok x) : x = none ∨ (∃ s V, IsV x s V) ∨ ∃ b s, x = some b ∧ Ieee.double.read b = .infinity s := by
  cases x with
  | none => exact .inl rfl
  | some b =>
    obtain ⟨h1, h2⟩ := hf b rfl
    have hnn := (cn_some h2).2
    cases hr : Ieee.double.read b with
    | number s m i =>
      have hi : -1074 ≤ i := by
        rcases read_form hr with ⟨_, h⟩ | hc
        · omega
        · exact hc.low
      exact .inr (.inl ⟨_, _, b, m, i, rfl, h1, hr, hi, rfl⟩)
    | infinity s => exact .inr (.inr ⟨b, s, rfl, hr⟩)
    | nan s f => rw [hr] at hnn; cases hnn
theorem inf_readN : Ieee.double.read 18442240474082181120 = .infinity true := by decide +kernel
theorem inf_wordN : Ieee.double.word true 9218868437227405312 = 18442240474082181120 := by rw [word_eq]; rfl
theorem inf_not {s t : Bool} {V : Nat} : ¬ IsV (some (Ieee.double.word s 9218868437227405312)) t V := by
  rintro ⟨b, m, i, e, _, hr, _⟩
  cases e
  cases s
  · rw [inf_word, inf_read] at hr; cases hr
  · rw [inf_wordN, inf_readN] at hr; cases hr
theorem inf_sum {b : Nat} {s t : Bool} {V : Nat} (h : Ieee.double.read b = .infinity s) (y : FV) : ¬ IsV (fadd (some b) y) t V := by
  cases y with
  | none => exact fun ⟨_, _, _, e, _⟩ => by cases e
  | some c =>
    have e : fadd (some b) (some c) = ((Ieee.double.read b).sum (Ieee.double.read c)).map Ieee.double.write := rfl
    rw [e, h]
    cases Ieee.double.read c with
    | number t n j =>
      show ¬ IsV (some (Ieee.double.word s Ieee.double.infRung)) _ V
      rw [infR_eq]; exact inf_not
    | infinity u =>
      by_cases hu : s = u
      · subst hu
        have : ((Datum.infinity s).sum (.infinity s)).map Ieee.double.write = some (Ieee.double.word s Ieee.double.infRung) := by simp [Datum.sum, Format.write]
        rw [this, infR_eq]; exact inf_not
      · have : ((Datum.infinity s).sum (.infinity u)).map Ieee.double.write = none := by simp [Datum.sum, hu]
        rw [this]; exact fun ⟨_, _, _, e, _⟩ => by cases e
    | nan u f =>
      have : ((Datum.infinity s).sum (.nan u f)).map Ieee.double.write = none := by simp [Datum.sum]
      rw [this]; exact fun ⟨_, _, _, e, _⟩ => by cases e
theorem inf_sum' {b : Nat} {s t u : Bool} {V A : Nat} {x : FV} (hx : IsV x u A) (h : Ieee.double.read b = .infinity s) : ¬ IsV (fadd x (some b)) t V := by
  obtain ⟨c, m, i, rfl, _, hr, hi, rfl⟩ := hx
  show ¬ IsV (((Ieee.double.read c).sum (Ieee.double.read b)).map Ieee.double.write) t V
  rw [hr, h]
  show ¬ IsV (some (Ieee.double.word s Ieee.double.infRung)) _ V
  rw [infR_eq]; exact inf_not
theorem isv_one {x : FV} {s t : Bool} {V W : Nat} (h : IsV x s V) (h' : IsV x t W) : s = t ∧ V = W := by
  obtain ⟨b, m, i, e, _, hr, _, hv⟩ := h
  obtain ⟨b', m', i', e', _, hr', _, hv'⟩ := h'
  rw [e] at e'; cases e'
  rw [hr] at hr'; cases hr'
  exact ⟨rfl, by rw [← hv, ← hv']⟩
theorem nz_add {x y : FV} (hx : Fok x) (hy : Fok y) (h : NZ x) : NZ (fadd x y) := by
  intro hn
  rcases fz_cases hx with rfl | ⟨s, A, hA⟩ | ⟨b, s, rfl, hr⟩
  · exact nz_none hn
  · rcases fz_cases hy with rfl | ⟨t, B, hB⟩ | ⟨c, t, rfl, hr⟩
    · rw [add_none] at hn; exact nz_none hn
    · rcases add_v hA hB with ⟨W, h1, h2⟩ | ⟨_, h2⟩
      · obtain ⟨e1, e2⟩ := isv_one h2 hn
        subst e2
        have hS : sv s A + sv t B = 0 := by
          apply Classical.byContradiction
          intro hne
          have := h1.ge (k := 1) (j := 0) (by decide) (by omega)
          omega
        rw [if_pos hS] at e1
        obtain ⟨e3, e4⟩ : s = true ∧ t = true := by simpa using e1
        subst e3; subst e4
        unfold sv at hS
        simp only [if_true] at hS
        have hA0 : A = 0 := by omega
        subst hA0
        exact h hA
      · rw [h2] at hn; exact inf_not hn
    · exact inf_sum' hA hr hn
  · exact inf_sum hr y hn
theorem nz_pz {x : FV} (hx : Fok x) (h : NZ x) : pzF x = x := by
  unfold pzF
  split
  case isFalse => rfl
  rename_i he
  cases x with
  | none => simp [fEq, ford] at he
  | some b =>
    obtain ⟨s, i, hr⟩ := zero_read he
    have hlt := (hx b rfl).1
    have hi : i = -1074 := by
      rcases read_form hr with ⟨_, h⟩ | hc
      · exact h
      · have := hc.pos; omega
    subst hi
    have hb0 : b % 9223372036854775808 = 0 := by
      apply Classical.byContradiction
      intro hn
      rw [read_eq] at hr
      split at hr
      · have := congrArg (fun d => match d with | Datum.number _ m _ => m | _ => 0) hr
        exact hn this
      · split at hr
        · have := congrArg (fun d => match d with | Datum.number _ m _ => m | _ => 0) hr
          simp at this
        · split at hr <;> cases hr
    by_cases hb : b = 0
    · rw [hb]
    · exfalso
      have e : b = 9223372036854775808 := by omega
      subst e
      exact h ⟨_, 0, -1074, rfl, hlt, by decide +kernel, by omega, Nat.zero_mul _⟩
theorem nz_fst : ∀ (xs : List FV), (∀ x ∈ xs, Fok x) → ∀ s : SFV, Fok s.1 → NZ s.1 → Fok s.2 → Fok (xs.foldl addS s).1 ∧ NZ (xs.foldl addS s).1 ∧ Fok (xs.foldl addS s).2
  | [], _, s, h1, h2, h3 => ⟨h1, h2, h3⟩
  | x :: xs, hx, s, h1, h2, h3 => nz_fst xs (fun y hy => hx y (List.mem_cons_of_mem _ hy)) (addS s x) fok_fop (nz_add h1 (hx x List.mem_cons_self) h2) fok_fop
theorem fok_zero : Fok (some 0) := fun b e => by cases e; exact ⟨by decide, by decide +kernel⟩
theorem added_pz {xs : List FV} (h : ∀ x ∈ xs, Fok x) : pzF (added xs) = added xs := by
  obtain ⟨h1, h2, h3⟩ := nz_fst xs h S0 fok_zero nz_zero fok_zero
  exact nz_pz (show Fok (valS _) from fok_fop) (nz_add h1 h3 h2)
end Go.KL

/- Rows of rows of floats that the function made itself, and writes. -/
namespace Go.KL
open Go.RowKit
def RowsG (σ : GW) (k : Nat) (e : TypeId) (us : List Value) (xss : List (List FV)) : Prop :=
  us.length = xss.length ∧ (∀ i, i < us.length → Own σ k e 1 (us.getD i undef) (xss.getD i []).length ((xss.getD i []).map Ty.flt)) ∧
    ∀ i j g, i < us.length → j < us.length → (us.getD i undef).ownBlock = some g → (us.getD j undef).ownBlock = some g → i = j
def RestG (σ : GW) (k : Nat) (e : TypeId) (us : List Value) (xss : List (List FV)) (i : Nat) : Prop :=
  us.length = xss.length ∧ i < us.length ∧ (∀ j, j < us.length → j ≠ i → Own σ k e 1 (us.getD j undef) (xss.getD j []).length ((xss.getD j []).map Ty.flt)) ∧
    ∀ a b g, a < us.length → b < us.length → (us.getD a undef).ownBlock = some g → (us.getD b undef).ownBlock = some g → a = b
section
variable {σ τ : GW} {k k3 : Nat} {e : TypeId} {us : List Value} {xss : List (List FV)} {i : Nat} {L : List Nat}
theorem RowsG.keepL (h : RowsG σ k e us xss) (hs : StpL L σ τ) (h1 : 1 ∉ L) (hk : k ∉ L) : RowsG τ k e us xss := ⟨h.1, fun i hi => (h.2.1 i hi).keepL hs h1 hk, h.2.2⟩
theorem RowsG.k0 (h : RowsG σ k e us xss) (hs : Stp 0 σ τ) : RowsG τ k e us xss := h.keepL (L := []) hs.toL0 (by simp) (by simp)
theorem RestG.keepL (h : RestG σ k e us xss i) (hs : StpL L σ τ) (h1 : 1 ∉ L) (hk : k ∉ L) : RestG τ k e us xss i := ⟨h.1, h.2.1, fun j hj hn => (h.2.2.1 j hj hn).keepL hs h1 hk, h.2.2.2⟩
theorem RestG.k0 (h : RestG σ k e us xss i) (hs : Stp 0 σ τ) : RestG τ k e us xss i := h.keepL (L := []) hs.toL0 (by simp) (by simp)
theorem Own.st4 {c n : Nat} {v : Value} {ts : List Ty} (h : Own σ k e c v n ts) {g : Nat} (hg : v.ownBlock = some g) : σ.st g = k := h.choose_spec.2.2.2 g hg
theorem own_sl_at {c n : Nat} {v : Value} {ts : List Ty} (h : Own σ k e c v n ts) (hw : τ.w = σ.w) (hle : σ.Le τ) (hst : ∀ g, v.ownBlock = some g → τ.st g = 1) : (Ty.sl c n ts).has τ v := by
  obtain ⟨us, h1, h2, h3, h4⟩ := h
  rcases h1.2 with ⟨rfl, rfl⟩ | ⟨g, cap, cur, rfl, hb, hg, hn, hm, hcs, ht⟩
  · have hus : us = [] := List.eq_nil_of_length_eq_zero (by rw [h1.1]; simp)
    have hts : ts = [] := List.eq_nil_of_length_eq_zero (by rw [← h2, hus]; rfl)
    subst hts
    exact ⟨none, 0, 0, 0, rfl, ⟨Nat.le_refl _, by decide⟩, by simp, .inl rfl, fun j T hj => by simp at hj⟩
  · refine ⟨some ⟨g, 0, none⟩, cap, g, 0, rfl, ⟨hn, hm⟩, by rw [← h2]; exact h1.1, .inr ⟨rfl, hst g rfl⟩, fun j T hj => ?_⟩
    obtain ⟨u, hu⟩ : ∃ u, us[j]? = some u := ⟨us[j]'(by rw [h2]; exact (List.getElem?_eq_some_iff.1 hj).1), by simp⟩
    refine ⟨u, ?_, T.up hle (h3 j T u hj hu)⟩
    have := h1.cells (g := g) rfl j u hu
    rw [Addr.add_lit] at this
    rw [hw]; exact this
theorem RowsG.seal {ko : Nat} {eo : TypeId} {v : Value} {n : Nat} (h : RowsG σ k e us xss) (hk : 2 ≤ k) (ho : Own σ ko eo 1 v n (us.map Ty.val)) (hko : ko ≠ k) :
    ∃ τ : GW, τ.w = σ.w ∧ Stp k σ τ ∧ Own τ ko eo 1 v n (xss.map Ty.flts) := by
  obtain ⟨h1, h2, h3⟩ := h
  let τ : GW := ⟨σ.w, fun b => if σ.st b = k then 1 else σ.st b, fun b hb => by
    by_cases hy : σ.st b = k
    · exact σ.lt b (by omega)
    · simp only [hy, if_false] at hb; exact σ.lt b hb⟩
  have hs : Stp k σ τ := ⟨rfl, rfl, rfl, Dr.refl _, Nat.le_refl _, fun _ _ _ => rfl, fun b hb hm => by
    show (if σ.st b = k then 1 else σ.st b) = σ.st b
    rw [if_neg (by omega)]⟩
  have hle : σ.Le τ := hs.le (by omega)
  refine ⟨τ, rfl, hs, ?_⟩
  obtain ⟨vs, r1, r2, r3, r4⟩ := ho
  refine ⟨vs, r1, by rw [r2, List.length_map, List.length_map, h1], fun j T u hj hu => ?_, fun g hg => ?_⟩
  · have hjl : j < xss.length := by
      have := (List.getElem?_eq_some_iff.1 hj).1
      simpa using this
    have hju : j < us.length := by omega
    have hu2 : u = us.getD j undef := by
      have := r3 j (Ty.val (us.getD j undef)) u (by simp [hju]) hu
      exact this
    have hT : T = Ty.flts (xss.getD j []) := by
      rw [List.getElem?_map, List.getElem?_eq_getElem hjl] at hj
      cases hj
      simp [hjl]
    rw [hT, hu2]
    refine own_sl_at (h2 j hju) rfl hle fun g hg => ?_
    show (if σ.st g = k then 1 else σ.st g) = 1
    rw [if_pos ((h2 j hju).st4 hg)]
  · show (if σ.st g = k then 1 else σ.st g) = ko
    rw [if_neg (by rw [r4 g hg]; exact hko)]
    exact r4 g hg
end
/-! ### What the rows hold -/
def mapF (f : Nat → FV) (k : Nat) : List FV := (List.range k).map f
theorem mapF_succ (f : Nat → FV) (k : Nat) : mapF f (k + 1) = mapF f k ++ [f k] := by simp [mapF, List.range_succ]
theorem mapF_len (f : Nat → FV) (k : Nat) : (mapF f k).length = k := by simp [mapF]
theorem added_map (f : Nat → FV) (k : Nat) : added (mapF f k) = valS (foldTo f k) := by
  have : ∀ k, (mapF f k).foldl addS S0 = foldTo f k := by
    intro k
    induction k with
    | zero => rfl
    | succ k ih => rw [mapF_succ, List.foldl_append, ih]; rfl
  unfold added; rw [this]
end Go.KL

/- Arrays as values: built of two parts, and what stands at a place. -/
namespace Go.KL
open Go.RowKit
variable {P : Program} {d : Option Tmp} {ty : TypeId} {pos : String} {af : Array Edge} {g : Option (Nat × Bool)} {a : Act} {σ : GW}
theorem y_arri {α : Type} {f : α → Ty} {xs : List α} (dd : α) {t e : TypeId} {td : TypeDesc} {n : Nat} {ze : Value} {be i : Nat} {k : IntKind} {x y : Operand} (ht : P.underlying t = some (.array n e)) (hte : P.underlying e = some td) (hd : td.isRow = false) (he : Info P e ze 1 be)
    (hx : At (Ty.agg (xs.map f)) σ a x) (hy : a.eval y = .int k i) (hi : i < xs.length) (hn : xs.length = n) :
    Yld P ⟨d, .index t x y, ty, pos, af, g⟩ a σ (f (xs.getD i dd)).pr := by
  obtain ⟨cs, e1, hl, hc⟩ := hx
  rw [List.length_map] at hl
  have hlt : i < cs.size := by omega
  refine Yld.of_run (v := cs[i]) ?_ (hc i _ _ (by simp [hi]) (by simp [hlt]))
  have hagg : (isAgg e).run P σ.w = .ok false σ.w := by
    unfold isAgg
    rw [Sem.run_bind, run_underlying hte σ.w]
    cases td <;> simp_all
  simp only [execOp, e1, hy]
  have h0 : (0 : Int) ≤ (i : Int) ∧ (i : Int) < (n : Int) := by omega
  simp [Instr.index, Sem.run_bind, asIntOf, run_underlying ht, h0, he.size, part, hagg, hlt, show i < n by omega]
/-! ### Bells that are told -/
end Go.KL

/- Pairs of floats: complex numbers; a float's negation; sums with no sign on a nought. -/
namespace Go.KL
open Go.RowKit
abbrev CV := FV × FV
def C0 : CV := (some 0, some 0)
def Ty.cx (c : CV) : Ty := ⟨fun _ u => ∃ a b, u = .complex .f64 a b ∧ a < 18446744073709551616 ∧ b < 18446744073709551616 ∧ cn a = c.1 ∧ cn b = c.2, fun _ h => h⟩
theorem one_cx {c : CV} : One (.cx c) := fun _ u ⟨_, _, e, _⟩ => by rw [e]; rfl
theorem cx_zero {σ : GW} : (Ty.cx C0).has σ (.complex .f64 0 0) := ⟨0, 0, rfl, by decide, by decide, by decide +kernel, by decide +kernel⟩
theorem cx_const {σ : GW} {a b : Nat} (h1 : a < 18446744073709551616) (h2 : a % 9223372036854775808 ≤ 9218868437227405312) (h3 : b < 18446744073709551616) (h4 : b % 9223372036854775808 ≤ 9218868437227405312) : (Ty.cx (some a, some b)).has σ (.complex .f64 a b) := ⟨a, b, rfl, h1, h3, cn_le h2, cn_le h4⟩
theorem cx_of {σ : GW} {a b : Nat} {v : Value} (h1 : a < 18446744073709551616) (h2 : a % 9223372036854775808 ≤ 9218868437227405312) (h3 : b < 18446744073709551616) (h4 : b % 9223372036854775808 ≤ 9218868437227405312) (k : (Ty.val (.complex .f64 a b)).has σ v) : (Ty.cx (some a, some b)).has σ v := by
  have e : v = .complex .f64 a b := k
  rw [e]; exact cx_const h1 h2 h3 h4
section
variable {P : Program} {d : Option Tmp} {ty : TypeId} {pos : String} {af : Array Edge} {g : Option (Nat × Bool)} {a : Act} {σ : GW} {t u : TypeId} {x y : Operand} {p q : FV} {c : CV}
theorem y_cx (hx : At (.flt p) σ a x) (hy : At (.flt q) σ a y) : Yld P ⟨d, .call ⟨.builtin .complex, #[x, y], #[t, u]⟩, ty, pos, af, g⟩ a σ (Ty.cx (p, q)).pr := by
  obtain ⟨ba, ea, la, ca⟩ := hx
  obtain ⟨bb, eb, lb, cb⟩ := hy
  refine Yld.of_run (v := .complex .f64 ba bb) ?_ ⟨ba, bb, rfl, la, lb, ca, cb⟩
  simp only [execOp, resolve, List.map_toArray, List.map_cons, List.map_nil, ea, eb]
  rfl
theorem y_re (hx : At (.cx c) σ a x) : Yld P ⟨d, .call ⟨.builtin .real, #[x], #[t]⟩, ty, pos, af, g⟩ a σ (Ty.flt c.1).pr := by
  obtain ⟨ba, bb, e, la, lb, ca, cb⟩ := hx
  exact Yld.of_run (v := .float .f64 ba) (run_builtin1 e (fun cs => rfl)) ⟨ba, rfl, la, ca⟩
theorem y_im (hx : At (.cx c) σ a x) : Yld P ⟨d, .call ⟨.builtin .imag, #[x], #[t]⟩, ty, pos, af, g⟩ a σ (Ty.flt c.2).pr := by
  obtain ⟨ba, bb, e, la, lb, ca, cb⟩ := hx
  exact Yld.of_run (v := .float .f64 bb) (run_builtin1 e (fun cs => rfl)) ⟨bb, rfl, lb, cb⟩
theorem y_fneg {b b' : Nat} (hx : At (.flt (some b)) σ a x) (hb : Op.negFloat .f64 b = b') (h1 : b' < 18446744073709551616) (h2 : b' % 9223372036854775808 ≤ 9218868437227405312) : Yld P ⟨d, .unOp .neg t x, ty, pos, af, g⟩ a σ (Ty.flt (some b')).pr := by
  obtain ⟨ba, e, la, ca⟩ := hx
  obtain ⟨rfl, _⟩ := cn_some ca
  subst hb
  exact Yld.of_run (v := .float .f64 (Op.negFloat .f64 b)) (by simp only [execOp, e]; rfl) ⟨_, rfl, h1, cn_le h2⟩
end
section
variable {P : Program} {d : Option Tmp} {ty : TypeId} {pos : String} {af : Array Edge} {g : Option (Nat × Bool)} {a : Act} {σ : GW}
theorem y_build8 {x0 x1 x2 x3 x4 x5 x6 x7 : Operand} {p0 p1 p2 p3 p4 p5 p6 p7 : FV} {t e : TypeId} {z : Value} {b : Nat} (ht : P.underlying t = some (.slice e)) (he : Info P e z 1 b) (hz : z.cells.size = 1)
    (h0 : At (.flt p0) σ a x0) (h1 : At (.flt p1) σ a x1) (h2 : At (.flt p2) σ a x2) (h3 : At (.flt p3) σ a x3) (h4 : At (.flt p4) σ a x4) (h5 : At (.flt p5) σ a x5) (h6 : At (.flt p6) σ a x6) (h7 : At (.flt p7) σ a x7) :
    Yld P ⟨d, .buildSlice t 8 #[(0, x0), (1, x1), (2, x2), (3, x3), (4, x4), (5, x5), (6, x6), (7, x7)], ty, pos, af, g⟩ a σ (Ty.flts [p0, p1, p2, p3, p4, p5, p6, p7]).pr := by
  intro K Q hk
  obtain ⟨b0, e0, l0, c0⟩ := h0
  obtain ⟨b1, e1, l1, c1⟩ := h1
  obtain ⟨b2, e2, l2, c2⟩ := h2
  obtain ⟨b3, e3, l3, c3⟩ := h3
  obtain ⟨b4, e4, l4, c4⟩ := h4
  obtain ⟨b5, e5, l5, c5⟩ := h5
  obtain ⟨b6, e6, l6, c6⟩ := h6
  obtain ⟨b7, e7, l7, c7⟩ := h7
  have hr : (execOp a.eval ⟨d, .buildSlice t 8 #[(0, x0), (1, x1), (2, x2), (3, x3), (4, x4), (5, x5), (6, x6), (7, x7)], ty, pos, af, g⟩).run P σ.w = .ok (.value (.slice (some ⟨σ.w.heap.size, 0, none⟩) 8 8)) (σ.w.alloc (.cells #[Value.float .f64 b0, Value.float .f64 b1, Value.float .f64 b2, Value.float .f64 b3, Value.float .f64 b4, Value.float .f64 b5, Value.float .f64 b6, Value.float .f64 b7] e)) := by
    simp only [execOp, List.map_toArray, List.map_cons, List.map_nil, e0, e1, e2, e3, e4, e5, e6, e7]
    have hr : Array.range 8 = #[0, 1, 2, 3, 4, 5, 6, 7] := rfl
    simp [Instr.buildSlice, run_underlying ht, he.size, he.zero, Instr.fill, Value.cells, hz, newRow, newObj, Sem.run, Sem.run_bind, hr]
  unfold Oper.wp
  rw [hr]
  refine hk _ (σ.seal (.cells #[Value.float .f64 b0, Value.float .f64 b1, Value.float .f64 b2, Value.float .f64 b3, Value.float .f64 b4, Value.float .f64 b5, Value.float .f64 b6, Value.float .f64 b7] e)) (Stp.seal _ _) ⟨_, 8, σ.w.heap.size, 0, rfl, ⟨Nat.le_refl _, by decide⟩, rfl, .inr ⟨rfl, by simp [GW.seal]⟩, fun j U hj => ?_⟩
  match j, hj with
  | 0, hj => exact ⟨.float .f64 b0, by (show World.cell? (σ.w.alloc _) _ = _; simp only [World.cell?, heap_alloc_new]; rfl), by cases hj; exact ⟨b0, rfl, l0, c0⟩⟩
  | 1, hj => exact ⟨.float .f64 b1, by (show World.cell? (σ.w.alloc _) _ = _; simp only [World.cell?, heap_alloc_new]; rfl), by cases hj; exact ⟨b1, rfl, l1, c1⟩⟩
  | 2, hj => exact ⟨.float .f64 b2, by (show World.cell? (σ.w.alloc _) _ = _; simp only [World.cell?, heap_alloc_new]; rfl), by cases hj; exact ⟨b2, rfl, l2, c2⟩⟩
  | 3, hj => exact ⟨.float .f64 b3, by (show World.cell? (σ.w.alloc _) _ = _; simp only [World.cell?, heap_alloc_new]; rfl), by cases hj; exact ⟨b3, rfl, l3, c3⟩⟩
  | 4, hj => exact ⟨.float .f64 b4, by (show World.cell? (σ.w.alloc _) _ = _; simp only [World.cell?, heap_alloc_new]; rfl), by cases hj; exact ⟨b4, rfl, l4, c4⟩⟩
  | 5, hj => exact ⟨.float .f64 b5, by (show World.cell? (σ.w.alloc _) _ = _; simp only [World.cell?, heap_alloc_new]; rfl), by cases hj; exact ⟨b5, rfl, l5, c5⟩⟩
  | 6, hj => exact ⟨.float .f64 b6, by (show World.cell? (σ.w.alloc _) _ = _; simp only [World.cell?, heap_alloc_new]; rfl), by cases hj; exact ⟨b6, rfl, l6, c6⟩⟩
  | 7, hj => exact ⟨.float .f64 b7, by (show World.cell? (σ.w.alloc _) _ = _; simp only [World.cell?, heap_alloc_new]; rfl), by cases hj; exact ⟨b7, rfl, l7, c7⟩⟩
  | j + 8, hj => simp at hj
theorem y_box1 {x : Operand} {T : Ty} {t : TypeId} (h1 : One T) (hx : At T σ a x) : Yld P ⟨d, .box t x, ty, pos, af, g⟩ a σ (Ty.ref [T]).pr := by
  intro K Q hk
  have hc := cells_of_one (h1 _ _ hx)
  have hr : (execOp a.eval ⟨d, .box t x, ty, pos, af, g⟩).run P σ.w = .ok (.value (.pointer (some ⟨σ.w.heap.size, 0, none⟩))) (σ.w.alloc (.cells #[a.eval x] t)) := by
    simp only [execOp]
    generalize a.eval x = v at hc ⊢
    simp [run_box, hc]
  unfold Oper.wp
  rw [hr]
  refine hk _ (σ.seal (.cells #[a.eval x] t)) (Stp.seal _ _) ⟨σ.w.heap.size, 0, rfl, by simp [GW.seal], fun j U hj => ?_⟩
  match j, hj with
  | 0, hj =>
    simp at hj; subst hj
    refine ⟨a.eval x, ?_, T.up (Stp.seal _ _).le0 hx⟩
    show World.cell? (σ.w.alloc _) _ = _
    simp only [World.cell?, heap_alloc_new]
    rfl
end
end Go.KL

/- Sums, and the rhythm of eight turns: what both sides say. -/
namespace Go.KL
def nearF (x : FV) : Bool := fGe x (some 13965043853221167104) && fLe x (some 4741671816366391296)
def sumE (l : List FV) : Int := if 5000 < l.length then 3 else if (∀ j, j < l.length → nearF (l.getD j (some 0)) = true) then 0 else 12
section
variable {l : List FV}
theorem sum_3 (h : 5000 < l.length) : sumE l = 3 := by unfold sumE; rw [if_pos h]
theorem sum_12 {k : Nat} (h : ¬ 5000 < l.length) (hk : k < l.length) (hb : nearF (l.getD k (some 0)) = false) : sumE l = 12 := by
  unfold sumE
  rw [if_neg h, if_neg]
  intro ha
  rw [ha k hk] at hb; cases hb
theorem sum_0 (h : ¬ 5000 < l.length) (ha : ∀ j, j < l.length → nearF (l.getD j (some 0)) = true) : sumE l = 0 := by
  unfold sumE; rw [if_neg h, if_pos ha]
theorem sum_ok (h : sumE l = 0) : l.length ≤ 5000 := by
  unfold sumE at h
  split at h
  · omega
  · omega
abbrev getF (l : List FV) : Nat → FV := fun j => l.getD j (some 0)
theorem fold_get (l : List FV) : ∀ k, k ≤ l.length → foldTo (getF l) k = (l.take k).foldl addS S0
  | 0, _ => rfl
  | k + 1, h => by
    rw [add_succ (by omega)]
    show addS (foldTo (getF l) k) _ = _
    rw [fold_get l k (by omega)]
theorem added_get (l : List FV) : added l = valS (foldTo (getF l) l.length) := by
  rw [fold_get l _ (Nat.le_refl _), List.take_length]; rfl
end
abbrev HH : FV := some 4604544271217802189
abbrev HN : FV := some 13827916308072577997
abbrev ONE : FV := some 4607182418800017408
abbrev ONEN : FV := some 13830554455654793216
theorem half_root : fsqrt (some 4602678819172646912) = HH := by decide +kernel
def TURN : List CV := [(ONE, some 0), (HH, HH), (some 0, ONE), (HN, HH), (ONEN, some 0), (HN, HN), (some 0, ONEN), (HH, HN)]
def cw (mk : Bool) (i : Nat) : CV := if mk = true then TURN.getD i C0 else C0
def dn (mk : Bool) : Int := if mk = true then 1 else 0
def reT (i : Nat) : FV := (TURN.getD i C0).1
def imT (i : Nat) : FV := (TURN.getD i C0).2
theorem reT_get (i : Nat) : [ONE, HH, some 0, HN, ONEN, HN, some 0, HH].getD i (some 0) = reT i := by
  match i with
  | 0 | 1 | 2 | 3 | 4 | 5 | 6 | 7 => rfl
  | i + 8 => rfl
theorem imT_get (i : Nat) : [some 0, HH, ONE, HH, some 0, HN, ONEN, HN].getD i (some 0) = imT i := by
  match i with
  | 0 | 1 | 2 | 3 | 4 | 5 | 6 | 7 => rfl
  | i + 8 => rfl
def reF (l : List FV) (j k : Nat) : FV := fmul (l.getD k (some 0)) (reT (j * k % 8))
def imF (l : List FV) (j k : Nat) : FV := fmul (l.getD k (some 0)) (imT (j * k % 8))
def rhF (l : List FV) (j : Nat) : CV := (pzF (valS (foldTo (reF l j) l.length)), pzF (valS (foldTo (imF l j) l.length)))
def rhTo (l : List FV) (k : Nat) : List CV := (List.range k).map (rhF l)
theorem rhTo_succ (l : List FV) (k : Nat) : rhTo l (k + 1) = rhTo l k ++ [rhF l k] := by simp [rhTo, List.range_succ]
theorem rhTo_len (l : List FV) (k : Nat) : (rhTo l k).length = k := by simp [rhTo]
def outTo (l : List FV) (j : Nat) : List CV := (List.range 8).map fun i => if i < j then rhF l i else C0
theorem out_len (l : List FV) (j : Nat) : (outTo l j).length = 8 := by simp [outTo]
theorem out_set {l : List FV} {j : Nat} (h : j < 8) : (outTo l j).set j (rhF l j) = outTo l (j + 1) := by
  refine List.ext_getElem (by simp [outTo]) fun i h1 h2 => ?_
  rw [List.getElem_set]
  simp only [outTo, List.getElem_map, List.getElem_range]
  by_cases e : j = i
  · subst e; rw [if_pos rfl, if_pos (by omega)]
  · rw [if_neg e]
    by_cases e2 : i < j
    · rw [if_pos e2, if_pos (by omega)]
    · rw [if_neg e2, if_neg (by omega)]
theorem rhF_add (l : List FV) (j : Nat) : (fadd (valS (foldTo (reF l j) l.length)) (some 0), fadd (valS (foldTo (imF l j) l.length)) (some 0)) = rhF l j := by
  rw [add_zero_pz (x := valS (foldTo (reF l j) l.length)) fok_fop, add_zero_pz (x := valS (foldTo (imF l j) l.length)) fok_fop]; rfl
def xTab (l : List FV) : List CV := (List.range 8).map fun i => if sumE l = 0 then rhF l i else C0
theorem xTab_len (l : List FV) : (xTab l).length = 8 := by simp [xTab]
theorem tab_yes {l : List FV} {j : Nat} (h : sumE l = 0) (hj : j < 8) : (xTab l).getD j C0 = (if sumE l = 0 then rhTo l 8 else []).getD j C0 ∧ (if sumE l = 0 then rhTo l 8 else []).length = 8 := by
  rw [if_pos h]
  refine ⟨?_, rhTo_len l 8⟩
  simp [xTab, rhTo, h, hj]
theorem tab_no {l : List FV} {j : Nat} (h : ¬ sumE l = 0) (hj : j < 8) : (xTab l).getD j C0 = C0 := by
  simp [xTab, h, hj]
end Go.KL

