/- Strings: cut, joined, compared, made of runes; numbers converted; joins of branches; scopes; functions without a body. -/
import Derived.Test.YtlhnpkaohfoicaaKlWalk
import Derived.Lib.Bytealg
import Derived.Scope
namespace Go.KL
open Go.RowKit
variable {P : Program} {d : Option Tmp} {ty : TypeId} {pos : String} {af : Array Edge} {g : Option (Nat × Bool)} {a : Act} {σ : GW}

/-! ### Ways on -/
theorem join_then {c : Code} {N Q' : Act → World → Prop} {Q : Exit → Act → World → Prop} {a : Act} {w : World} (h1 : c.wp P (Exit.then Q' Q) a w) (h2 : ∀ a w, Q' a w → N a w) : c.wp P (Exit.then N Q) a w :=
  Code.wp_mono (fun e a' w' hq => by cases e <;> first | exact h2 _ _ hq | exact hq) h1
section
variable {Q : Exit → Act → World → Prop} {w : World}
theorem scn (h : Q .normal a w) : Exit.noGoto Q .normal a w := h
theorem scr (h : Q .ret a w) : Exit.noGoto Q .ret a w := h
theorem scx {i : Nat} (h : Q (.exit i) a w) : Exit.noGoto Q (.exit i) a w := h
end

/-! ### Numbers -/
theorem y_conv {x : Operand} {t u : TypeId} {k j : IntKind} {n m : Int} (hu : P.underlying u = some (.int j)) (hx : a.eval x = .int k n) (hm : j.wrap n = m) (ht : (P.underlying t).isSome = true) :
    Yld P ⟨d, .convert t u x, ty, pos, af, g⟩ a σ (Ty.val (.int j m)).pr := by
  obtain ⟨td, htd⟩ := Option.isSome_iff_exists.1 ht
  refine Yld.of_run (v := .int j m) ?_ rfl
  simp only [execOp, hx]
  subst hm
  simp [convert, Sem.run_bind, run_underlying hu, run_underlying htd, Conv.intToInt]
theorem y_convrs {x : Operand} {t u : TypeId} {k : IntKind} {n : Int} (hu : P.underlying u = some .string) (hx : a.eval x = .int k n) (ht : (P.underlying t).isSome = true) :
    Yld P ⟨d, .convert t u x, ty, pos, af, g⟩ a σ (Ty.val (.string (Utf8.encode n))).pr := by
  obtain ⟨td, htd⟩ := Option.isSome_iff_exists.1 ht
  refine Yld.of_run (v := .string (Utf8.encode n)) ?_ rfl
  simp only [execOp, hx]
  simp [convert, Sem.run_bind, run_underlying hu, run_underlying htd, Conv.intToString]

/-! ### Strings -/
theorem str_eq_iff (s t : ByteArray) : (s.toList == t.toList) = decide (s = t) := by
  rw [Bool.eq_iff_iff]
  simp only [beq_iff_eq, decide_eq_true_eq, ByteArray.toList_eq]
  constructor
  · intro h
    cases s with | mk s => cases t with | mk t =>
    simp only at h
    congr 1
    exact Array.toList_inj.1 h
  · rintro rfl; rfl
theorem y_seql {x y : Operand} {t u : TypeId} {r s : ByteArray} (ht : P.underlying t = some .string) (hx : a.eval x = .string r) (hy : a.eval y = .string s) : Yld P ⟨d, .binOp .eql t x y u, ty, pos, af, g⟩ a σ (Ty.bool (decide (r = s))).pr :=
  Yld.of_run (v := .bool (r.toList == s.toList)) (by simp only [execOp, hx, hy]; simp [binOp_string_eql, eqGuard, run_underlying ht]) (by show Value.bool _ = _; rw [str_eq_iff])
theorem y_sneq {x y : Operand} {t u : TypeId} {r s : ByteArray} (ht : P.underlying t = some .string) (hx : a.eval x = .string r) (hy : a.eval y = .string s) : Yld P ⟨d, .binOp .neq t x y u, ty, pos, af, g⟩ a σ (Ty.bool (!decide (r = s))).pr :=
  Yld.of_run (v := .bool (!(r.toList == s.toList))) (by simp only [execOp, hx, hy]; simp [binOp_string_neq, eqGuard, run_underlying ht]) (by show Value.bool _ = _; rw [str_eq_iff])
theorem y_scat {x y : Operand} {t u : TypeId} {r s : ByteArray} (hx : a.eval x = .string r) (hy : a.eval y = .string s) (hl : r.size + s.size ≤ 9223372036854775807) : Yld P ⟨d, .binOp .add t x y u, ty, pos, af, g⟩ a σ (Ty.val (.string (r ++ s))).pr := by
  refine Yld.of_run (v := .string (r ++ s)) ?_ rfl
  simp only [execOp, hx, hy]
  have h2 : ¬ (((r.size + s.size : Nat) : Int) > IntKind.i64.max) := by
    have : IntKind.i64.max = 9223372036854775807 := by decide
    rw [this]; omega
  simp only [binOp_string_add, Op.stringOp, if_neg h2]
  simp [eqGuard]
theorem y_sfrom {x y : Operand} {t : TypeId} {s : ByteArray} {k : IntKind} {l : Nat} (ht : P.underlying t = some .string) (hx : a.eval x = .string s) (hy : a.eval y = .int k l) (hl : l ≤ s.size) :
    Yld P ⟨d, .slice t x (some y) none none, ty, pos, af, g⟩ a σ (Ty.val (.string (s.extract l s.size))).pr := by
  refine Yld.of_run (v := .string (s.extract l s.size)) ?_ rfl
  simp only [execOp, hx, hy, Option.map_some, Option.map_none]
  have hl' : (0 : Int) ≤ (l : Int) ∧ (l : Int) ≤ ((s.size : Nat) : Int) := by omega
  simp [Instr.sliceAt, Instr.slice, Sem.run_bind, run_underlying ht, Instr.sliceBounds, Instr.sliceBound, asIntOf, hl]
theorem y_sto {x y : Operand} {t : TypeId} {s : ByteArray} {k : IntKind} {h : Nat} (ht : P.underlying t = some .string) (hx : a.eval x = .string s) (hy : a.eval y = .int k h) (hl : h ≤ s.size) :
    Yld P ⟨d, .slice t x none (some y) none, ty, pos, af, g⟩ a σ (Ty.val (.string (s.extract 0 h))).pr := by
  refine Yld.of_run (v := .string (s.extract 0 h)) ?_ rfl
  simp only [execOp, hx, hy, Option.map_some, Option.map_none]
  simp [Instr.sliceAt, Instr.slice, Sem.run_bind, run_underlying ht, Instr.sliceBounds, Instr.sliceBound, asIntOf, hl]
theorem y_sft {x y z : Operand} {t : TypeId} {s : ByteArray} {k k' : IntKind} {l h : Nat} (ht : P.underlying t = some .string) (hx : a.eval x = .string s) (hy : a.eval y = .int k l) (hz : a.eval z = .int k' h) (hl : l ≤ h) (hh : h ≤ s.size) :
    Yld P ⟨d, .slice t x (some y) (some z) none, ty, pos, af, g⟩ a σ (Ty.val (.string (s.extract l h))).pr := by
  refine Yld.of_run (v := .string (s.extract l h)) ?_ rfl
  simp only [execOp, hx, hy, hz, Option.map_some, Option.map_none]
  simp [Instr.sliceAt, Instr.slice, Sem.run_bind, run_underlying ht, Instr.sliceBounds, Instr.sliceBound, asIntOf, hl, hh]

/-! ### A function without a body -/
theorem y_extern {f : FuncId} {xs : Array Operand} {tys : Array TypeId} {R : Ty} {v : Value} (args : Array Value) (hargs : xs.map a.eval = args) (hr : (callFunc f args).run P σ.w = .ok (.value v) σ.w) (h : R.has σ v) :
    Yld P ⟨d, .call ⟨.value (.func f), xs, tys⟩, ty, pos, af, g⟩ a σ R.pr := by
  refine Yld.of_run (v := v) ?_ h
  simp only [execOp, resolve, hargs]
  simp only [Act.eval, Deferred.ofValue, Sem.run_bind, Sem.run_pure, Result.andThen_ok]
  simpa [invoke] using hr
end Go.KL
