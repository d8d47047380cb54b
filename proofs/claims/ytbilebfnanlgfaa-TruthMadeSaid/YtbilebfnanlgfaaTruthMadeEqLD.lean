/- Reports compared: the numbers of the types here. -/
import Derived.Test.YtbilebfnanlgfaaTruthMadeK2
import Derived.Laws.StructEq
import Derived.WalkKit
import Derived.Test.YtbilebfnanlgfaaProg
namespace Go.Proofs.Ytbilebfnanlgfaa
open Go.KL Go.RowKit
def repB (x y : Int × Bool × Bool × Int × Int) : Bool := decide (x.1 = y.1) && (x.2.1 == y.2.1) && (x.2.2.1 == y.2.2.1) && decide (x.2.2.2.1 = y.2.2.2.1) && decide (x.2.2.2.2 = y.2.2.2.2)
theorem repB_self (x : Int × Bool × Bool × Int × Int) : repB x x = true := by simp [repB]
theorem eq42 (x y : Int × Bool × Bool × Int × Int) (w : World) : (binOp .eql 42 (.agg #[.int .i64 x.1, .bool x.2.1, .bool x.2.2.1, .int .i64 x.2.2.2.1, .int .i64 x.2.2.2.2]) (.agg #[.int .i64 y.1, .bool y.2.1, .bool y.2.2.1, .int .i64 y.2.2.2.1, .int .i64 y.2.2.2.2])).run Try.prog w = .ok (.bool (repB x y)) w := by
  have u3 := Try.underlying3
  have u4 := Try.underlying4
  have hS : Try.prog.underlying 42 = some (.struct (Try.prog.fieldsOf 42)) := by kernel_rfl
  have hp : Try.prog.stoodInHeld 42 = false := by kernel_rfl
  rw [run_eql_struct, show (10000 : Nat) = 9999 + 1 from rfl, run_equalIn_agg w 9999 42 _ _ hS hp]
  simp only [Program.fieldsOf, Try.underlying42]
  go_simp
  by_cases h1 : x.1 = y.1 <;> by_cases h2 : x.2.1 = y.2.1 <;> by_cases h3 : x.2.2.1 = y.2.2.1 <;> by_cases h4 : x.2.2.2.1 = y.2.2.2.1 <;> by_cases h5 : x.2.2.2.2 = y.2.2.2.2 <;> simp [repB, h1, h2, h3, h4, h5]
theorem agg5 {σ : GW} {v : Value} {x : Int × Bool × Bool × Int × Int} (h : (Ty.agg [Ty.int x.1, Ty.bool x.2.1, Ty.bool x.2.2.1, Ty.int x.2.2.2.1, Ty.int x.2.2.2.2]).has σ v) : v = .agg #[.int .i64 x.1, .bool x.2.1, .bool x.2.2.1, .int .i64 x.2.2.2.1, .int .i64 x.2.2.2.2] := by
  obtain ⟨cur, rfl, hs, hc⟩ := h
  congr 1
  have hs5 : cur.size = 5 := hs
  apply Array.ext_getElem?
  intro i
  match i with
  | 0 => have := hc 0 _ cur[0] rfl (by simp); rw [Array.getElem?_eq_getElem (by omega)]; exact congrArg some this
  | 1 => have := hc 1 _ cur[1] rfl (by simp); rw [Array.getElem?_eq_getElem (by omega)]; exact congrArg some this
  | 2 => have := hc 2 _ cur[2] rfl (by simp); rw [Array.getElem?_eq_getElem (by omega)]; exact congrArg some this
  | 3 => have := hc 3 _ cur[3] rfl (by simp); rw [Array.getElem?_eq_getElem (by omega)]; exact congrArg some this
  | 4 => have := hc 4 _ cur[4] rfl (by simp); rw [Array.getElem?_eq_getElem (by omega)]; exact congrArg some this
  | i + 5 => rw [Array.getElem?_eq_none (by omega)]; simp
theorem y_eqrep {d : Option Tmp} {ty u : TypeId} {pos : String} {af : Array Edge} {g : Option (Nat × Bool)} {a : Act} {σ : GW} {x y : Operand} {X Y : Int × Bool × Bool × Int × Int}
    (hx : At (Ty.agg [Ty.int X.1, Ty.bool X.2.1, Ty.bool X.2.2.1, Ty.int X.2.2.2.1, Ty.int X.2.2.2.2]) σ a x) (hy : At (Ty.agg [Ty.int Y.1, Ty.bool Y.2.1, Ty.bool Y.2.2.1, Ty.int Y.2.2.2.1, Ty.int Y.2.2.2.2]) σ a y) :
    Yld Try.prog ⟨d, .binOp .eql 42 x y u, ty, pos, af, g⟩ a σ (Ty.bool (repB X Y)).pr := by
  have e1 := agg5 hx
  have e2 := agg5 hy
  refine Yld.of_run (v := .bool (repB X Y)) ?_ rfl
  simp only [execOp, e1, e2]
  have h1 := run_eqGuard_agg (P := Try.prog) σ.w .eql 42 x y #[.int .i64 X.1, .bool X.2.1, .bool X.2.2.1, .int .i64 X.2.2.2.1, .int .i64 X.2.2.2.2] #[.int .i64 Y.1, .bool Y.2.1, .bool Y.2.2.1, .int .i64 Y.2.2.2.1, .int .i64 Y.2.2.2.2] (by kernel_rfl)
  simp [h1, eq42 X Y σ.w]
end Go.Proofs.Ytbilebfnanlgfaa
