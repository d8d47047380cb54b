/- The law ColourSays holds of the given program, for every argument: no condition. -/
import Derived.Test.YtkjifbgofckfeaaRows
import Derived.Test.YtkjifbgofckfeaaColourSaysW12
import Derived.Test.YtkjifbgofckfeaaColourSaysK3
namespace Go.Proofs.Ytkjifbgofckfeaa
open Go.KL Go.ChangeShapes Go.WideShapes Go.ChangeAt Go.RowKit
theorem ownKnob_ : ownKnob Try.prog.godebug = none := by kernel_rfl
theorem laidOut : laidOutB Try.prog = true := by kernel_rfl
theorem bulk_one {H : Type} (d : DataW H) : 1 ≤ Rows.uptoBulk d := by
  cases d with
  | lit l => cases l <;> simp [Rows.uptoBulk]
  | nil => simp [Rows.uptoBulk]
  | ptr d => simp [Rows.uptoBulk]
  | slice elems spare => simp [Rows.uptoBulk]
  | agg parts => simp [Rows.uptoBulk]
  | iface t d => simp [Rows.uptoBulk]
  | map entries => simp [Rows.uptoBulk]
  | held h => simp [Rows.uptoBulk]
theorem bulk {H : Type} : Bulk (H := H) Rows.uptoBulk Rows.uptoBulkAll where
  one := bulk_one
  str l := by simp [Rows.uptoBulk]
  slice es sp := by simp [Rows.uptoBulk]
  agg ps := by simp [Rows.uptoBulk]
  nil := by simp [Rows.uptoBulkAll]
  cons d r := by simp [Rows.uptoBulkAll]
set_option maxRecDepth 100000 in
theorem colourSays_contract (H : Type) (enc : TypeId × Value → H) (W : World) (base : Nat) (args : Array Value) (ds gs : List (DataW H)) (before : List MemPlace)
    (hval : ∀ (j : Nat) t v, Try.f10.params[j]? = some t → args[j]? = some v → Value.okWide Try.prog W .any base t v)
    (hW : DataW.Whole enc Try.prog Try.f10.params.toList Rows.colourSaysSpec.vars false W args.toList ds gs before)
    (hsz : (DataW.weightsEach Try.prog (Try.f10.params.toList ++ Rows.colourSaysSpec.plain.varTypes Try.prog) (ds ++ gs)).all (· ≤ reachBytes) = true) :
    Calls Try.prog 10 args W fun e W' => ∃ v, e = .returned v ∧ Rows.colourSaysSpec.post enc Try.prog Try.f10 false true false false W args v W' := by
  have hw := hW
  obtain ⟨p, q, hA, hV, _, _, _⟩ := hw
  have hA : DataW.TrodAll enc Try.prog W 0 (fun _ => true) true [3, 24, 3, 22] args.toList ds p := hA
  obtain ⟨rfl, rfl⟩ := trodVars_none hV
  obtain ⟨v0, vs0, d0, ds0, p0, q0, hargs, rfl, rfl, h0, r0⟩ := trodAll_cons hA
  obtain ⟨v1, vs1, d1, ds1, p1, q1, rfl, rfl, rfl, h1, r1⟩ := trodAll_cons r0
  obtain ⟨v2, vs2, d2, ds2, p2, q2, rfl, rfl, rfl, h2, r2⟩ := trodAll_cons r1
  obtain ⟨v3, vs3, d3, ds3, p3, q3, rfl, rfl, rfl, h3, r3⟩ := trodAll_cons r2
  obtain ⟨rfl, rfl, rfl⟩ := trodAll_nil r3
  obtain rfl : args = #[v0, v1, v2, v3] := by cases args; simp_all
  have hsz0 : (DataW.weightsEach Try.prog [3, 24, 3, 22] [d0, d1, d2, d3]).all (· ≤ reachBytes) = true := hsz
  obtain ⟨z0, hsz1⟩ := weightsEach_cons hsz0
  obtain ⟨x0, wf0, sz0, rc0, t0⟩ := arg_one bulk (rd_int Try.underlying3) (one_int Try.underlying3 (hval 0 3 v0 rfl rfl)) h0
  have rc0 := rc0 z0
  obtain ⟨z1, hsz2⟩ := weightsEach_cons hsz1
  obtain ⟨x1, wf1, sz1, rc1, t1⟩ := arg_one bulk (rd_lst Try.underlying24 (by kernel_rfl) (rd_lst Try.underlying22 (by kernel_rfl) (rd_int Try.underlying3))) (one_slice Try.underlying24 (hval 1 24 v1 rfl rfl)) h1
  have rc1 := rc1 z1
  obtain ⟨z2, hsz3⟩ := weightsEach_cons hsz2
  obtain ⟨x2, wf2, sz2, rc2, t2⟩ := arg_one bulk (rd_int Try.underlying3) (one_int Try.underlying3 (hval 2 3 v2 rfl rfl)) h2
  have rc2 := rc2 z2
  obtain ⟨z3, hsz4⟩ := weightsEach_cons hsz3
  obtain ⟨x3, wf3, sz3, rc3, t3⟩ := arg_one bulk (rd_lst Try.underlying22 (by kernel_rfl) (rd_int Try.underlying3)) (one_slice Try.underlying22 (hval 3 22 v3 rfl rfl)) h3
  have rc3 := rc3 z3
  exact law_post (tb := 4) (by kernel_rfl) Try.underlying4 laidOut (by kernel_rfl) hW rfl rfl (colourSays_fn x0 x1 x2 x3 _ _ _ _ _ t0 t1 t2 t3)

set_option maxRecDepth 100000 in
theorem colourSays_lifted (os : Os) (started : os.Started) (H : Type) (enc : TypeId × Value → H) :
    ReturnsInHanded {} Try.checked os 10 .any (Rows.colourSaysSpec.pre6 enc Try.prog Try.f10 Rows.colourSaysRow.domain false) (Rows.colourSaysSpec.post enc Try.prog Try.f10 false true false false) := by
  refine returnsInHanded_of_change_sized (C := Try.checked) ownKnob_ started (by kernel_rfl) Try.func10
    (ChangeSpec.witness6 (enc := enc) (C := Try.checked) false ⟨#[], #[.int .i64 0, .slice none 0 0, .int .i64 0, .slice none 0 0], []⟩ 8 (by kernel_rfl) (by kernel_rfl) (by kernel_rfl) (by kernel_rfl)) ?_
  intro W base args ds gs before hval hW _ hsz _
  exact colourSays_contract H enc W base args ds gs before hval hW hsz

theorem colourSays_holds : Rows.ColourSaysSaid :=
  OpenClaim.holds_of_wide 10 Try.f10 rfl rfl rfl rfl rfl rfl rfl ⟨rfl, rfl, rfl, rfl, rfl⟩ rfl rfl rfl rfl rfl (by kernel_rfl) Try.func10 (by kernel_rfl)
    (of_decide_eq_true (by kernel_rfl)) (by unfold Func.isWrapper; first | (rw [if_pos (by decide +kernel)]; kernel_rfl) | (rw [if_neg (by decide +kernel)]; exact ⟨rfl, rfl⟩))
    (fun os started H enc _ => colourSays_lifted os started H enc)
#print axioms colourSays_holds
end Go.Proofs.Ytkjifbgofckfeaa
