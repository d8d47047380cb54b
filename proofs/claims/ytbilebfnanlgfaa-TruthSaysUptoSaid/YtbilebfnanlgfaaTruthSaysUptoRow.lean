/- The law TruthSays holds of all methods, calls and leads, where what it reads is of bulk at most 1048576. -/
import Derived.Test.YtbilebfnanlgfaaRows
import Derived.Test.YtbilebfnanlgfaaTruthSaysW9
import Derived.Test.YtbilebfnanlgfaaTruthSaysK2
import Derived.JoinedCond
import Derived.Deep.CondSized
namespace Go.Proofs.Ytbilebfnanlgfaa
open Go.KL Go.ChangeShapes Go.WideShapes Go.ChangeAt Go.RowKit
theorem ownKnob_ : ownKnob Try.prog.godebug = none := by kernel_rfl
theorem laidOut : laidOutB Try.prog = true := by kernel_rfl
theorem bulk_one {H : Type} (d : DataW H) : 1 ≤ Rows.uptoBulk d := by
  cases d with
  | lit l => cases l <;> simp [Rows.uptoBulk]
  | nil => simp [Rows.uptoBulk]
  | ptr d => simp [Rows.uptoBulk]
  | slice elems spare => simp [Rows.uptoBulk]
  | agg parts => simp [Rows.uptoBulk]
  | iface t d => simp [Rows.uptoBulk]
  | map entries => simp [Rows.uptoBulk]
  | held h => simp [Rows.uptoBulk]
theorem bulk {H : Type} : Bulk (H := H) Rows.uptoBulk Rows.uptoBulkAll where
  one := bulk_one
  str l := by simp [Rows.uptoBulk]
  slice es sp := by simp [Rows.uptoBulk]
  agg ps := by simp [Rows.uptoBulk]
  nil := by simp [Rows.uptoBulkAll]
  cons d r := by simp [Rows.uptoBulkAll]
set_option maxRecDepth 100000 in
theorem truthSays_contract (H : Type) (enc : TypeId × Value → H) (W : World) (base : Nat) (args : Array Value) (ds gs : List (DataW H)) (before : List MemPlace)
    (hval : ∀ (j : Nat) t v, Try.f6.params[j]? = some t → args[j]? = some v → Value.okWide Try.prog W .any base t v)
    (hW : DataW.Whole enc Try.prog Try.f6.params.toList Rows.truthSaysSpec.vars false W args.toList ds gs before)
    (hsz : (DataW.weightsEach Try.prog (Try.f6.params.toList ++ Rows.truthSaysSpec.plain.varTypes Try.prog) (ds ++ gs)).all (· ≤ reachBytes) = true) (hk : Rows.uptoSmall H (ds ++ gs) = true) :
    Calls Try.prog 6 args W fun e W' => ∃ v, e = .returned v ∧ Rows.truthSaysSpec.post enc Try.prog Try.f6 false true false false W args v W' := by
  have hw := hW
  obtain ⟨p, q, hA, hV, _, _, _⟩ := hw
  have hA : DataW.TrodAll enc Try.prog W 0 (fun _ => true) true [31, 22, 23] args.toList ds p := hA
  obtain ⟨rfl, rfl⟩ := trodVars_none hV
  obtain ⟨v0, vs0, d0, ds0, p0, q0, hargs, rfl, rfl, h0, r0⟩ := trodAll_cons hA
  obtain ⟨v1, vs1, d1, ds1, p1, q1, rfl, rfl, rfl, h1, r1⟩ := trodAll_cons r0
  obtain ⟨v2, vs2, d2, ds2, p2, q2, rfl, rfl, rfl, h2, r2⟩ := trodAll_cons r1
  obtain ⟨rfl, rfl, rfl⟩ := trodAll_nil r2
  obtain rfl : args = #[v0, v1, v2] := by cases args; simp_all
  have hsz0 : (DataW.weightsEach Try.prog [31, 22, 23] [d0, d1, d2]).all (· ≤ reachBytes) = true := hsz
  obtain ⟨z0, hsz1⟩ := weightsEach_cons hsz0
  obtain ⟨x0, wf0, sz0, rc0, t0⟩ := arg_agg bulk (rd_s3 Try.underlying31 (by kernel_rfl) rfl rfl rfl (by kernel_rfl) (by kernel_rfl) (by kernel_rfl) (rd_str Try.underlying9) (rd_int Try.underlying3) (rd_lst Try.underlying29 (by kernel_rfl) (rd_lst Try.underlying23 (by kernel_rfl) (rd_int Try.underlying3)))) Try.underlying31 (hval 0 31 v0 rfl rfl) h0
  have rc0 := rc0 z0
  obtain ⟨z1, hsz2⟩ := weightsEach_cons hsz1
  obtain ⟨x1, wf1, sz1, rc1, t1⟩ := arg_one bulk (rd_lstc (c := 2) Try.underlying22 (by kernel_rfl) (by decide) (rd_s2 Try.underlying56 (by kernel_rfl) rfl rfl (by kernel_rfl) (by kernel_rfl) (rd_int Try.underlying21) (rd_lst Try.underlying29 (by kernel_rfl) (rd_lst Try.underlying23 (by kernel_rfl) (rd_int Try.underlying3)))) (fun _ => rfl)) (one_slice Try.underlying22 (hval 1 22 v1 rfl rfl)) h1
  have rc1 := rc1 z1
  obtain ⟨z2, hsz3⟩ := weightsEach_cons hsz2
  obtain ⟨x2, wf2, sz2, rc2, t2⟩ := arg_one bulk (rd_lst Try.underlying23 (by kernel_rfl) (rd_int Try.underlying3)) (one_slice Try.underlying23 (hval 2 23 v2 rfl rfl)) h2
  have rc2 := rc2 z2
  have hbulk : Rows.uptoBulk d0 + (Rows.uptoBulk d1 + (Rows.uptoBulk d2 + 0)) ≤ 1048576 := of_decide_eq_true hk
  exact law_post (tb := 4) (by kernel_rfl) Try.underlying4 laidOut (by kernel_rfl) hW rfl rfl (truthSays_fn x0.1 x0.2.1 x0.2.2 x1 x2 _ _ _ _ t0 t1 t2 (by have h1 : x0.1.size + 1 + 1 + _ + 1 ≤ Rows.uptoBulk d0 := sz0; omega) (i64_bd wf0.2.1))

set_option maxRecDepth 100000 in
theorem truthSaysUpto_lifted (os : Os) (started : os.Started) (H : Type) (enc : TypeId × Value → H) (F : Stop.Interp) :
    ReturnsInHanded {} Try.checked os 6 .any ((Rows.OpenSpec.upto Rows.truthSaysSpec).pre6 enc Try.prog Try.f6 Rows.truthSaysUptoRow.domain false) (((Rows.OpenSpec.upto Rows.truthSaysSpec).at F).post enc Try.prog Try.f6 false true false false) := by
  refine returnsInHanded_of_cond_sized (C := Try.checked) (s := Rows.OpenSpec.upto Rows.truthSaysSpec) (k := Rows.uptoSmall) rfl ownKnob_ started (by kernel_rfl) Try.func6
    (OpenSpec.witness (enc := enc) (C := Try.checked) (s := Rows.OpenSpec.upto Rows.truthSaysSpec) (k := Rows.uptoSmall) rfl false ⟨#[], #[.agg #[.string ByteArray.empty, .int .i64 0, .slice none 0 0], .slice none 0 0, .slice none 0 0], []⟩ 8 (by kernel_rfl) (by kernel_rfl) (by kernel_rfl)
      (x := ([.agg [.lit (.string []), .lit (.int .i64 0), .nil], .nil, .nil], [], [])) (by kernel_rfl) rfl (by kernel_rfl)) ?_
  intro W base args ds gs before hval hW _ hk hsz _
  exact truthSays_contract H enc W base args ds gs before hval hW hsz hk

theorem truthSaysUpto_holds : Rows.TruthSaysUptoSaid :=
  OpenClaim.holds_of_cond 6 Try.f6 rfl rfl rfl rfl rfl rfl rfl ⟨rfl, rfl, rfl, rfl, rfl⟩ rfl rfl rfl rfl rfl (by kernel_rfl) Try.func6 (by kernel_rfl)
    (of_decide_eq_true (by kernel_rfl)) (by unfold Func.isWrapper; first | (rw [if_pos (by decide +kernel)]; kernel_rfl) | (rw [if_neg (by decide +kernel)]; exact ⟨rfl, rfl⟩))
    (fun os started H enc _ F => truthSaysUpto_lifted os started H enc F)
#print axioms truthSaysUpto_holds
end Go.Proofs.Ytbilebfnanlgfaa
