/- The law MusicSays holds of every number, every texts and every rows that are not larger than the bound: music.Count, music.All and music.Check answer as the document does, and what music.All counts is how many of all rows are like the pattern. -/
import Derived.Test.YtlhnpkaohfoicaaRows
import Derived.Test.YtlhnpkaohfoicaaMusicSaysW4
import Derived.Test.YtlhnpkaohfoicaaKlRow
import Derived.JoinedCond
import Derived.Deep.CondSized
namespace Go.Proofs.Ytlhnpkaohfoicaa
open Go.KL Go.ChangeShapes Go.WideShapes Go.ChangeAt Go.RowKit
theorem ownKnob_ : ownKnob Try.prog.godebug = none := by kernel_rfl
theorem laidOut : laidOutB Try.prog = true := by kernel_rfl
theorem bulk_one {H : Type} (d : DataW H) : 1 ≤ Rows.uptoBulk d := by
  cases d with
  | lit l => cases l <;> simp [Rows.uptoBulk]
  | nil => simp [Rows.uptoBulk]
  | ptr d => simp [Rows.uptoBulk]
  | slice elems spare => simp [Rows.uptoBulk]
  | agg parts => simp [Rows.uptoBulk]
  | iface t d => simp [Rows.uptoBulk]
  | map entries => simp [Rows.uptoBulk]
  | held h => simp [Rows.uptoBulk]
theorem bulk {H : Type} : Bulk (H := H) Rows.uptoBulk Rows.uptoBulkAll where
  one := bulk_one
  str l := by simp [Rows.uptoBulk]
  slice es sp := by simp [Rows.uptoBulk]
  agg ps := by simp [Rows.uptoBulk]
  nil := by simp [Rows.uptoBulkAll]
  cons d r := by simp [Rows.uptoBulkAll]
theorem mem_sum {α : Type} (f : α → Nat) : ∀ {l : List α} {x : α}, x ∈ l → f x ≤ (l.map f).sum
  | y :: l, x, h => by
    rw [List.map_cons, List.sum_cons]
    rcases List.mem_cons.1 h with e | e
    · subst e; omega
    · have := mem_sum f e; omega
set_option maxRecDepth 100000 in
theorem musicSays_contract (H : Type) (enc : TypeId × Value → H) (W : World) (base : Nat) (args : Array Value) (ds gs : List (DataW H)) (before : List MemPlace)
    (hval : ∀ (j : Nat) t v, Try.f6.params[j]? = some t → args[j]? = some v → Value.okWide Try.prog W .any base t v)
    (hW : DataW.Whole enc Try.prog Try.f6.params.toList Rows.musicSaysSpec.vars false W args.toList ds gs before)
    (hsz : (DataW.weightsEach Try.prog (Try.f6.params.toList ++ Rows.musicSaysSpec.plain.varTypes Try.prog) (ds ++ gs)).all (· ≤ reachBytes) = true) (hk : Rows.uptoSmall H (ds ++ gs) = true) :
    Calls Try.prog 6 args W fun e W' => ∃ v, e = .returned v ∧ Rows.musicSaysSpec.post enc Try.prog Try.f6 false true false false W args v W' := by
  have hw := hW
  obtain ⟨p, q, hA, hV, _, _, _⟩ := hw
  have hA : DataW.TrodAll enc Try.prog W 0 (fun _ => true) true [3, 55, 33] args.toList ds p := hA
  obtain ⟨rfl, rfl⟩ := trodVars_none hV
  obtain ⟨v0, vs0, d0, ds0, p0, q0, hargs, rfl, rfl, h0, r0⟩ := trodAll_cons hA
  obtain ⟨v1, vs1, d1, ds1, p1, q1, rfl, rfl, rfl, h1, r1⟩ := trodAll_cons r0
  obtain ⟨v2, vs2, d2, ds2, p2, q2, rfl, rfl, rfl, h2, r2⟩ := trodAll_cons r1
  obtain ⟨rfl, rfl, rfl⟩ := trodAll_nil r2
  obtain rfl : args = #[v0, v1, v2] := by cases args; simp_all
  have hsz0 : (DataW.weightsEach Try.prog [3, 55, 33] [d0, d1, d2]).all (· ≤ reachBytes) = true := hsz
  obtain ⟨z0, hsz1⟩ := weightsEach_cons hsz0
  obtain ⟨x0, wf0, sz0, rc0, t0⟩ := arg_one bulk (rd_int Try.underlying3) (one_int Try.underlying3 (hval 0 3 v0 rfl rfl)) h0
  have rc0 := rc0 z0
  obtain ⟨z1, hsz2⟩ := weightsEach_cons hsz1
  obtain ⟨x1, wf1, sz1, rc1, t1⟩ := arg_one bulk (rd_lst Try.underlying55 (by kernel_rfl) (rd_str Try.underlying9)) (one_slice Try.underlying55 (hval 1 55 v1 rfl rfl)) h1
  have rc1 := rc1 z1
  obtain ⟨z2, hsz3⟩ := weightsEach_cons hsz2
  obtain ⟨x2, wf2, sz2, rc2, t2⟩ := arg_one bulk (rd_lst Try.underlying33 (by kernel_rfl) (rd_lst Try.underlying34 (by kernel_rfl) (rd_int Try.underlying3))) (one_slice Try.underlying33 (hval 2 33 v2 rfl rfl)) h2
  have rc2 := rc2 z2
  have hbulk : Rows.uptoBulk d0 + (Rows.uptoBulk d1 + (Rows.uptoBulk d2 + 0)) ≤ 1048576 := of_decide_eq_true hk
  exact law_post (tb := 4) (by kernel_rfl) Try.underlying4 laidOut (by kernel_rfl) hW rfl rfl (musicSays_fn x0 x1 x2 _ _ _ _ t0 t1 t2 (i64_bd wf0) (fun t ht => by have h := mem_sum (fun s : ByteArray => s.size + 1) ht; have h2 : (x1.map fun s : ByteArray => s.size + 1).sum + 1 ≤ Rows.uptoBulk d1 := sz1; omega))

set_option maxRecDepth 100000 in
theorem musicSaysUpto_lifted (os : Os) (started : os.Started) (H : Type) (enc : TypeId × Value → H) (F : Stop.Interp) :
    ReturnsInHanded {} Try.checked os 6 .any ((Rows.OpenSpec.upto Rows.musicSaysSpec).pre6 enc Try.prog Try.f6 Rows.musicSaysUptoRow.domain false) (((Rows.OpenSpec.upto Rows.musicSaysSpec).at F).post enc Try.prog Try.f6 false true false false) := by
  refine returnsInHanded_of_cond_sized (C := Try.checked) (s := Rows.OpenSpec.upto Rows.musicSaysSpec) (k := Rows.uptoSmall) rfl ownKnob_ started (by kernel_rfl) Try.func6
    (OpenSpec.witness (enc := enc) (C := Try.checked) (s := Rows.OpenSpec.upto Rows.musicSaysSpec) (k := Rows.uptoSmall) rfl false ⟨#[], #[.int .i64 0, .slice none 0 0, .slice none 0 0], []⟩ 8 (by kernel_rfl) (by kernel_rfl) (by kernel_rfl)
      (x := ([.lit (.int .i64 0), .nil, .nil], [], [])) (by kernel_rfl) rfl (by kernel_rfl)) ?_
  intro W base args ds gs before hval hW _ hk hsz _
  exact musicSays_contract H enc W base args ds gs before hval hW hsz hk

theorem musicSaysUpto_holds : Rows.MusicSaysUptoSaid :=
  OpenClaim.holds_of_cond 6 Try.f6 rfl rfl rfl rfl rfl rfl rfl ⟨rfl, rfl, rfl, rfl, rfl⟩ rfl rfl rfl rfl rfl (by kernel_rfl) Try.func6 (by kernel_rfl)
    (of_decide_eq_true (by kernel_rfl)) (by unfold Func.isWrapper; first | (rw [if_pos (by decide +kernel)]; kernel_rfl) | (rw [if_neg (by decide +kernel)]; exact ⟨rfl, rfl⟩))
    (fun os started H enc _ F => musicSaysUpto_lifted os started H enc F)
#print axioms musicSaysUpto_holds
end Go.Proofs.Ytlhnpkaohfoicaa
