/- The numbers of package api are the document's: the law returns true. No condition. -/
import Derived.Test.YtmdaialaphkhfaaRows
import Derived.Test.YtmdaialaphkhfaaProg
import Derived.Test.YtmdaialaphkhfaaKlRow
namespace Go.Proofs.Ytmdaialaphkhfaa
open Go.KL Go.ChangeShapes Go.WideShapes Go.ChangeAt Go.RowKit
theorem ownKnob_ : ownKnob Try.prog.godebug = none := by kernel_rfl
theorem laidOut : laidOutB Try.prog = true := by kernel_rfl
theorem bulk_one {H : Type} (d : DataW H) : 1 ≤ Rows.uptoBulk d := by
  cases d with
  | lit l => cases l <;> simp [Rows.uptoBulk]
  | nil => simp [Rows.uptoBulk]
  | ptr d => simp [Rows.uptoBulk]
  | slice elems spare => simp [Rows.uptoBulk]
  | agg parts => simp [Rows.uptoBulk]
  | iface t d => simp [Rows.uptoBulk]
  | map entries => simp [Rows.uptoBulk]
  | held h => simp [Rows.uptoBulk]
theorem bulk {H : Type} : Bulk (H := H) Rows.uptoBulk Rows.uptoBulkAll where
  one := bulk_one
  str l := by simp [Rows.uptoBulk]
  slice es sp := by simp [Rows.uptoBulk]
  agg ps := by simp [Rows.uptoBulk]
  nil := by simp [Rows.uptoBulkAll]
  cons d r := by simp [Rows.uptoBulkAll]
set_option maxRecDepth 100000 in
theorem names_fn  (σ : GW)    :
    FnC Try.prog 3 #[] σ (Ty.bool true) := by
 refine fn_intro Try.func3 rfl Try.ntmps3 (Nat.le_of_ble_eq_true rfl) (fun s0 a0 hle F0 ok0 hargs => ?_)
 clear hargs
 refine wp_seq ?_
 refine reg (a := a0) (σ := s0) rfl (fun i => List.getD [(Ty.pr (Ty.bool false))] i Pr.any) ok0 rfl ⟨?_, trivial⟩ ?_
 · intro a1 t1 hs ok1 sm
   exact run_plain rfl (y_assign rfl)
 intro a1 s1 D1
 have ok1 := D1.ok
 have F1 := F0.step0 D1.stp
 clear D1
 refine tn ?_
 refine wp_seq ?_
 refine reg (a := a1) (σ := s1) rfl (fun i => List.getD [(Ty.pr (Ty.bool true))] i Pr.any) ok1 rfl ⟨?_, trivial⟩ ?_
 · intro a1 t1 hs ok1 sm
   exact run_plain rfl (y_assign rfl)
 intro a2 s2 D2
 have ok2 := D2.ok
 have F2 := F1.step0 D2.stp
 have q1 : At (Ty.bool true) s2 a2 (.tmp 1) := D2.done 0
 clear D2
 refine tn ?_
 refine wp_seq ?_
 refine reg (a := a2) (σ := s2) rfl (fun i => List.getD [(Ty.pr (Ty.bool true))] i Pr.any) ok2 rfl ⟨?_, trivial⟩ ?_
 · intro a1 t1 hs ok1 sm
   exact run_plain rfl (y_assign rfl)
 intro a3 s3 D3
 have ok3 := D3.ok
 have F3 := F2.step0 D3.stp
 have q2 : At (Ty.bool true) s3 a3 (.tmp 1) := D3.kt q1 rfl
 have q3 : At (Ty.bool true) s3 a3 (.tmp 2) := D3.done 0
 clear D3
 refine tn ?_
 refine wp_seq ?_
 refine reg (a := a3) (σ := s3) rfl (fun i => List.getD [(Ty.pr (Ty.bool true)), (Ty.pr (Ty.bool true)), (Ty.pr (Ty.grd (true = true) (Ty.bool true))), (Ty.pr (Ty.bool (true && true))), (Ty.pr (Ty.bool (true && true))), (Ty.pr (Ty.bool (true && true))), (Ty.pr (Ty.bool (true && true))), (Ty.pr (Ty.bool (true && true))), (Ty.pr (Ty.bool (true && true))), (Ty.pr (Ty.bool (true && true))), (Ty.pr (Ty.bool (true && true))), (Ty.pr (Ty.bool (true && true))), (Ty.pr (Ty.bool (true && true))), (Ty.pr (Ty.bool (true && true))), (Ty.pr (Ty.bool (true && true))), (Ty.pr (Ty.bool (true && true))), (Ty.pr (Ty.bool (true && true))), (Ty.pr (Ty.bool (true && true))), (Ty.pr (Ty.bool (true && true)))] i Pr.any) ok3 rfl ⟨?_, ?_, ?_, ?_, ?_, ?_, ?_, ?_, ?_, ?_, ?_, ?_, ?_, ?_, ?_, ?_, ?_, ?_, ?_, trivial⟩ ?_
 · intro a1 t1 hs ok1 sm
   exact run_plain rfl (y_move (kp (sm 1 rfl) hs q2))
 · intro a1 t1 hs ok1 sm d0
   have e0 : At (Ty.bool true) t1 a1 (.tmp 3) := d0 rfl
   exact run_plain rfl (y_move e0)
 · intro a1 t1 hs ok1 sm d0
   have e1 : At (Ty.bool true) t1 a1 (.tmp 4) := d0 rfl
   refine run_guard (T := (Ty.bool true)) ok1 rfl rfl (by decide) e1 (fun hg => ?_)
   exact y_move (kp (sm 2 rfl) hs q3)
 · intro a1 t1 hs ok1 sm d0 d1
   have e1 : At (Ty.bool true) t1 a1 (.tmp 4) := d0 rfl
   have e2 : At (Ty.grd (true = true) (Ty.bool true)) t1 a1 (.tmp 5) := d1 rfl
   exact run_plain rfl (y_pick_and e1 e2 rfl)
 · intro a1 t1 hs ok1 sm d0 d1
   have e3 : At (Ty.bool (true && true)) t1 a1 (.tmp 6) := d0 rfl
   have e1 : At (Ty.bool true) t1 a1 (.tmp 4) := d1 rfl
   exact run_plain rfl (y_move e3)
 · intro a1 t1 hs ok1 sm d0
   have e4 : At (Ty.bool (true && true)) t1 a1 (.tmp 7) := d0 rfl
   exact run_plain rfl (y_pick_tf e4 rfl rfl)
 · intro a1 t1 hs ok1 sm d0 d1
   have e5 : At (Ty.bool (true && true)) t1 a1 (.tmp 8) := d0 rfl
   have e4 : At (Ty.bool (true && true)) t1 a1 (.tmp 7) := d1 rfl
   exact run_plain rfl (y_move e5)
 · intro a1 t1 hs ok1 sm d0
   have e6 : At (Ty.bool (true && true)) t1 a1 (.tmp 9) := d0 rfl
   exact run_plain rfl (y_pick_tf e6 rfl rfl)
 · intro a1 t1 hs ok1 sm d0 d1
   have e7 : At (Ty.bool (true && true)) t1 a1 (.tmp 10) := d0 rfl
   have e6 : At (Ty.bool (true && true)) t1 a1 (.tmp 9) := d1 rfl
   exact run_plain rfl (y_move e7)
 · intro a1 t1 hs ok1 sm d0
   have e8 : At (Ty.bool (true && true)) t1 a1 (.tmp 11) := d0 rfl
   exact run_plain rfl (y_pick_tf e8 rfl rfl)
 · intro a1 t1 hs ok1 sm d0 d1
   have e9 : At (Ty.bool (true && true)) t1 a1 (.tmp 12) := d0 rfl
   have e8 : At (Ty.bool (true && true)) t1 a1 (.tmp 11) := d1 rfl
   exact run_plain rfl (y_move e9)
 · intro a1 t1 hs ok1 sm d0
   have e10 : At (Ty.bool (true && true)) t1 a1 (.tmp 13) := d0 rfl
   exact run_plain rfl (y_pick_tf e10 rfl rfl)
 · intro a1 t1 hs ok1 sm d0 d1
   have e11 : At (Ty.bool (true && true)) t1 a1 (.tmp 14) := d0 rfl
   have e10 : At (Ty.bool (true && true)) t1 a1 (.tmp 13) := d1 rfl
   exact run_plain rfl (y_move e11)
 · intro a1 t1 hs ok1 sm d0
   have e12 : At (Ty.bool (true && true)) t1 a1 (.tmp 15) := d0 rfl
   exact run_plain rfl (y_pick_tf e12 rfl rfl)
 · intro a1 t1 hs ok1 sm d0 d1
   have e13 : At (Ty.bool (true && true)) t1 a1 (.tmp 16) := d0 rfl
   have e12 : At (Ty.bool (true && true)) t1 a1 (.tmp 15) := d1 rfl
   exact run_plain rfl (y_move e13)
 · intro a1 t1 hs ok1 sm d0
   have e14 : At (Ty.bool (true && true)) t1 a1 (.tmp 17) := d0 rfl
   exact run_plain rfl (y_pick_tf e14 rfl rfl)
 · intro a1 t1 hs ok1 sm d0 d1
   have e15 : At (Ty.bool (true && true)) t1 a1 (.tmp 18) := d0 rfl
   have e14 : At (Ty.bool (true && true)) t1 a1 (.tmp 17) := d1 rfl
   exact run_plain rfl (y_move e15)
 · intro a1 t1 hs ok1 sm d0
   have e16 : At (Ty.bool (true && true)) t1 a1 (.tmp 19) := d0 rfl
   exact run_plain rfl (y_pick_tf e16 rfl rfl)
 · intro a1 t1 hs ok1 sm d0 d1 d2 d3 d4 d5 d6 d7 d8 d9 d10 d11 d12 d13 d14 d15 d16 d17 d18 d19
   have e17 : At (Ty.bool (true && true)) t1 a1 (.tmp 20) := d0 rfl
   have e16 : At (Ty.bool (true && true)) t1 a1 (.tmp 19) := d1 rfl
   have e0 : At (Ty.bool true) t1 a1 (.tmp 3) := d2 rfl
   have e1 : At (Ty.bool true) t1 a1 (.tmp 4) := d3 rfl
   have e2 : At (Ty.grd (true = true) (Ty.bool true)) t1 a1 (.tmp 5) := d4 rfl
   have e3 : At (Ty.bool (true && true)) t1 a1 (.tmp 6) := d5 rfl
   have e4 : At (Ty.bool (true && true)) t1 a1 (.tmp 7) := d6 rfl
   have e5 : At (Ty.bool (true && true)) t1 a1 (.tmp 8) := d7 rfl
   have e6 : At (Ty.bool (true && true)) t1 a1 (.tmp 9) := d8 rfl
   have e7 : At (Ty.bool (true && true)) t1 a1 (.tmp 10) := d9 rfl
   have e8 : At (Ty.bool (true && true)) t1 a1 (.tmp 11) := d10 rfl
   have e9 : At (Ty.bool (true && true)) t1 a1 (.tmp 12) := d11 rfl
   have e10 : At (Ty.bool (true && true)) t1 a1 (.tmp 13) := d12 rfl
   have e11 : At (Ty.bool (true && true)) t1 a1 (.tmp 14) := d13 rfl
   have e12 : At (Ty.bool (true && true)) t1 a1 (.tmp 15) := d14 rfl
   have e13 : At (Ty.bool (true && true)) t1 a1 (.tmp 16) := d15 rfl
   have e14 : At (Ty.bool (true && true)) t1 a1 (.tmp 17) := d16 rfl
   have e15 : At (Ty.bool (true && true)) t1 a1 (.tmp 18) := d17 rfl
   exact run_plain rfl (y_assign e17)
 intro a4 s4 D4
 have ok4 := D4.ok
 have F4 := F3.step0 D4.stp
 have q4 : At (Ty.bool (true && true)) s4 a4 (.tmp 0) := D4.done 18
 clear D4
 refine tn ?_
 refine wp_ret ?_
 exact ret1 rfl ok4 F4 (cvb (by (first | rfl | omega | (simp_all; done) | (simp_all; omega))) q4)
set_option maxRecDepth 100000 in
theorem names_contract (H : Type) (enc : TypeId × Value → H) (W : World) (base : Nat) (args : Array Value) (ds gs : List (DataW H)) (before : List MemPlace)
    (hval : ∀ (j : Nat) t v, Try.f3.params[j]? = some t → args[j]? = some v → Value.okWide Try.prog W .any base t v)
    (hW : DataW.Whole enc Try.prog Try.f3.params.toList Rows.namesSpec.vars false W args.toList ds gs before)
    (hsz : (DataW.weightsEach Try.prog (Try.f3.params.toList ++ Rows.namesSpec.plain.varTypes Try.prog) (ds ++ gs)).all (· ≤ reachBytes) = true) :
    Calls Try.prog 3 args W fun e W' => ∃ v, e = .returned v ∧ Rows.namesSpec.post enc Try.prog Try.f3 false true false false W args v W' := by
  have hw := hW
  obtain ⟨p, q, hA, hV, _, _, _⟩ := hw
  have hA : DataW.TrodAll enc Try.prog W 0 (fun _ => true) true [] args.toList ds p := hA
  obtain ⟨rfl, rfl⟩ := trodVars_none hV
  obtain ⟨hargs, rfl, rfl⟩ := trodAll_nil hA
  obtain rfl : args = #[] := by cases args; simp_all
  exact law_post (tb := 4) (by kernel_rfl) Try.underlying4 laidOut (by kernel_rfl) hW rfl rfl (names_fn _)

set_option maxRecDepth 100000 in
theorem names_lifted (os : Os) (started : os.Started) (H : Type) (enc : TypeId × Value → H) :
    ReturnsInHanded {} Try.checked os 3 .any (Rows.namesSpec.pre6 enc Try.prog Try.f3 Rows.namesRow.domain false) (Rows.namesSpec.post enc Try.prog Try.f3 false true false false) := by
  refine returnsInHanded_of_change_sized (C := Try.checked) ownKnob_ started (by kernel_rfl) Try.func3
    (ChangeSpec.witness6 (enc := enc) (C := Try.checked) false ⟨#[], #[], []⟩ 8 (by kernel_rfl) (by kernel_rfl) (by kernel_rfl) (by kernel_rfl)) ?_
  intro W base args ds gs before hval hW _ hsz _
  exact names_contract H enc W base args ds gs before hval hW hsz

theorem names_holds : Rows.NamesSaid :=
  OpenClaim.holds_of_wide 3 Try.f3 rfl rfl rfl rfl rfl rfl rfl ⟨rfl, rfl, rfl, rfl, rfl⟩ rfl rfl rfl rfl rfl (by kernel_rfl) Try.func3 (by kernel_rfl)
    (of_decide_eq_true (by kernel_rfl)) (by unfold Func.isWrapper; first | (rw [if_pos (by decide +kernel)]; kernel_rfl) | (rw [if_neg (by decide +kernel)]; exact ⟨rfl, rfl⟩))
    (fun os started H enc _ => names_lifted os started H enc)
#print axioms names_holds
end Go.Proofs.Ytmdaialaphkhfaa
