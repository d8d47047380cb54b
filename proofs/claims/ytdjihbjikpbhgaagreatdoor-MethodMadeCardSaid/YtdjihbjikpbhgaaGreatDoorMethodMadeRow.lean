/- The law MethodMade holds: of a method made of raw numbers the program answers as the document says (the card's laid variables are read as listed). -/
import Derived.Test.YtdjihbjikpbhgaaGreatDoorRows
import Derived.Test.YtdjihbjikpbhgaaGreatDoorMethodMadeW11
import Derived.Test.YtdjihbjikpbhgaaGreatDoorMethodMadeK3
import Derived.Test.YtdjihbjikpbhgaaGreatDoorCards
import Derived.Test.YtdjihbjikpbhgaaGreatDoorTie
import Derived.Deep.DeepHandedRow
import Derived.SevenTiedAt
import Derived.LaidMore
namespace Go.Proofs.YtdjihbjikpbhgaaGreatDoor
open Go.KL Go.ChangeShapes Go.WideShapes Go.ChangeAt Go.RowKit
theorem ownKnob_ : ownKnob Tryz.prog.godebug = none := by kernel_rfl
theorem laidOut : laidOutB Tryz.prog = true := by kernel_rfl
theorem bulk_one {H : Type} (d : DataW H) : 1 ≤ Rows.uptoBulk d := by
  cases d with
  | lit l => cases l <;> simp [Rows.uptoBulk]
  | nil => simp [Rows.uptoBulk]
  | ptr d => simp [Rows.uptoBulk]
  | slice elems spare => simp [Rows.uptoBulk]
  | agg parts => simp [Rows.uptoBulk]
  | iface t d => simp [Rows.uptoBulk]
  | map entries => simp [Rows.uptoBulk]
  | held h => simp [Rows.uptoBulk]
theorem bulk {H : Type} : Bulk (H := H) Rows.uptoBulk Rows.uptoBulkAll where
  one := bulk_one
  str l := by simp [Rows.uptoBulk]
  slice es sp := by simp [Rows.uptoBulk]
  agg ps := by simp [Rows.uptoBulk]
  nil := by simp [Rows.uptoBulkAll]
  cons d r := by simp [Rows.uptoBulkAll]
theorem gstar_ : "*" ++ "errors.errorString" = "*errors.errorString" := by decide
theorem grow_ (u : TypeId) (h : Tryz.prog.typeName? 3 u = some "*errors.errorString") : u = 158 :=
  typeName_ptr_named (nm := "errors.errorString") (by rw [gstar_]; kernel_rfl) (by kernel_rfl) (by decide) u (by rw [gstar_]; exact h)
set_option maxRecDepth 100000 in
theorem methodMade_contract (H : Type) (enc : TypeId × Value → H) (W : World) (base : Nat) (args : Array Value) (ds gs : List (DataW H)) (before : List MemPlace)
    (hval : ∀ (j : Nat) t v, Tryz.f4.params[j]? = some t → args[j]? = some v → Value.okWide Tryz.prog W .any base t v)
    (hW : DataW.Whole enc Tryz.prog Tryz.f4.params.toList Rows.methodMadeSpec.vars false W args.toList ds gs before)
    (hsz : (DataW.weightsEach Tryz.prog (Tryz.f4.params.toList ++ Rows.methodMadeSpec.plain.varTypes Tryz.prog) (ds ++ gs)).all (· ≤ reachBytes) = true)
    (hL : laidMetH Tryz.prog Rows.methodMadeRow.laid W) :
    Calls Tryz.prog 4 args W fun e W' => ∃ v, e = .returned v ∧ Rows.methodMadeSpec.post enc Tryz.prog Tryz.f4 false true false false W args v W' := by
  have hw := hW
  obtain ⟨p, q, hA, hV, _, _, _⟩ := hw
  have hA : DataW.TrodAll enc Tryz.prog W 0 (fun _ => true) true [30, 3, 3, 3] args.toList ds p := hA
  obtain ⟨rfl, rfl⟩ := trodVars_none hV
  obtain ⟨v0, vs0, d0, ds0, p0, q0, hargs, rfl, rfl, h0, r0⟩ := trodAll_cons hA
  obtain ⟨v1, vs1, d1, ds1, p1, q1, rfl, rfl, rfl, h1, r1⟩ := trodAll_cons r0
  obtain ⟨v2, vs2, d2, ds2, p2, q2, rfl, rfl, rfl, h2, r2⟩ := trodAll_cons r1
  obtain ⟨v3, vs3, d3, ds3, p3, q3, rfl, rfl, rfl, h3, r3⟩ := trodAll_cons r2
  obtain ⟨rfl, rfl, rfl⟩ := trodAll_nil r3
  obtain rfl : args = #[v0, v1, v2, v3] := by cases args; simp_all
  have hsz0 : (DataW.weightsEach Tryz.prog [30, 3, 3, 3] [d0, d1, d2, d3]).all (· ≤ reachBytes) = true := hsz
  obtain ⟨z0, hsz1⟩ := weightsEach_cons hsz0
  obtain ⟨x0, wf0, sz0, rc0, t0⟩ := arg_one bulk (rd_lst Tryz.underlying30 (by kernel_rfl) (rd_int Tryz.underlying3)) (one_slice Tryz.underlying30 (hval 0 30 v0 rfl rfl)) h0
  have rc0 := rc0 z0
  obtain ⟨z1, hsz2⟩ := weightsEach_cons hsz1
  obtain ⟨x1, wf1, sz1, rc1, t1⟩ := arg_one bulk (rd_int Tryz.underlying3) (one_int Tryz.underlying3 (hval 1 3 v1 rfl rfl)) h1
  have rc1 := rc1 z1
  obtain ⟨z2, hsz3⟩ := weightsEach_cons hsz2
  obtain ⟨x2, wf2, sz2, rc2, t2⟩ := arg_one bulk (rd_int Tryz.underlying3) (one_int Tryz.underlying3 (hval 2 3 v2 rfl rfl)) h2
  have rc2 := rc2 z2
  obtain ⟨z3, hsz4⟩ := weightsEach_cons hsz3
  obtain ⟨x3, wf3, sz3, rc3, t3⟩ := arg_one bulk (rd_int Tryz.underlying3) (one_int Tryz.underlying3 (hval 3 3 v3 rfl rfl)) h3
  have rc3 := rc3 z3
  have hglb : Glb 2 (GW.all W) := glb_laid (n := "strconv.ErrRange") (nm := "*errors.errorString") (text := [118, 97, 108, 117, 101, 32, 111, 117, 116, 32, 111, 102, 32, 114, 97, 110, 103, 101]) hL (by kernel_rfl) (by kernel_rfl) (by kernel_rfl) Tryz.underlying79 grow_ Tryz.underlying158 Tryz.underlying160 rfl rfl Tryz.underlying9 (by kernel_rfl) (by kernel_rfl)
  exact law_post (tb := 4) (by kernel_rfl) Tryz.underlying4 laidOut (by kernel_rfl) hW rfl rfl (methodMade_fn x0 x1 x2 x3 _ _ _ _ _ t0 t1 t2 t3 (fun x hx => i64_bd (wf0.2 x hx)) (i64_bd wf1) (i64_bd wf2) (i64_bd wf3) hglb)

noncomputable def methodMadeWorld (os : Os) : World := World.laidAll Tryz.prog os Rows.methodMadeRow.laid
theorem methodMade_met (os : Os) : laidMetH Tryz.prog Rows.methodMadeRow.laid ((methodMadeWorld os).forCall (fun _ _ => 0) ⟨#[], #[.slice none 0 0, .int .i64 0, .int .i64 0, .int .i64 0], []⟩).memory :=
  laidH_all #[.slice none 0 0, .int .i64 0, .int .i64 0, .int .i64 0] (by kernel_rfl) (by kernel_rfl) (by kernel_rfl)
theorem methodMade_reads (os : Os) {H : Type} (enc : TypeId × Value → H) : ∃ places, DataW.whole enc Tryz.prog ((methodMadeWorld os).forCall (fun _ _ => 0) ⟨#[], #[.slice none 0 0, .int .i64 0, .int .i64 0, .int .i64 0], []⟩).memory Tryz.f4.params.toList Rows.methodMadeSpec.vars false (#[.slice none 0 0, .int .i64 0, .int .i64 0, .int .i64 0] : Array Value).toList 8 = some ([.nil, .lit (.int .i64 0), .lit (.int .i64 0), .lit (.int .i64 0)], [], places) :=
  ⟨[], by kernel_rfl⟩
set_option maxRecDepth 100000 in
theorem methodMade_lifted (os : Os) (started : os.Started) (H : Type) (enc : TypeId × Value → H) (F : Stop.Interp) :
    ReturnsInHanded {} Tryz.checked os 4 .any ((OpenSpec.ofChange Rows.methodMadeSpec).preRow enc Tryz.prog Tryz.f4 Rows.methodMadeRow.domain false Rows.methodMadeRow.laid) (((OpenSpec.ofChange Rows.methodMadeSpec).at F).post enc Tryz.prog Tryz.f4 false true false false) := by
  obtain ⟨places, hx⟩ := methodMade_reads os enc
  refine returnsInHanded_of_row (C := Tryz.checked) (s := (OpenSpec.ofChange Rows.methodMadeSpec)) ownKnob_ started (by kernel_rfl) Tryz.func4
    (witness_row_sh (enc := enc) (C := Tryz.checked) (methodMadeWorld os) #[.slice none 0 0, .int .i64 0, .int .i64 0, .int .i64 0] (World.laidAll_os _ _ _) (World.shaped_of_ZipB (by kernel_rfl) (by kernel_rfl)) (by kernel_rfl)
      (OpenSpec.preRow_of_cond 8 hx (by kernel_rfl) (fun k hk => by cases hk) (by kernel_rfl) (methodMade_met os))) ?_
  intro W base args ds gs before hval hW _ _ hsz hL _ _
  exact methodMade_contract H enc W base args ds gs before hval hW hsz hL 
theorem methodMade_said : Rows.MethodMadeSaid :=
  OpenClaim.holds_of_cond 4 Tryz.f4 rfl rfl rfl rfl rfl rfl rfl ⟨rfl, rfl, rfl, rfl, rfl⟩ rfl rfl rfl rfl rfl (by kernel_rfl) Tryz.func4 (by kernel_rfl)
    (of_decide_eq_true (by kernel_rfl)) (by unfold Func.isWrapper; first | (rw [if_pos (by decide +kernel)]; kernel_rfl) | (rw [if_neg (by decide +kernel)]; exact ⟨rfl, rfl⟩))
    (fun os started H enc _ F => by rw [OpenClaim.pre_eq_preRow]; exact methodMade_lifted os started H enc F)
theorem methodMade_plain (f : FuncId) (fn : Func) (hf : Tryz.pinned.checked.prog.funcNamed "campanile/campanilelaw.MethodMade" = some f) (hfn : Tryz.pinned.checked.prog.funcs[f]? = some fn) :
    true = Tryz.pinned.checked.prog.looks [] ∧ ∀ (j : Nat) t, fn.params[j]? = some t → Tryz.pinned.checked.prog.wantsStandIn t = false := by
  obtain rfl : f = 4 := Option.some.inj ((show Tryz.prog.funcNamed "campanile/campanilelaw.MethodMade" = some 4 by kernel_rfl).symm.trans hf) |>.symm
  obtain rfl : fn = Tryz.f4 := (Option.some.inj (Tryz.func4.symm.trans hfn)).symm
  refine ⟨by kernel_rfl, fun j t ht => ?_⟩
  rw [Tryz.params4] at ht
  have hm : t ∈ [30, 3, 3, 3] := by simpa using Array.mem_of_getElem? ht
  have hall : ([30, 3, 3, 3].all fun u => !Tryz.prog.wantsStandIn u) = true := by kernel_rfl
  exact (show Tryz.prog.wantsStandIn t = false by simpa using List.all_eq_true.1 hall t hm)
/-- The card. -/
theorem methodMadeCard_holds : Rows.MethodMadeCardSaid :=
  Claim7.holds_tied_plain_at .later [] _ _ _ _ methodMade_said (fun _ h => by cases h) (by kernel_rfl) (fun _ h => by cases h) methodMade_row_tie rfl ⟨rfl, rfl⟩ (by kernel_rfl) rfl methodMade_plain (by kernel_rfl)
#print axioms methodMadeCard_holds
end Go.Proofs.YtdjihbjikpbhgaaGreatDoor
