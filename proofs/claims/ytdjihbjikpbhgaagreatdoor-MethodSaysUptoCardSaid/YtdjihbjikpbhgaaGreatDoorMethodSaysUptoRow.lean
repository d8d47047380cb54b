/- The law MethodSays holds: of any method the program answers as the document says, where the arguments have at most a million parts (the card's laid variables are read as listed). -/
import Derived.Test.YtdjihbjikpbhgaaGreatDoorRows
import Derived.Test.YtdjihbjikpbhgaaGreatDoorMethodSaysW10
import Derived.Test.YtdjihbjikpbhgaaGreatDoorMethodSaysK3
import Derived.Test.YtdjihbjikpbhgaaGreatDoorCards
import Derived.Test.YtdjihbjikpbhgaaGreatDoorTie
import Derived.Deep.DeepHandedRow
import Derived.SevenTiedAt
import Derived.LaidMore
namespace Go.Proofs.YtdjihbjikpbhgaaGreatDoor
open Go.KL Go.ChangeShapes Go.WideShapes Go.ChangeAt Go.RowKit
theorem ownKnob_ : ownKnob Tryz.prog.godebug = none := by kernel_rfl
theorem laidOut : laidOutB Tryz.prog = true := by kernel_rfl
theorem bulk_one {H : Type} (d : DataW H) : 1 ≤ Rows.uptoBulk d := by
  cases d with
  | lit l => cases l <;> simp [Rows.uptoBulk]
  | nil => simp [Rows.uptoBulk]
  | ptr d => simp [Rows.uptoBulk]
  | slice elems spare => simp [Rows.uptoBulk]
  | agg parts => simp [Rows.uptoBulk]
  | iface t d => simp [Rows.uptoBulk]
  | map entries => simp [Rows.uptoBulk]
  | held h => simp [Rows.uptoBulk]
theorem bulk {H : Type} : Bulk (H := H) Rows.uptoBulk Rows.uptoBulkAll where
  one := bulk_one
  str l := by simp [Rows.uptoBulk]
  slice es sp := by simp [Rows.uptoBulk]
  agg ps := by simp [Rows.uptoBulk]
  nil := by simp [Rows.uptoBulkAll]
  cons d r := by simp [Rows.uptoBulkAll]
theorem gstar_ : "*" ++ "errors.errorString" = "*errors.errorString" := by decide
theorem grow_ (u : TypeId) (h : Tryz.prog.typeName? 3 u = some "*errors.errorString") : u = 158 :=
  typeName_ptr_named (nm := "errors.errorString") (by rw [gstar_]; kernel_rfl) (by kernel_rfl) (by decide) u (by rw [gstar_]; exact h)
set_option maxRecDepth 100000 in
theorem methodSays_contract (H : Type) (enc : TypeId × Value → H) (W : World) (base : Nat) (args : Array Value) (ds gs : List (DataW H)) (before : List MemPlace)
    (hval : ∀ (j : Nat) t v, Tryz.f3.params[j]? = some t → args[j]? = some v → Value.okWide Tryz.prog W .any base t v)
    (hW : DataW.Whole enc Tryz.prog Tryz.f3.params.toList Rows.methodSaysSpec.vars false W args.toList ds gs before)
    (hsz : (DataW.weightsEach Tryz.prog (Tryz.f3.params.toList ++ Rows.methodSaysSpec.plain.varTypes Tryz.prog) (ds ++ gs)).all (· ≤ reachBytes) = true)
    (hL : laidMetH Tryz.prog Rows.methodSaysUptoRow.laid W) (hk : Rows.uptoSmall H (ds ++ gs) = true) :
    Calls Tryz.prog 3 args W fun e W' => ∃ v, e = .returned v ∧ Rows.methodSaysSpec.post enc Tryz.prog Tryz.f3 false true false false W args v W' := by
  have hw := hW
  obtain ⟨p, q, hA, hV, _, _, _⟩ := hw
  have hA : DataW.TrodAll enc Tryz.prog W 0 (fun _ => true) true [24, 3, 9] args.toList ds p := hA
  obtain ⟨rfl, rfl⟩ := trodVars_none hV
  obtain ⟨v0, vs0, d0, ds0, p0, q0, hargs, rfl, rfl, h0, r0⟩ := trodAll_cons hA
  obtain ⟨v1, vs1, d1, ds1, p1, q1, rfl, rfl, rfl, h1, r1⟩ := trodAll_cons r0
  obtain ⟨v2, vs2, d2, ds2, p2, q2, rfl, rfl, rfl, h2, r2⟩ := trodAll_cons r1
  obtain ⟨rfl, rfl, rfl⟩ := trodAll_nil r2
  obtain rfl : args = #[v0, v1, v2] := by cases args; simp_all
  have hsz0 : (DataW.weightsEach Tryz.prog [24, 3, 9] [d0, d1, d2]).all (· ≤ reachBytes) = true := hsz
  obtain ⟨z0, hsz1⟩ := weightsEach_cons hsz0
  obtain ⟨x0, wf0, sz0, rc0, t0⟩ := arg_agg bulk (rd_s3 Tryz.underlying24 (by kernel_rfl) rfl rfl rfl (by kernel_rfl) (by kernel_rfl) (by kernel_rfl) (rd_str Tryz.underlying9) (rd_int Tryz.underlying3) (rd_lst Tryz.underlying22 (by kernel_rfl) (rd_lst Tryz.underlying30 (by kernel_rfl) (rd_int Tryz.underlying3)))) Tryz.underlying24 (hval 0 24 v0 rfl rfl) h0
  have rc0 := rc0 z0
  obtain ⟨z1, hsz2⟩ := weightsEach_cons hsz1
  obtain ⟨x1, wf1, sz1, rc1, t1⟩ := arg_one bulk (rd_int Tryz.underlying3) (one_int Tryz.underlying3 (hval 1 3 v1 rfl rfl)) h1
  have rc1 := rc1 z1
  obtain ⟨z2, hsz3⟩ := weightsEach_cons hsz2
  obtain ⟨x2, wf2, sz2, rc2, t2⟩ := arg_one bulk (rd_str Tryz.underlying9) (one_string Tryz.underlying9 (hval 2 9 v2 rfl rfl)) h2
  have rc2 := rc2 z2
  have hglb : Glb 2 (GW.all W) := glb_laid (n := "strconv.ErrRange") (nm := "*errors.errorString") (text := [118, 97, 108, 117, 101, 32, 111, 117, 116, 32, 111, 102, 32, 114, 97, 110, 103, 101]) hL (by kernel_rfl) (by kernel_rfl) (by kernel_rfl) Tryz.underlying79 grow_ Tryz.underlying158 Tryz.underlying160 rfl rfl Tryz.underlying9 (by kernel_rfl) (by kernel_rfl)
  have hbulk : Rows.uptoBulk d0 + (Rows.uptoBulk d1 + (Rows.uptoBulk d2 + 0)) ≤ 1048576 := of_decide_eq_true hk
  exact law_post (tb := 4) (by kernel_rfl) Tryz.underlying4 laidOut (by kernel_rfl) hW rfl rfl (methodSays_fn x0.1 x0.2.1 x0.2.2 x1 x2 _ _ _ _ t0 t1 t2 (by have h1 : x0.1.size + 1 + 1 + _ + 1 ≤ Rows.uptoBulk d0 := sz0; omega) (i64_bd wf0.2.1) (i64_bd wf1) (by have h1 := sz2; omega) hglb)

noncomputable def methodSaysWorld (os : Os) : World := World.laidAll Tryz.prog os Rows.methodSaysUptoRow.laid
theorem methodSays_met (os : Os) : laidMetH Tryz.prog Rows.methodSaysUptoRow.laid ((methodSaysWorld os).forCall (fun _ _ => 0) ⟨#[], #[.agg #[.string ByteArray.empty, .int .i64 0, .slice none 0 0], .int .i64 0, .string ByteArray.empty], []⟩).memory :=
  laidH_all #[.agg #[.string ByteArray.empty, .int .i64 0, .slice none 0 0], .int .i64 0, .string ByteArray.empty] (by kernel_rfl) (by kernel_rfl) (by kernel_rfl)
theorem methodSays_reads (os : Os) {H : Type} (enc : TypeId × Value → H) : ∃ places, DataW.whole enc Tryz.prog ((methodSaysWorld os).forCall (fun _ _ => 0) ⟨#[], #[.agg #[.string ByteArray.empty, .int .i64 0, .slice none 0 0], .int .i64 0, .string ByteArray.empty], []⟩).memory Tryz.f3.params.toList Rows.methodSaysSpec.vars false (#[.agg #[.string ByteArray.empty, .int .i64 0, .slice none 0 0], .int .i64 0, .string ByteArray.empty] : Array Value).toList 8 = some ([.agg [.lit (.string []), .lit (.int .i64 0), .nil], .lit (.int .i64 0), .lit (.string [])], [], places) :=
  ⟨[], by kernel_rfl⟩
set_option maxRecDepth 100000 in
theorem methodSaysUpto_lifted (os : Os) (started : os.Started) (H : Type) (enc : TypeId × Value → H) (F : Stop.Interp) :
    ReturnsInHanded {} Tryz.checked os 3 .any ((Rows.OpenSpec.upto Rows.methodSaysSpec).preRow enc Tryz.prog Tryz.f3 Rows.methodSaysUptoRow.domain false Rows.methodSaysUptoRow.laid) (((Rows.OpenSpec.upto Rows.methodSaysSpec).at F).post enc Tryz.prog Tryz.f3 false true false false) := by
  obtain ⟨places, hx⟩ := methodSays_reads os enc
  refine returnsInHanded_of_row (C := Tryz.checked) (s := (Rows.OpenSpec.upto Rows.methodSaysSpec)) ownKnob_ started (by kernel_rfl) Tryz.func3
    (witness_row_sh (enc := enc) (C := Tryz.checked) (methodSaysWorld os) #[.agg #[.string ByteArray.empty, .int .i64 0, .slice none 0 0], .int .i64 0, .string ByteArray.empty] (World.laidAll_os _ _ _) (World.shaped_of_ZipB (by kernel_rfl) (by kernel_rfl)) (by kernel_rfl)
      (OpenSpec.preRow_of_cond 8 hx (by kernel_rfl) (fun k hk => by cases hk; kernel_rfl) (by kernel_rfl) (methodSays_met os))) ?_
  intro W base args ds gs before hval hW _ hcond hsz hL _ _
  exact methodSays_contract H enc W base args ds gs before hval hW hsz hL (hcond _ rfl)
theorem methodSaysUpto_said : Rows.MethodSaysUptoSaid :=
  OpenClaim.holds_of_cond 3 Tryz.f3 rfl rfl rfl rfl rfl rfl rfl ⟨rfl, rfl, rfl, rfl, rfl⟩ rfl rfl rfl rfl rfl (by kernel_rfl) Tryz.func3 (by kernel_rfl)
    (of_decide_eq_true (by kernel_rfl)) (by unfold Func.isWrapper; first | (rw [if_pos (by decide +kernel)]; kernel_rfl) | (rw [if_neg (by decide +kernel)]; exact ⟨rfl, rfl⟩))
    (fun os started H enc _ F => by rw [OpenClaim.pre_eq_preRow]; exact methodSaysUpto_lifted os started H enc F)
theorem methodSays_plain (f : FuncId) (fn : Func) (hf : Tryz.pinned.checked.prog.funcNamed "campanile/campanilelaw.MethodSays" = some f) (hfn : Tryz.pinned.checked.prog.funcs[f]? = some fn) :
    true = Tryz.pinned.checked.prog.looks [] ∧ ∀ (j : Nat) t, fn.params[j]? = some t → Tryz.pinned.checked.prog.wantsStandIn t = false := by
  obtain rfl : f = 3 := Option.some.inj ((show Tryz.prog.funcNamed "campanile/campanilelaw.MethodSays" = some 3 by kernel_rfl).symm.trans hf) |>.symm
  obtain rfl : fn = Tryz.f3 := (Option.some.inj (Tryz.func3.symm.trans hfn)).symm
  refine ⟨by kernel_rfl, fun j t ht => ?_⟩
  rw [Tryz.params3] at ht
  have hm : t ∈ [24, 3, 9] := by simpa using Array.mem_of_getElem? ht
  have hall : ([24, 3, 9].all fun u => !Tryz.prog.wantsStandIn u) = true := by kernel_rfl
  exact (show Tryz.prog.wantsStandIn t = false by simpa using List.all_eq_true.1 hall t hm)
/-- The card. -/
theorem methodSaysUptoCard_holds : Rows.MethodSaysUptoCardSaid :=
  Claim7.holds_tied_plain_at .later [] _ _ _ _ methodSaysUpto_said (fun _ h => by cases h) (by kernel_rfl) (fun _ h => by cases h) methodSaysUpto_row_tie rfl ⟨rfl, rfl⟩ (by kernel_rfl) rfl methodSays_plain (by kernel_rfl)
#print axioms methodSaysUptoCard_holds
end Go.Proofs.YtdjihbjikpbhgaaGreatDoor
