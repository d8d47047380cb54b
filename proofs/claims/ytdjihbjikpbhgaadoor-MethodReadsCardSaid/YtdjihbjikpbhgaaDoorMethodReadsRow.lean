/- The law MethodReads holds: a method's line is read as the document says, whatever the text (the card's laid variables are read as listed). -/
import Derived.Test.YtdjihbjikpbhgaaDoorRows
import Derived.Test.YtdjihbjikpbhgaaDoorMethodReadsW8
import Derived.Test.YtdjihbjikpbhgaaDoorMethodReadsK2
import Derived.Test.YtdjihbjikpbhgaaDoorCards
import Derived.Test.YtdjihbjikpbhgaaDoorTie
import Derived.Deep.DeepHandedRow
import Derived.SevenTiedAt
import Derived.LaidMore
namespace Go.Proofs.YtdjihbjikpbhgaaDoor
open Go.KL Go.ChangeShapes Go.WideShapes Go.ChangeAt Go.RowKit
theorem ownKnob_ : ownKnob Tryd.prog.godebug = none := by kernel_rfl
theorem laidOut : laidOutB Tryd.prog = true := by kernel_rfl
theorem bulk_one {H : Type} (d : DataW H) : 1 ≤ Rows.uptoBulk d := by
  cases d with
  | lit l => cases l <;> simp [Rows.uptoBulk]
  | nil => simp [Rows.uptoBulk]
  | ptr d => simp [Rows.uptoBulk]
  | slice elems spare => simp [Rows.uptoBulk]
  | agg parts => simp [Rows.uptoBulk]
  | iface t d => simp [Rows.uptoBulk]
  | map entries => simp [Rows.uptoBulk]
  | held h => simp [Rows.uptoBulk]
theorem bulk {H : Type} : Bulk (H := H) Rows.uptoBulk Rows.uptoBulkAll where
  one := bulk_one
  str l := by simp [Rows.uptoBulk]
  slice es sp := by simp [Rows.uptoBulk]
  agg ps := by simp [Rows.uptoBulk]
  nil := by simp [Rows.uptoBulkAll]
  cons d r := by simp [Rows.uptoBulkAll]
theorem gstar_ : "*" ++ "errors.errorString" = "*errors.errorString" := by decide
theorem grow_ (u : TypeId) (h : Tryd.prog.typeName? 3 u = some "*errors.errorString") : u = 170 :=
  typeName_ptr_named (nm := "errors.errorString") (by rw [gstar_]; kernel_rfl) (by kernel_rfl) (by decide) u (by rw [gstar_]; exact h)
set_option maxRecDepth 100000 in
theorem methodReads_contract (H : Type) (enc : TypeId × Value → H) (W : World) (base : Nat) (args : Array Value) (ds gs : List (DataW H)) (before : List MemPlace)
    (hval : ∀ (j : Nat) t v, Tryd.f4.params[j]? = some t → args[j]? = some v → Value.okWide Tryd.prog W .any base t v)
    (hW : DataW.Whole enc Tryd.prog Tryd.f4.params.toList Rows.methodReadsSpec.vars false W args.toList ds gs before)
    (hsz : (DataW.weightsEach Tryd.prog (Tryd.f4.params.toList ++ Rows.methodReadsSpec.plain.varTypes Tryd.prog) (ds ++ gs)).all (· ≤ reachBytes) = true)
    (hL : laidMetH Tryd.prog Rows.methodReadsRow.laid W) :
    Calls Tryd.prog 4 args W fun e W' => ∃ v, e = .returned v ∧ Rows.methodReadsSpec.post enc Tryd.prog Tryd.f4 false true false false W args v W' := by
  have hw := hW
  obtain ⟨p, q, hA, hV, _, _, _⟩ := hw
  have hA : DataW.TrodAll enc Tryd.prog W 0 (fun _ => true) true [9] args.toList ds p := hA
  obtain ⟨rfl, rfl⟩ := trodVars_none hV
  obtain ⟨v0, vs0, d0, ds0, p0, q0, hargs, rfl, rfl, h0, r0⟩ := trodAll_cons hA
  obtain ⟨rfl, rfl, rfl⟩ := trodAll_nil r0
  obtain rfl : args = #[v0] := by cases args; simp_all
  have hsz0 : (DataW.weightsEach Tryd.prog [9] [d0]).all (· ≤ reachBytes) = true := hsz
  obtain ⟨z0, hsz1⟩ := weightsEach_cons hsz0
  obtain ⟨x0, wf0, sz0, rc0, t0⟩ := arg_one bulk (rd_str Tryd.underlying9) (one_string Tryd.underlying9 (hval 0 9 v0 rfl rfl)) h0
  have rc0 := rc0 z0
  have hglb : Glb 2 (GW.all W) := glb_laid (n := "strconv.ErrRange") (nm := "*errors.errorString") (text := [118, 97, 108, 117, 101, 32, 111, 117, 116, 32, 111, 102, 32, 114, 97, 110, 103, 101]) hL (by kernel_rfl) (by kernel_rfl) (by kernel_rfl) Tryd.underlying68 grow_ Tryd.underlying170 Tryd.underlying172 rfl rfl Tryd.underlying9 (by kernel_rfl) (by kernel_rfl)
  exact law_post (tb := 4) (by kernel_rfl) Tryd.underlying4 laidOut (by kernel_rfl) hW rfl rfl (methodReads_fn x0 _ _ t0 hglb)

noncomputable def methodReadsWorld (os : Os) : World := World.laidAll Tryd.prog os Rows.methodReadsRow.laid
theorem methodReads_met (os : Os) : laidMetH Tryd.prog Rows.methodReadsRow.laid ((methodReadsWorld os).forCall (fun _ _ => 0) ⟨#[], #[.string ByteArray.empty], []⟩).memory :=
  laidH_all #[.string ByteArray.empty] (by kernel_rfl) (by kernel_rfl) (by kernel_rfl)
theorem methodReads_reads (os : Os) {H : Type} (enc : TypeId × Value → H) : ∃ places, DataW.whole enc Tryd.prog ((methodReadsWorld os).forCall (fun _ _ => 0) ⟨#[], #[.string ByteArray.empty], []⟩).memory Tryd.f4.params.toList Rows.methodReadsSpec.vars false (#[.string ByteArray.empty] : Array Value).toList 8 = some ([.lit (.string [])], [], places) :=
  ⟨[], by kernel_rfl⟩
set_option maxRecDepth 100000 in
theorem methodReads_lifted (os : Os) (started : os.Started) (H : Type) (enc : TypeId × Value → H) (F : Stop.Interp) :
    ReturnsInHanded {} Tryd.checked os 4 .any ((OpenSpec.ofChange Rows.methodReadsSpec).preRow enc Tryd.prog Tryd.f4 Rows.methodReadsRow.domain false Rows.methodReadsRow.laid) (((OpenSpec.ofChange Rows.methodReadsSpec).at F).post enc Tryd.prog Tryd.f4 false true false false) := by
  obtain ⟨places, hx⟩ := methodReads_reads os enc
  refine returnsInHanded_of_row (C := Tryd.checked) (s := (OpenSpec.ofChange Rows.methodReadsSpec)) ownKnob_ started (by kernel_rfl) Tryd.func4
    (witness_row_sh (enc := enc) (C := Tryd.checked) (methodReadsWorld os) #[.string ByteArray.empty] (World.laidAll_os _ _ _) (World.shaped_of_ZipB (by kernel_rfl) (by kernel_rfl)) (by kernel_rfl)
      (OpenSpec.preRow_of_cond 8 hx (by kernel_rfl) (fun k hk => by cases hk) (by kernel_rfl) (methodReads_met os))) ?_
  intro W base args ds gs before hval hW _ _ hsz hL _ _
  exact methodReads_contract H enc W base args ds gs before hval hW hsz hL 
theorem methodReads_said : Rows.MethodReadsSaid :=
  OpenClaim.holds_of_cond 4 Tryd.f4 rfl rfl rfl rfl rfl rfl rfl ⟨rfl, rfl, rfl, rfl, rfl⟩ rfl rfl rfl rfl rfl (by kernel_rfl) Tryd.func4 (by kernel_rfl)
    (of_decide_eq_true (by kernel_rfl)) (by unfold Func.isWrapper; first | (rw [if_pos (by decide +kernel)]; kernel_rfl) | (rw [if_neg (by decide +kernel)]; exact ⟨rfl, rfl⟩))
    (fun os started H enc _ F => by rw [OpenClaim.pre_eq_preRow]; exact methodReads_lifted os started H enc F)
theorem methodReads_plain (f : FuncId) (fn : Func) (hf : Tryd.pinned.checked.prog.funcNamed "campanile/campanilelaw.MethodReads" = some f) (hfn : Tryd.pinned.checked.prog.funcs[f]? = some fn) :
    true = Tryd.pinned.checked.prog.looks [] ∧ ∀ (j : Nat) t, fn.params[j]? = some t → Tryd.pinned.checked.prog.wantsStandIn t = false := by
  obtain rfl : f = 4 := Option.some.inj ((show Tryd.prog.funcNamed "campanile/campanilelaw.MethodReads" = some 4 by kernel_rfl).symm.trans hf) |>.symm
  obtain rfl : fn = Tryd.f4 := (Option.some.inj (Tryd.func4.symm.trans hfn)).symm
  refine ⟨by kernel_rfl, fun j t ht => ?_⟩
  rw [Tryd.params4] at ht
  have hm : t ∈ [9] := by simpa using Array.mem_of_getElem? ht
  have hall : ([9].all fun u => !Tryd.prog.wantsStandIn u) = true := by kernel_rfl
  exact (show Tryd.prog.wantsStandIn t = false by simpa using List.all_eq_true.1 hall t hm)
/-- The card. -/
theorem methodReadsCard_holds : Rows.MethodReadsCardSaid :=
  Claim7.holds_tied_plain_at .later [] _ _ _ _ methodReads_said (fun _ h => by cases h) (by kernel_rfl) (fun _ h => by cases h) methodReads_row_tie rfl ⟨rfl, rfl⟩ (by kernel_rfl) rfl methodReads_plain (by kernel_rfl)
#print axioms methodReadsCard_holds
end Go.Proofs.YtdjihbjikpbhgaaDoor
