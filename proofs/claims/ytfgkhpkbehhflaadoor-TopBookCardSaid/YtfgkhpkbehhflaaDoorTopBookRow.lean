/- The law TopBook. -/
import Derived.Test.YtfgkhpkbehhflaaDoorRows
import Derived.Test.YtfgkhpkbehhflaaDoorTopBookW4
import Derived.Test.YtfgkhpkbehhflaaDoorTopBookK3
import Derived.Test.YtfgkhpkbehhflaaDoorCards
import Derived.Test.YtfgkhpkbehhflaaDoorTie
import Derived.Deep.DeepHandedRow
import Derived.SevenTiedAt
import Derived.LaidMore
namespace Go.Proofs.YtfgkhpkbehhflaaDoor
open Go.KL Go.ChangeShapes Go.WideShapes Go.ChangeAt Go.RowKit
theorem ownKnob_ : ownKnob Tryd.prog.godebug = none := by kernel_rfl
theorem laidOut : laidOutB Tryd.prog = true := by kernel_rfl
theorem bulk_one {H : Type} (d : DataW H) : 1 ≤ Rows.uptoBulk d := by
  cases d with
  | lit l => cases l <;> simp [Rows.uptoBulk]
  | nil => simp [Rows.uptoBulk]
  | ptr d => simp [Rows.uptoBulk]
  | slice elems spare => simp [Rows.uptoBulk]
  | agg parts => simp [Rows.uptoBulk]
  | iface t d => simp [Rows.uptoBulk]
  | map entries => simp [Rows.uptoBulk]
  | held h => simp [Rows.uptoBulk]
theorem bulk {H : Type} : Bulk (H := H) Rows.uptoBulk Rows.uptoBulkAll where
  one := bulk_one
  str l := by simp [Rows.uptoBulk]
  slice es sp := by simp [Rows.uptoBulk]
  agg ps := by simp [Rows.uptoBulk]
  nil := by simp [Rows.uptoBulkAll]
  cons d r := by simp [Rows.uptoBulkAll]
theorem gstar_ : "*" ++ "errors.errorString" = "*errors.errorString" := by decide
theorem grow_ (u : TypeId) (h : Tryd.prog.typeName? 3 u = some "*errors.errorString") : u = 136 :=
  typeName_ptr_named (nm := "errors.errorString") (by rw [gstar_]; kernel_rfl) (by kernel_rfl) (by decide) u (by rw [gstar_]; exact h)
set_option maxRecDepth 100000 in
theorem topBook_contract (H : Type) (enc : TypeId × Value → H) (W : World) (base : Nat) (args : Array Value) (ds gs : List (DataW H)) (before : List MemPlace)
    (hval : ∀ (j : Nat) t v, Tryd.f4.params[j]? = some t → args[j]? = some v → Value.okWide Tryd.prog W .any base t v)
    (hW : DataW.Whole enc Tryd.prog Tryd.f4.params.toList Rows.topBookSpec.vars false W args.toList ds gs before)
    (hsz : (DataW.weightsEach Tryd.prog (Tryd.f4.params.toList ++ Rows.topBookSpec.plain.varTypes Tryd.prog) (ds ++ gs)).all (· ≤ reachBytes) = true)
    (hL : laidMetH Tryd.prog Rows.topBookRow.laid W) :
    Calls Tryd.prog 4 args W fun e W' => ∃ v, e = .returned v ∧ Rows.topBookSpec.post enc Tryd.prog Tryd.f4 false true false false W args v W' := by
  have hw := hW
  obtain ⟨p, q, hA, hV, _, _, _⟩ := hw
  have hA : DataW.TrodAll enc Tryd.prog W 0 (fun _ => true) true [34, 3, 3, 3] args.toList ds p := hA
  obtain ⟨rfl, rfl⟩ := trodVars_none hV
  obtain ⟨v0, vs0, d0, ds0, p0, q0, hargs, rfl, rfl, h0, r0⟩ := trodAll_cons hA
  obtain ⟨v1, vs1, d1, ds1, p1, q1, rfl, rfl, rfl, h1, r1⟩ := trodAll_cons r0
  obtain ⟨v2, vs2, d2, ds2, p2, q2, rfl, rfl, rfl, h2, r2⟩ := trodAll_cons r1
  obtain ⟨v3, vs3, d3, ds3, p3, q3, rfl, rfl, rfl, h3, r3⟩ := trodAll_cons r2
  obtain ⟨rfl, rfl, rfl⟩ := trodAll_nil r3
  obtain rfl : args = #[v0, v1, v2, v3] := by cases args; simp_all
  have hsz0 : (DataW.weightsEach Tryd.prog [34, 3, 3, 3] [d0, d1, d2, d3]).all (· ≤ reachBytes) = true := hsz
  obtain ⟨z0, hsz1⟩ := weightsEach_cons hsz0
  obtain ⟨x0, wf0, sz0, rc0, t0⟩ := arg_one bulk (rd_lst Tryd.underlying34 (by kernel_rfl) (rd_int Tryd.underlying3)) (one_slice Tryd.underlying34 (hval 0 34 v0 rfl rfl)) h0
  have rc0 := rc0 z0
  obtain ⟨z1, hsz2⟩ := weightsEach_cons hsz1
  obtain ⟨x1, wf1, sz1, rc1, t1⟩ := arg_one bulk (rd_int Tryd.underlying3) (one_int Tryd.underlying3 (hval 1 3 v1 rfl rfl)) h1
  have rc1 := rc1 z1
  obtain ⟨z2, hsz3⟩ := weightsEach_cons hsz2
  obtain ⟨x2, wf2, sz2, rc2, t2⟩ := arg_one bulk (rd_int Tryd.underlying3) (one_int Tryd.underlying3 (hval 2 3 v2 rfl rfl)) h2
  have rc2 := rc2 z2
  obtain ⟨z3, hsz4⟩ := weightsEach_cons hsz3
  obtain ⟨x3, wf3, sz3, rc3, t3⟩ := arg_one bulk (rd_int Tryd.underlying3) (one_int Tryd.underlying3 (hval 3 3 v3 rfl rfl)) h3
  have rc3 := rc3 z3
  have hgs_ : Glb 2 (GW.all W) := glb_laid (n := "strconv.ErrSyntax") (nm := "*errors.errorString") (text := [105, 110, 118, 97, 108, 105, 100, 32, 115, 121, 110, 116, 97, 120]) hL (by kernel_rfl) (by kernel_rfl) (by kernel_rfl) Tryd.underlying61 grow_ Tryd.underlying136 Tryd.underlying138 rfl rfl Tryd.underlying9 (by kernel_rfl) (by kernel_rfl)
  have hgr_ : Glb 3 (GW.all W) := glb_laid (n := "strconv.ErrRange") (nm := "*errors.errorString") (text := [118, 97, 108, 117, 101, 32, 111, 117, 116, 32, 111, 102, 32, 114, 97, 110, 103, 101]) hL (by kernel_rfl) (by kernel_rfl) (by kernel_rfl) Tryd.underlying61 grow_ Tryd.underlying136 Tryd.underlying138 rfl rfl Tryd.underlying9 (by kernel_rfl) (by kernel_rfl)
  have hgt_ : Tab Tryd.prog p10N .u64 Lib.pow10Tab (GW.all W) := tab_laid (g := 1) (n := "internal/strconv.uint64pow10") hL (by kernel_rfl) (by kernel_rfl) (by kernel_rfl) Tryd.underlying109 Tryd.underlying71 (by kernel_rfl) (by kernel_rfl) (by decide)
  have hglb : Gbk Tryd.prog GA GB (GW.all W) := ⟨by rw [show GA = 2 by kernel_rfl]; exact hgs_, by rw [show GB = 3 by kernel_rfl]; exact hgr_, hgt_⟩
  exact law_post (tb := 4) (by kernel_rfl) Tryd.underlying4 laidOut (by kernel_rfl) hW rfl rfl (topBook_fn x0 x1 x2 x3 _ _ _ _ _ t0 t1 t2 t3 (fun x hx => i64_bd (wf0.2 x hx)) (i64_bd wf1) (i64_bd wf2) (i64_bd wf3) hglb)

noncomputable def topBookWorld (os : Os) : World := World.laidAll Tryd.prog os Rows.topBookRow.laid
theorem topBook_met (os : Os) : laidMetH Tryd.prog Rows.topBookRow.laid ((topBookWorld os).forCall (fun _ _ => 0) ⟨#[], #[.slice none 0 0, .int .i64 0, .int .i64 0, .int .i64 0], []⟩).memory :=
  laidH_all #[.slice none 0 0, .int .i64 0, .int .i64 0, .int .i64 0] (by kernel_rfl) (by kernel_rfl) (by kernel_rfl)
theorem topBook_reads (os : Os) {H : Type} (enc : TypeId × Value → H) : ∃ places, DataW.whole enc Tryd.prog ((topBookWorld os).forCall (fun _ _ => 0) ⟨#[], #[.slice none 0 0, .int .i64 0, .int .i64 0, .int .i64 0], []⟩).memory Tryd.f4.params.toList Rows.topBookSpec.vars false (#[.slice none 0 0, .int .i64 0, .int .i64 0, .int .i64 0] : Array Value).toList 8 = some ([.nil, .lit (.int .i64 0), .lit (.int .i64 0), .lit (.int .i64 0)], [], places) :=
  ⟨[], by kernel_rfl⟩
set_option maxRecDepth 100000 in
theorem topBook_lifted (os : Os) (started : os.Started) (H : Type) (enc : TypeId × Value → H) (F : Stop.Interp) :
    ReturnsInHanded {} Tryd.checked os 4 .any ((OpenSpec.ofChange Rows.topBookSpec).preRow enc Tryd.prog Tryd.f4 Rows.topBookRow.domain false Rows.topBookRow.laid) (((OpenSpec.ofChange Rows.topBookSpec).at F).post enc Tryd.prog Tryd.f4 false true false false) := by
  obtain ⟨places, hx⟩ := topBook_reads os enc
  refine returnsInHanded_of_row (C := Tryd.checked) (s := (OpenSpec.ofChange Rows.topBookSpec)) ownKnob_ started (by kernel_rfl) Tryd.func4
    (witness_row_sh (enc := enc) (C := Tryd.checked) (topBookWorld os) #[.slice none 0 0, .int .i64 0, .int .i64 0, .int .i64 0] (World.laidAll_os _ _ _) (World.shaped_of_ZipB (by kernel_rfl) (by kernel_rfl)) (by kernel_rfl)
      (OpenSpec.preRow_of_cond 8 hx (by kernel_rfl) (fun k hk => by cases hk) (by kernel_rfl) (topBook_met os))) ?_
  intro W base args ds gs before hval hW _ _ hsz hL _ _
  exact topBook_contract H enc W base args ds gs before hval hW hsz hL 
theorem topBook_said : Rows.TopBookSaid :=
  OpenClaim.holds_of_cond 4 Tryd.f4 rfl rfl rfl rfl rfl rfl rfl ⟨rfl, rfl, rfl, rfl, rfl⟩ rfl rfl rfl rfl rfl (by kernel_rfl) Tryd.func4 (by kernel_rfl)
    (of_decide_eq_true (by kernel_rfl)) (by unfold Func.isWrapper; first | (rw [if_pos (by decide +kernel)]; kernel_rfl) | (rw [if_neg (by decide +kernel)]; exact ⟨rfl, rfl⟩))
    (fun os started H enc _ F => by rw [OpenClaim.pre_eq_preRow]; exact topBook_lifted os started H enc F)
theorem topBook_plain (f : FuncId) (fn : Func) (hf : Tryd.pinned.checked.prog.funcNamed "campanile/campaniletop.TopBook" = some f) (hfn : Tryd.pinned.checked.prog.funcs[f]? = some fn) :
    true = Tryd.pinned.checked.prog.looks [] ∧ ∀ (j : Nat) t, fn.params[j]? = some t → Tryd.pinned.checked.prog.wantsStandIn t = false := by
  obtain rfl : f = 4 := Option.some.inj ((show Tryd.prog.funcNamed "campanile/campaniletop.TopBook" = some 4 by kernel_rfl).symm.trans hf) |>.symm
  obtain rfl : fn = Tryd.f4 := (Option.some.inj (Tryd.func4.symm.trans hfn)).symm
  refine ⟨by kernel_rfl, fun j t ht => ?_⟩
  rw [Tryd.params4] at ht
  have hm : t ∈ [34, 3, 3, 3] := by simpa using Array.mem_of_getElem? ht
  have hall : ([34, 3, 3, 3].all fun u => !Tryd.prog.wantsStandIn u) = true := by kernel_rfl
  exact (show Tryd.prog.wantsStandIn t = false by simpa using List.all_eq_true.1 hall t hm)
/-- The card. -/
theorem topBookCard_holds : Rows.TopBookCardSaid :=
  Claim7.holds_tied_plain_at .later [] _ _ _ _ topBook_said (fun _ h => by cases h) (by kernel_rfl) (fun _ h => by cases h) topBook_row_tie rfl ⟨rfl, rfl⟩ (by kernel_rfl) rfl topBook_plain (by kernel_rfl)
#print axioms topBookCard_holds
end Go.Proofs.YtfgkhpkbehhflaaDoor
