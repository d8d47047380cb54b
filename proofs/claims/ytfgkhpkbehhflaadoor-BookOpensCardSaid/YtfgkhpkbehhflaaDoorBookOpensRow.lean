/- The law BookOpens. -/
import Derived.Test.YtfgkhpkbehhflaaDoorRows
import Derived.Test.YtfgkhpkbehhflaaDoorBookOpensW7
import Derived.Test.YtfgkhpkbehhflaaDoorBookOpensK3
import Derived.Test.YtfgkhpkbehhflaaDoorCards
import Derived.Test.YtfgkhpkbehhflaaDoorTie
import Derived.Deep.DeepHandedRow
import Derived.SevenTiedAt
import Derived.LaidMore
namespace Go.Proofs.YtfgkhpkbehhflaaDoor
open Go.KL Go.ChangeShapes Go.WideShapes Go.ChangeAt Go.RowKit
theorem ownKnob_ : ownKnob Tryd.prog.godebug = none := by kernel_rfl
theorem laidOut : laidOutB Tryd.prog = true := by kernel_rfl
theorem bulk_one {H : Type} (d : DataW H) : 1 ≤ Rows.uptoBulk d := by
  cases d with
  | lit l => cases l <;> simp [Rows.uptoBulk]
  | nil => simp [Rows.uptoBulk]
  | ptr d => simp [Rows.uptoBulk]
  | slice elems spare => simp [Rows.uptoBulk]
  | agg parts => simp [Rows.uptoBulk]
  | iface t d => simp [Rows.uptoBulk]
  | map entries => simp [Rows.uptoBulk]
  | held h => simp [Rows.uptoBulk]
theorem bulk {H : Type} : Bulk (H := H) Rows.uptoBulk Rows.uptoBulkAll where
  one := bulk_one
  str l := by simp [Rows.uptoBulk]
  slice es sp := by simp [Rows.uptoBulk]
  agg ps := by simp [Rows.uptoBulk]
  nil := by simp [Rows.uptoBulkAll]
  cons d r := by simp [Rows.uptoBulkAll]
theorem gstar_ : "*" ++ "errors.errorString" = "*errors.errorString" := by decide
theorem grow_ (u : TypeId) (h : Tryd.prog.typeName? 3 u = some "*errors.errorString") : u = 136 :=
  typeName_ptr_named (nm := "errors.errorString") (by rw [gstar_]; kernel_rfl) (by kernel_rfl) (by decide) u (by rw [gstar_]; exact h)
set_option maxRecDepth 100000 in
theorem bookOpens_contract (H : Type) (enc : TypeId × Value → H) (W : World) (base : Nat) (args : Array Value) (ds gs : List (DataW H)) (before : List MemPlace)
    (hval : ∀ (j : Nat) t v, Tryd.f3.params[j]? = some t → args[j]? = some v → Value.okWide Tryd.prog W .any base t v)
    (hW : DataW.Whole enc Tryd.prog Tryd.f3.params.toList Rows.bookOpensSpec.vars false W args.toList ds gs before)
    (hsz : (DataW.weightsEach Tryd.prog (Tryd.f3.params.toList ++ Rows.bookOpensSpec.plain.varTypes Tryd.prog) (ds ++ gs)).all (· ≤ reachBytes) = true)
    (hL : laidMetH Tryd.prog Rows.bookOpensRow.laid W) :
    Calls Tryd.prog 3 args W fun e W' => ∃ v, e = .returned v ∧ Rows.bookOpensSpec.post enc Tryd.prog Tryd.f3 false true false false W args v W' := by
  have hw := hW
  obtain ⟨p, q, hA, hV, _, _, _⟩ := hw
  have hA : DataW.TrodAll enc Tryd.prog W 0 (fun _ => true) true [22] args.toList ds p := hA
  obtain ⟨rfl, rfl⟩ := trodVars_none hV
  obtain ⟨v0, vs0, d0, ds0, p0, q0, hargs, rfl, rfl, h0, r0⟩ := trodAll_cons hA
  obtain ⟨rfl, rfl, rfl⟩ := trodAll_nil r0
  obtain rfl : args = #[v0] := by cases args; simp_all
  have hsz0 : (DataW.weightsEach Tryd.prog [22] [d0]).all (· ≤ reachBytes) = true := hsz
  obtain ⟨z0, hsz1⟩ := weightsEach_cons hsz0
  obtain ⟨x0, wf0, sz0, rc0, t0⟩ := arg_one bulk (rd_lst Tryd.underlying22 (by kernel_rfl) (rd_u8 Tryd.underlying5)) (one_slice Tryd.underlying22 (hval 0 22 v0 rfl rfl)) h0
  have rc0 := rc0 z0
  have hgs_ : Glb 2 (GW.all W) := glb_laid (n := "strconv.ErrSyntax") (nm := "*errors.errorString") (text := [105, 110, 118, 97, 108, 105, 100, 32, 115, 121, 110, 116, 97, 120]) hL (by kernel_rfl) (by kernel_rfl) (by kernel_rfl) Tryd.underlying61 grow_ Tryd.underlying136 Tryd.underlying138 rfl rfl Tryd.underlying9 (by kernel_rfl) (by kernel_rfl)
  have hgr_ : Glb 3 (GW.all W) := glb_laid (n := "strconv.ErrRange") (nm := "*errors.errorString") (text := [118, 97, 108, 117, 101, 32, 111, 117, 116, 32, 111, 102, 32, 114, 97, 110, 103, 101]) hL (by kernel_rfl) (by kernel_rfl) (by kernel_rfl) Tryd.underlying61 grow_ Tryd.underlying136 Tryd.underlying138 rfl rfl Tryd.underlying9 (by kernel_rfl) (by kernel_rfl)
  have hgt_ : Tab Tryd.prog p10N .u64 Lib.pow10Tab (GW.all W) := tab_laid (g := 1) (n := "internal/strconv.uint64pow10") hL (by kernel_rfl) (by kernel_rfl) (by kernel_rfl) Tryd.underlying109 Tryd.underlying71 (by kernel_rfl) (by kernel_rfl) (by decide)
  have hglb : Gbk Tryd.prog GA GB (GW.all W) := ⟨by rw [show GA = 2 by kernel_rfl]; exact hgs_, by rw [show GB = 3 by kernel_rfl]; exact hgr_, hgt_⟩
  exact law_post (tb := 4) (by kernel_rfl) Tryd.underlying4 laidOut (by kernel_rfl) hW rfl rfl (bookOpens_fn x0 _ _ t0 hglb)

noncomputable def bookOpensWorld (os : Os) : World := World.laidAll Tryd.prog os Rows.bookOpensRow.laid
theorem bookOpens_met (os : Os) : laidMetH Tryd.prog Rows.bookOpensRow.laid ((bookOpensWorld os).forCall (fun _ _ => 0) ⟨#[], #[.slice none 0 0], []⟩).memory :=
  laidH_all #[.slice none 0 0] (by kernel_rfl) (by kernel_rfl) (by kernel_rfl)
theorem bookOpens_reads (os : Os) {H : Type} (enc : TypeId × Value → H) : ∃ places, DataW.whole enc Tryd.prog ((bookOpensWorld os).forCall (fun _ _ => 0) ⟨#[], #[.slice none 0 0], []⟩).memory Tryd.f3.params.toList Rows.bookOpensSpec.vars false (#[.slice none 0 0] : Array Value).toList 8 = some ([.nil], [], places) :=
  ⟨[], by kernel_rfl⟩
set_option maxRecDepth 100000 in
theorem bookOpens_lifted (os : Os) (started : os.Started) (H : Type) (enc : TypeId × Value → H) (F : Stop.Interp) :
    ReturnsInHanded {} Tryd.checked os 3 .any ((OpenSpec.ofChange Rows.bookOpensSpec).preRow enc Tryd.prog Tryd.f3 Rows.bookOpensRow.domain false Rows.bookOpensRow.laid) (((OpenSpec.ofChange Rows.bookOpensSpec).at F).post enc Tryd.prog Tryd.f3 false true false false) := by
  obtain ⟨places, hx⟩ := bookOpens_reads os enc
  refine returnsInHanded_of_row (C := Tryd.checked) (s := (OpenSpec.ofChange Rows.bookOpensSpec)) ownKnob_ started (by kernel_rfl) Tryd.func3
    (witness_row_sh (enc := enc) (C := Tryd.checked) (bookOpensWorld os) #[.slice none 0 0] (World.laidAll_os _ _ _) (World.shaped_of_ZipB (by kernel_rfl) (by kernel_rfl)) (by kernel_rfl)
      (OpenSpec.preRow_of_cond 8 hx (by kernel_rfl) (fun k hk => by cases hk) (by kernel_rfl) (bookOpens_met os))) ?_
  intro W base args ds gs before hval hW _ _ hsz hL _ _
  exact bookOpens_contract H enc W base args ds gs before hval hW hsz hL 
theorem bookOpens_said : Rows.BookOpensSaid :=
  OpenClaim.holds_of_cond 3 Tryd.f3 rfl rfl rfl rfl rfl rfl rfl ⟨rfl, rfl, rfl, rfl, rfl⟩ rfl rfl rfl rfl rfl (by kernel_rfl) Tryd.func3 (by kernel_rfl)
    (of_decide_eq_true (by kernel_rfl)) (by unfold Func.isWrapper; first | (rw [if_pos (by decide +kernel)]; kernel_rfl) | (rw [if_neg (by decide +kernel)]; exact ⟨rfl, rfl⟩))
    (fun os started H enc _ F => by rw [OpenClaim.pre_eq_preRow]; exact bookOpens_lifted os started H enc F)
theorem bookOpens_plain (f : FuncId) (fn : Func) (hf : Tryd.pinned.checked.prog.funcNamed "campanile/campanilelaw.BookOpens" = some f) (hfn : Tryd.pinned.checked.prog.funcs[f]? = some fn) :
    true = Tryd.pinned.checked.prog.looks [] ∧ ∀ (j : Nat) t, fn.params[j]? = some t → Tryd.pinned.checked.prog.wantsStandIn t = false := by
  obtain rfl : f = 3 := Option.some.inj ((show Tryd.prog.funcNamed "campanile/campanilelaw.BookOpens" = some 3 by kernel_rfl).symm.trans hf) |>.symm
  obtain rfl : fn = Tryd.f3 := (Option.some.inj (Tryd.func3.symm.trans hfn)).symm
  refine ⟨by kernel_rfl, fun j t ht => ?_⟩
  rw [Tryd.params3] at ht
  have hm : t ∈ [22] := by simpa using Array.mem_of_getElem? ht
  have hall : ([22].all fun u => !Tryd.prog.wantsStandIn u) = true := by kernel_rfl
  exact (show Tryd.prog.wantsStandIn t = false by simpa using List.all_eq_true.1 hall t hm)
/-- The card. -/
theorem bookOpensCard_holds : Rows.BookOpensCardSaid :=
  Claim7.holds_tied_plain_at .later [] _ _ _ _ bookOpens_said (fun _ h => by cases h) (by kernel_rfl) (fun _ h => by cases h) bookOpens_row_tie rfl ⟨rfl, rfl⟩ (by kernel_rfl) rfl bookOpens_plain (by kernel_rfl)
#print axioms bookOpensCard_holds
end Go.Proofs.YtfgkhpkbehhflaaDoor
