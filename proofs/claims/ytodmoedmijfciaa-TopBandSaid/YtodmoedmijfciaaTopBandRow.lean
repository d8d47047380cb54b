/- The law TopBand holds of all raw numbers. -/
import Derived.Test.YtodmoedmijfciaaRows
import Derived.Test.YtodmoedmijfciaaTopBandB3
import Derived.Test.YtodmoedmijfciaaTopBandK4
namespace Go.Proofs.Ytodmoedmijfciaa
open Go.KL Go.ChangeShapes Go.WideShapes Go.ChangeAt Go.RowKit
theorem ownKnob_:ownKnob Try.prog.godebug = none:=by kernel_rfl
theorem laidOut:laidOutB Try.prog = true:=by kernel_rfl
theorem bulk_one {H:Type} (d:DataW H):1 ≤ Rows.uptoBulk d:=by
  cases d with
  | lit l=>cases l <;> simp [Rows.uptoBulk]
  | nil=>simp [Rows.uptoBulk]
  | ptr d=>simp [Rows.uptoBulk]
  | slice elems spare=>simp [Rows.uptoBulk]
  | agg parts=>simp [Rows.uptoBulk]
  | iface t d=>simp [Rows.uptoBulk]
  | map entries=>simp [Rows.uptoBulk]
  | held h=>simp [Rows.uptoBulk]
theorem bulk {H:Type}:Bulk (H:=H) Rows.uptoBulk Rows.uptoBulkAll where
  one:=bulk_one
  str l:=by simp [Rows.uptoBulk]
  slice es sp:=by simp [Rows.uptoBulk]
  agg ps:=by simp [Rows.uptoBulk]
  nil:=by simp [Rows.uptoBulkAll]
  cons d r:=by simp [Rows.uptoBulkAll]
set_option maxRecDepth 100000 in
theorem topBand_contract (H:Type) (enc:TypeId × Value → H) (W:World) (base:Nat) (args:Array Value) (ds gs:List (DataW H)) (before:List MemPlace)
    (hval:∀ (j:Nat) t v,Try.f5.params[j]? = some t → args[j]? = some v → Value.okWide Try.prog W .any base t v)
    (hW:DataW.Whole enc Try.prog Try.f5.params.toList Rows.topBandSpec.vars false W args.toList ds gs before)
    (hsz:(DataW.weightsEach Try.prog (Try.f5.params.toList ++ Rows.topBandSpec.plain.varTypes Try.prog) (ds ++ gs)).all (· ≤ reachBytes) = true) :
    EndsGood Try.prog (fun v W'=>Rows.topBandSpec.post enc Try.prog Try.f5 false true false false W args v W') (Go.Conc.solo (Go.Conc.G (Frame.enter Try.prog 5 args .normal) []) W) #[]:=by
  have hw:=hW
  obtain ⟨p,q,hA,hV,_,_,_⟩:=hw
  have hA:DataW.TrodAll enc Try.prog W 0 (fun _=>true) true [26,3,3,3,3,3,3,3] args.toList ds p:=hA
  obtain ⟨rfl,rfl⟩:=trodVars_none hV
  obtain ⟨v0,vs0,d0,ds0,p0,q0,hargs,rfl,rfl,h0,r0⟩:=trodAll_cons hA
  obtain ⟨v1,vs1,d1,ds1,p1,q1,rfl,rfl,rfl,h1,r1⟩:=trodAll_cons r0
  obtain ⟨v2,vs2,d2,ds2,p2,q2,rfl,rfl,rfl,h2,r2⟩:=trodAll_cons r1
  obtain ⟨v3,vs3,d3,ds3,p3,q3,rfl,rfl,rfl,h3,r3⟩:=trodAll_cons r2
  obtain ⟨v4,vs4,d4,ds4,p4,q4,rfl,rfl,rfl,h4,r4⟩:=trodAll_cons r3
  obtain ⟨v5,vs5,d5,ds5,p5,q5,rfl,rfl,rfl,h5,r5⟩:=trodAll_cons r4
  obtain ⟨v6,vs6,d6,ds6,p6,q6,rfl,rfl,rfl,h6,r6⟩:=trodAll_cons r5
  obtain ⟨v7,vs7,d7,ds7,p7,q7,rfl,rfl,rfl,h7,r7⟩:=trodAll_cons r6
  obtain ⟨rfl,rfl,rfl⟩:=trodAll_nil r7
  obtain rfl:args = #[v0,v1,v2,v3,v4,v5,v6,v7]:=by cases args;simp_all
  have hsz0:(DataW.weightsEach Try.prog [26,3,3,3,3,3,3,3] [d0,d1,d2,d3,d4,d5,d6,d7]).all (· ≤ reachBytes) = true:=hsz
  obtain ⟨z0,hsz1⟩:=Ko hsz0
  obtain ⟨x0,wf0,sz0,rc0,t0⟩:=arg_one bulk (rd_lst Try.underlying26 (by kernel_rfl) (rd_int Try.underlying3)) (one_slice Try.underlying26 (hval 0 26 v0 rfl rfl)) h0
  have rc0:=rc0 z0
  obtain ⟨z1,hsz2⟩:=Ko hsz1
  obtain ⟨x1,wf1,sz1,rc1,t1⟩:=arg_one bulk (rd_int Try.underlying3) (one_int Try.underlying3 (hval 1 3 v1 rfl rfl)) h1
  have rc1:=rc1 z1
  obtain ⟨z2,hsz3⟩:=Ko hsz2
  obtain ⟨x2,wf2,sz2,rc2,t2⟩:=arg_one bulk (rd_int Try.underlying3) (one_int Try.underlying3 (hval 2 3 v2 rfl rfl)) h2
  have rc2:=rc2 z2
  obtain ⟨z3,hsz4⟩:=Ko hsz3
  obtain ⟨x3,wf3,sz3,rc3,t3⟩:=arg_one bulk (rd_int Try.underlying3) (one_int Try.underlying3 (hval 3 3 v3 rfl rfl)) h3
  have rc3:=rc3 z3
  obtain ⟨z4,hsz5⟩:=Ko hsz4
  obtain ⟨x4,wf4,sz4,rc4,t4⟩:=arg_one bulk (rd_int Try.underlying3) (one_int Try.underlying3 (hval 4 3 v4 rfl rfl)) h4
  have rc4:=rc4 z4
  obtain ⟨z5,hsz6⟩:=Ko hsz5
  obtain ⟨x5,wf5,sz5,rc5,t5⟩:=arg_one bulk (rd_int Try.underlying3) (one_int Try.underlying3 (hval 5 3 v5 rfl rfl)) h5
  have rc5:=rc5 z5
  obtain ⟨z6,hsz7⟩:=Ko hsz6
  obtain ⟨x6,wf6,sz6,rc6,t6⟩:=arg_one bulk (rd_int Try.underlying3) (one_int Try.underlying3 (hval 6 3 v6 rfl rfl)) h6
  have rc6:=rc6 z6
  obtain ⟨z7,hsz8⟩:=Ko hsz7
  obtain ⟨x7,wf7,sz7,rc7,t7⟩:=arg_one bulk (rd_int Try.underlying3) (one_int Try.underlying3 (hval 7 3 v7 rfl rfl)) h7
  have rc7:=rc7 z7
  letI:Go.ConcR.Payload:=⟨3⟩
  exact law_run (Z:=(fun k=>if k = 1 then Go.ConcR.wgBlock 64 0 0 else .cells #[.int .i64 0] 66)) (tb:=4) (by kernel_rfl) (by kernel_rfl) Try.underlying4 laidOut (by kernel_rfl) hW rfl rfl (topBand_fn x0 x1 x2 x3 x4 x5 x6 x7 (ghV W) (GW0 W) (low0 W) _ _ _ _ _ _ _ _ (Ty.up _ (le0 W) t0) (Ty.up _ (le0 W) t1) (Ty.up _ (le0 W) t2) (Ty.up _ (le0 W) t3) (Ty.up _ (le0 W) t4) (Ty.up _ (le0 W) t5) (Ty.up _ (le0 W) t6) (Ty.up _ (le0 W) t7) (pls0 W) (fun x hx=>i64_bd (wf0.2 x hx)) (i64_bd wf1) (i64_bd wf2) (i64_bd wf3) (i64_bd wf4) (i64_bd wf5) (i64_bd wf6) (i64_bd wf7) rfl rfl)
set_option maxRecDepth 100000 in
theorem topBand_lifted (os:Os) (started:os.Started) (H:Type) (enc:TypeId × Value → H) :
    ReturnsInLeavingWide {} Try.checked os 5 .any (Rows.topBandSpec.pre6 enc Try.prog Try.f5 Rows.topBandRow.domain false) (Rows.topBandSpec.post enc Try.prog Try.f5 false true false false):=by
  refine returnsInLeavingWide_of_change_sized (C:=Try.checked) ownKnob_ started Try.func5
    (ChangeSpec.witness6 (enc:=enc) (C:=Try.checked) false ⟨#[],#[.slice none 0 0,.int .i64 0,.int .i64 0,.int .i64 0,.int .i64 0,.int .i64 0,.int .i64 0,.int .i64 0],[]⟩ 8 (by kernel_rfl) (by kernel_rfl) (by kernel_rfl) (by kernel_rfl)) ?_
  intro W base args ds gs before hval hW _ hsz _
  exact topBand_contract H enc W base args ds gs before hval hW hsz
theorem topBand_holds:Rows.TopBandSaid :=
  OpenClaim.holds_of_wide_leaving 5 Try.f5 rfl rfl rfl rfl rfl rfl rfl ⟨rfl,rfl,rfl,rfl,rfl⟩ rfl rfl rfl rfl rfl (by kernel_rfl) Try.func5 (by kernel_rfl)
    (Xi (by kernel_rfl)) (by unfold Func.isWrapper;first | (rw [if_pos (by decide +kernel)];kernel_rfl) | (rw [if_neg (by decide +kernel)];exact ⟨rfl,rfl⟩))
    (fun os started H enc _=>topBand_lifted os started H enc)
#print axioms topBand_holds
end Go.Proofs.Ytodmoedmijfciaa
