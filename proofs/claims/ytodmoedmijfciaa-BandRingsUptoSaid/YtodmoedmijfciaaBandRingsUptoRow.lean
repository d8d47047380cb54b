/- The law BandRings holds of all methods, calls, leads and slips, where what it reads is of bulk at most 1048576. -/
import Derived.Test.YtodmoedmijfciaaRows
import Derived.Test.YtodmoedmijfciaaBandRingsB3
import Derived.Test.YtodmoedmijfciaaBandRingsK4
namespace Go.Proofs.Ytodmoedmijfciaa
open Go.KL Go.ChangeShapes Go.WideShapes Go.ChangeAt Go.RowKit
theorem ownKnob_:ownKnob Try.prog.godebug = none:=by kernel_rfl
theorem laidOut:laidOutB Try.prog = true:=by kernel_rfl
theorem bulk_one {H:Type} (d:DataW H):1 ≤ Rows.uptoBulk d:=by
  cases d with
  | lit l=>cases l <;> simp [Rows.uptoBulk]
  | nil=>simp [Rows.uptoBulk]
  | ptr d=>simp [Rows.uptoBulk]
  | slice elems spare=>simp [Rows.uptoBulk]
  | agg parts=>simp [Rows.uptoBulk]
  | iface t d=>simp [Rows.uptoBulk]
  | map entries=>simp [Rows.uptoBulk]
  | held h=>simp [Rows.uptoBulk]
theorem bulk {H:Type}:Bulk (H:=H) Rows.uptoBulk Rows.uptoBulkAll where
  one:=bulk_one
  str l:=by simp [Rows.uptoBulk]
  slice es sp:=by simp [Rows.uptoBulk]
  agg ps:=by simp [Rows.uptoBulk]
  nil:=by simp [Rows.uptoBulkAll]
  cons d r:=by simp [Rows.uptoBulkAll]
theorem len_le {α:Type} {sz:α → Nat} (h:∀ x,1 ≤ sz x):∀ xs:List α,xs.length ≤ (xs.map sz).sum
  | []=>Nat.le_refl _
  | x :: xs=>by have:=h x;have:=len_le h xs;simp only [List.length_cons,List.map_cons,List.sum_cons];omega
set_option maxRecDepth 100000 in
theorem bandRings_contract (H:Type) (enc:TypeId × Value → H) (W:World) (base:Nat) (args:Array Value) (ds gs:List (DataW H)) (before:List MemPlace)
    (hval:∀ (j:Nat) t v,Try.f3.params[j]? = some t → args[j]? = some v → Value.okWide Try.prog W .any base t v)
    (hW:DataW.Whole enc Try.prog Try.f3.params.toList Rows.bandRingsSpec.vars false W args.toList ds gs before)
    (hsz:(DataW.weightsEach Try.prog (Try.f3.params.toList ++ Rows.bandRingsSpec.plain.varTypes Try.prog) (ds ++ gs)).all (· ≤ reachBytes) = true) (hk:Rows.uptoSmall H (ds ++ gs) = true) :
    EndsGood Try.prog (fun v W'=>Rows.bandRingsSpec.post enc Try.prog Try.f3 false true false false W args v W') (Go.Conc.solo (Go.Conc.G (Frame.enter Try.prog 3 args .normal) []) W) #[]:=by
  have hw:=hW
  obtain ⟨p,q,hA,hV,_,_,_⟩:=hw
  have hA:DataW.TrodAll enc Try.prog W 0 (fun _=>true) true [24,25,26,27] args.toList ds p:=hA
  obtain ⟨rfl,rfl⟩:=trodVars_none hV
  obtain ⟨v0,vs0,d0,ds0,p0,q0,hargs,rfl,rfl,h0,r0⟩:=trodAll_cons hA
  obtain ⟨v1,vs1,d1,ds1,p1,q1,rfl,rfl,rfl,h1,r1⟩:=trodAll_cons r0
  obtain ⟨v2,vs2,d2,ds2,p2,q2,rfl,rfl,rfl,h2,r2⟩:=trodAll_cons r1
  obtain ⟨v3,vs3,d3,ds3,p3,q3,rfl,rfl,rfl,h3,r3⟩:=trodAll_cons r2
  obtain ⟨rfl,rfl,rfl⟩:=trodAll_nil r3
  obtain rfl:args = #[v0,v1,v2,v3]:=by cases args;simp_all
  have hsz0:(DataW.weightsEach Try.prog [24,25,26,27] [d0,d1,d2,d3]).all (· ≤ reachBytes) = true:=hsz
  obtain ⟨z0,hsz1⟩:=QL hsz0
  obtain ⟨x0,wf0,sz0,rc0,t0⟩:=arg_agg bulk (rd_s3 Try.underlying24 (by kernel_rfl) rfl rfl rfl (by kernel_rfl) (by kernel_rfl) (by kernel_rfl) (rd_str Try.underlying9) (rd_int Try.underlying3) (rd_lst Try.underlying22 (by kernel_rfl) (rd_lst Try.underlying26 (by kernel_rfl) (rd_int Try.underlying3)))) Try.underlying24 (hval 0 24 v0 rfl rfl) h0
  have rc0:=rc0 z0
  obtain ⟨z1,hsz2⟩:=QL hsz1
  obtain ⟨x1,wf1,sz1,rc1,t1⟩:=arg_one bulk (rd_lstc (c:=2) Try.underlying25 (by kernel_rfl) (by decide) (rd_s2 Try.underlying51 (by kernel_rfl) rfl rfl (by kernel_rfl) (by kernel_rfl) (rd_int Try.underlying21) (rd_lst Try.underlying22 (by kernel_rfl) (rd_lst Try.underlying26 (by kernel_rfl) (rd_int Try.underlying3)))) (fun _=>rfl)) (one_slice Try.underlying25 (hval 1 25 v1 rfl rfl)) h1
  have rc1:=rc1 z1
  obtain ⟨z2,hsz3⟩:=QL hsz2
  obtain ⟨x2,wf2,sz2,rc2,t2⟩:=arg_one bulk (rd_lst Try.underlying26 (by kernel_rfl) (rd_int Try.underlying3)) (one_slice Try.underlying26 (hval 2 26 v2 rfl rfl)) h2
  have rc2:=rc2 z2
  obtain ⟨z3,hsz4⟩:=QL hsz3
  obtain ⟨x3,wf3,sz3,rc3,t3⟩:=arg_one bulk (rd_lstc (c:=3) Try.underlying27 (by kernel_rfl) (by decide) (rd_s3 Try.underlying46 (by kernel_rfl) rfl rfl rfl (by kernel_rfl) (by kernel_rfl) (by kernel_rfl) (rd_int Try.underlying3) (rd_int Try.underlying3) (rd_int Try.underlying3)) (fun _=>rfl)) (one_slice Try.underlying27 (hval 3 27 v3 rfl rfl)) h3
  have rc3:=rc3 z3
  have hbulk:Rows.uptoBulk d0 + (Rows.uptoBulk d1 + (Rows.uptoBulk d2 + (Rows.uptoBulk d3 + 0))) ≤ 1048576:=Xq hk
  letI:Go.ConcR.Payload:=⟨3⟩
  exact law_run (Z:=(fun k=>if k = 1 then Go.ConcR.wgBlock 64 0 0 else .cells #[.int .i64 0] 66)) (tb:=4) (by kernel_rfl) (by kernel_rfl) Try.underlying4 laidOut (by kernel_rfl) hW rfl rfl (bandRings_fn x0.1 x0.2.1 x0.2.2 x1 x2 x3 (ghV W) (GW0 W) (low0 W) _ _ _ _ (Ty.up _ (le0 W) t0) (Ty.up _ (le0 W) t1) (Ty.up _ (le0 W) t2) (Ty.up _ (le0 W) t3) (pls0 W) (by have h1:x0.1.size + 1 + 1 + _ + 1 ≤ Rows.uptoBulk d0:=sz0;omega) (i64_bd wf0.2.1) rfl rfl (by have h1:x0.1.size + 1 + 1 + ((x0.2.2.map fun r=>(r.map fun _=>1).sum + 1).sum + 1) + 1 ≤ Rows.uptoBulk d0:=sz0;have h2:=len_le (sz:=fun r:List Int=>(r.map fun _=>1).sum + 1) (fun _=>by omega) x0.2.2;omega))
set_option maxRecDepth 100000 in
theorem bandRingsUpto_lifted (os:Os) (started:os.Started) (H:Type) (enc:TypeId × Value → H) (F:Stop.Interp) :
    ReturnsInLeavingWide {} Try.checked os 3 .any ((Rows.OpenSpec.upto Rows.bandRingsSpec).pre6 enc Try.prog Try.f3 Rows.bandRingsUptoRow.domain false) (((Rows.OpenSpec.upto Rows.bandRingsSpec).at F).post enc Try.prog Try.f3 false true false false):=by
  refine leaves_of_cond (C:=Try.checked) (s:=Rows.OpenSpec.upto Rows.bandRingsSpec) (k:=Rows.uptoSmall) rfl ownKnob_ started Try.func3
    (OpenSpec.witness (enc:=enc) (C:=Try.checked) (s:=Rows.OpenSpec.upto Rows.bandRingsSpec) (k:=Rows.uptoSmall) rfl false ⟨#[],#[.agg #[.string ByteArray.empty,.int .i64 0,.slice none 0 0],.slice none 0 0,.slice none 0 0,.slice none 0 0],[]⟩ 8 (by kernel_rfl) (by kernel_rfl) (by kernel_rfl)
      (x:=([.agg [.lit (.string []),.lit (.int .i64 0),.nil],.nil,.nil,.nil],[],[])) (by kernel_rfl) rfl (by kernel_rfl)) ?_
  intro W base args ds gs before hval hW hk hsz
  exact bandRings_contract H enc W base args ds gs before hval hW hsz hk
theorem bandRingsUpto_holds:Rows.BandRingsUptoSaid :=
  holds_leaving_of_cond 3 Try.f3 rfl rfl rfl rfl rfl rfl rfl ⟨rfl,rfl,rfl,rfl,rfl⟩ rfl rfl rfl rfl rfl (by kernel_rfl) Try.func3 (by kernel_rfl)
    (Xq (by kernel_rfl)) (by unfold Func.isWrapper;first | (rw [if_pos (by decide +kernel)];kernel_rfl) | (rw [if_neg (by decide +kernel)];exact ⟨rfl,rfl⟩))
    (fun os started H enc _ F=>bandRingsUpto_lifted os started H enc F)
#print axioms bandRingsUpto_holds
end Go.Proofs.Ytodmoedmijfciaa
