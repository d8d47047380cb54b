/- The functions that the law ExtentMade reaches, each by its contract. Part 9. -/
import Derived.Test.YtkjifbgofckfeaaExtentMadeW8
namespace Go.Proofs.Ytkjifbgofckfeaa
open Go.KL

set_option maxHeartbeats 4000000 in
set_option maxRecDepth 100000 in
theorem extentMade_fn (raw : List Int) (n : Int) (a : Int) (b : Int) (σ : GW)  (v0 v1 v2 v3 : Value) (hv0 : Ty.has (Ty.lst Ty.int raw) σ v0) (hv1 : Ty.has (Ty.int n) σ v1) (hv2 : Ty.has (Ty.int a) σ v2) (hv3 : Ty.has (Ty.int b) σ v3)  (hraw : ∀ x ∈ raw, -9223372036854775808 ≤ x ∧ x ≤ 9223372036854775807) (hn : -9223372036854775808 ≤ n ∧ n ≤ 9223372036854775807) (ha : -9223372036854775808 ≤ a ∧ a ≤ 9223372036854775807) (hb : -9223372036854775808 ≤ b ∧ b ≤ 9223372036854775807) :
    FnC Try.prog 5 #[v0, v1, v2, v3] σ (Ty.bool true) := by
 have hp_n := pick_lt n (n := 5) (by omega)
 obtain ⟨N, hN⟩ : ∃ N, N = 1 + pick n 5 := ⟨_, rfl⟩
 have hN12 : 1 ≤ N ∧ N ≤ 12 := (by omega)
 have hf5 := fct_mono (show N ≤ 5 by omega)
 have hf120 : fct 5 = 120 := rfl
 have hfp := fct_pos N
 have hpa := pick_lt a (n := fct N) hfp
 have hpb := pick_lt b (n := fct N) hfp
 obtain ⟨X, hX⟩ : ∃ X, X = atL N (pick a (fct N)) := ⟨_, rfl⟩
 obtain ⟨Y, hY⟩ : ∃ Y, Y = atL N (pick b (fct N)) := ⟨_, rfl⟩
 have hXr : RowN N X := ⟨by (rw [hX]; exact at_row hN12.1 hN12.2 hpa), by (rw [hX]; exact at_len _ _)⟩
 have hYr : RowN N Y := ⟨by (rw [hY]; exact at_row hN12.1 hN12.2 hpb), by (rw [hY]; exact at_len _ _)⟩
 have hTP : TwoP N X Y := ⟨hN12, hXr, hYr⟩
 have hG := hTP.g
 have hcx := hTP.cx
 have hcy := hTP.cy
 have hl2 : [X, Y].length ≤ 8 := (by simp)
 have hl3 : [X, Y].length ≤ 1000 := (by simp)
 have hXl := hXr.len
 have hYl := hYr.len
 have hrw : ∀ k, -9223372036854775808 ≤ rawAt raw k ∧ rawAt raw k ≤ 9223372036854775807 := fun k => rawAt_bd hraw k
 refine fn_intro0 Try.func5 rfl Try.ntmps5 (Nat.le_of_ble_eq_true rfl) (fun s0 a0 hle F0 ok0 hargs => ?_)
 have p0 := pA hle (hargs 0 _ rfl) hv0
 have b1 := sl_le p0
 have p1 := pA hle (hargs 1 _ rfl) hv1
 have p2 := pA hle (hargs 2 _ rfl) hv2
 have p3 := pA hle (hargs 3 _ rfl) hv3
 clear hargs; refine wp_seq ?_
 refine gI a0 s0 ok0 (gC (Ty.bool false) (gE ok0 fun a1 s1 ok1 D1 => ?_)); have q1 := D1.kt p0 rfl; refine tn (wp_seq (wp_seq ?_))
 refine gI a1 s1 ok1 (gM q1 (gS rfl (fun A B E G H d0 => rP (y_len Try.underlying22 (ed d0 rfl rfl rfl))) (gS rfl (fun A B E G H d0 => rP (y_gtr (ed d0 rfl rfl rfl) rfl)) (gE ok1 fun a2 s2 ok2 D2 => ?_)))); have F2 := (F0.step0 D1.stp).step0 D2.stp; refine tn ?_
 refine cond_p (p := ((256 : Int) < (((List.length raw) : Nat) : Int))) (D2.dn 2 rfl rfl) (fun c1 => ?_) (fun c1 => ?_)
 ·
  refine wp_seq ?_
  refine gI a2 s2 ok2 (gC (Ty.bool true) (gE ok2 fun a3 s3 ok3 D3 => ?_)); refine tn (wp_ret (tr ?_))
  exact retL1 rfl ok3 (F2.step0 D3.stp) (D3.dn 0 rfl rfl)
 ·
  refine wp_skip (tn (wp_seq ?_))
  refine gI a2 s2 ok2 (gM (D2.kt (D1.kt p1 rfl) rfl) (gS rfl (fun A B E G H d0 => rP (y_call #[A.eval (.tmp 17), A.eval ((Operand.const (Value.int IntKind.i64 5)))] Try.func15 rfl rfl my2 (pick_fn (n) (5) _ _ _ (cvi (σ := B) (by omega) (ed d0 rfl rfl rfl)) (cvi (σ := B) (by omega) rfl) (by omega) (by omega)))) (gT (Ty.nat (1 + (pick (n) (5)))) rfl (fun A B E G H d0 => rP ((y_add rfl (ed d0 rfl rfl rfl) (w64 (by omega) (by omega))).mono (fun τ _ h => cvi (σ := τ) (by first | omega | exact (Int.natCast_mul _ _).symm) h))) (gB 0 (gE ok2 fun a4 s4 ok4 D4 => ?_)))))
  have q15 : At (Ty.nat N) s4 a4 (.tmp 1) := (cvi (by (rw [hN])) (D4.dn 3 rfl rfl))
  refine tn (wp_seq ?_)
  refine gI a4 s4 ok4 (gM (D4.kt (D2.kt (D1.kt p2 rfl) rfl) rfl) (gM q15 (gS rfl (fun A B E G H d0 d1 => rP (y_call _ Try.func31 rfl rfl my2 (rRowOf_fn (a) (N) _ _ _ (cvi (σ := B) (by first | omega | exact hr _ | assumption) (ed d0 rfl rfl rfl)) (cvi (σ := B) (by first | omega | exact hr _ | assumption) (ed d1 rfl rfl rfl)) (by first | omega | exact hr _ | assumption) (by first | omega | exact hr _ | assumption)))) (gB 0 (gE ok4 fun a5 s5 ok5 D5 => ?_))))); have q18 := D5.kt q15 rfl
  have q20 : At (Ty.lst Ty.int X) s5 a5 (.tmp 9) := (cvt (by (rw [hX])) (D5.dn 3 rfl rfl))
  refine tn (wp_seq ?_)
  refine gI a5 s5 ok5 (gM (D5.kt (D4.kt (D2.kt (D1.kt p3 rfl) rfl) rfl) rfl) (gM q18 (gS rfl (fun A B E G H d0 d1 => rP (y_call _ Try.func31 rfl rfl my2 (rRowOf_fn (b) (N) _ _ _ (cvi (σ := B) (by first | omega | exact hr _ | assumption) (ed d0 rfl rfl rfl)) (cvi (σ := B) (by first | omega | exact hr _ | assumption) (ed d1 rfl rfl rfl)) (by first | omega | exact hr _ | assumption) (by first | omega | exact hr _ | assumption)))) (gB 0 (gE ok5 fun a6 s6 ok6 D6 => ?_))))); have q23 := D6.kt q20 rfl
  have q25 : At (Ty.lst Ty.int Y) s6 a6 (.tmp 10) := (cvt (by (rw [hY])) (D6.dn 3 rfl rfl))
  refine tn (wp_seq ?_)
  refine gI a6 s6 ok6 (gM (D6.kt q18 rfl) (gM q23 (gM q25 (gT (Ty.sl 1 2 [(Ty.lst Ty.int X), (Ty.lst Ty.int Y)]) rfl (fun A B E G H d0 d1 => rP (y_build2 Try.underlying24 Try.inf22 rfl (one_sl) (one_sl) (ed d0 rfl rfl rfl) (ed d1 rfl rfl rfl))) (gE2 ok6 fun a7 s7 ok7 D7 => ?_))))); have q30 := D7.dn 3 (by decide) rfl rfl
  have b2 := sl_le q30
  refine tL ok7 (y_callL (L := []) [] [] #[a7.eval (.tmp 27), a7.eval (.tmp 30), a7.eval ((Operand.const (Value.int IntKind.i64 5040)))] rfl (by decide) Try.func19 rfl rfl my3 (rClosed_fn (N) ([X, Y]) (5040) _ (GW.low_lend _ (by decide)) _ _ _ (Ty.up _ (GW.le_lend _ _) (cvi (σ := s7) (by first | omega | assumption) (D7.dn 0 (by decide) rfl rfl))) (Ty.up _ (GW.le_lend _ _) q30) (Ty.up _ (GW.le_lend _ _) (cvi (σ := s7) (by first | omega | assumption) rfl))  (by first | omega | assumption) (by first | omega | assumption) (by first | omega | assumption) (by first | omega | assumption))) fun a8 s8 hs1 ok8 r1 sm1 => ?_
  have F8 := ((((F2.step0 D4.stp).step0 D5.stp).step0 D6.stp).step0 D7.stp).stepL hs1 (by decide); have q31 := kpL hs1 (by decide) (sm1 0 (by decide)) (D7.kt (D6.kt (D5.kt (D4.kt (D2.kt q1 rfl) rfl) rfl) rfl) rfl); have q32 := kpL hs1 (by decide) (sm1 9 (by decide)) (D7.kt q23 rfl); have q33 := kpL hs1 (by decide) (sm1 10 (by decide)) (D7.kt q25 rfl)
  obtain ⟨t1, ⟨g1, g2, hT1, hp1⟩, B1⟩ := r1
  have q34 : At (Ty.tup2 (Ty.lst Ty.ints (g1)) (Ty.lst Ty.ints (g2))) s8 a8 (.tmp 31) := Ty.up _ B1.le hT1
  refine tL ok8 (Yld.toL (y_mv q34)) fun a9 s9 hs2 ok9 r2 sm2 => ?_
  have F9 := F8.stepL hs2 (by decide); have q35 := kpL hs2 (by decide) (sm2 0 (by decide)) q31; have q36 := kpL hs2 (by decide) (sm2 9 (by decide)) q32; have q37 := kpL hs2 (by decide) (sm2 10 (by decide)) q33
  have q38 : At (Ty.tup2 (Ty.lst Ty.ints (g1)) (Ty.lst Ty.ints (g2))) s9 a9 (.tmp 26) := r2
  clear r2
  refine tL (R := (fun v τ => Pr.has (Ty.pr (Ty.lst Ty.ints (g1))) τ v)) ok9 (Yld.toL (y_ext2_0 q38)) fun a10 s10 hs3 ok10 r3 sm3 => ?_
  have F10 := F9.stepL hs3 (by decide); have q39 := kpL hs3 (by decide) (sm3 0 (by decide)) q35; have q40 := kpL hs3 (by decide) (sm3 9 (by decide)) q36; have q41 := kpL hs3 (by decide) (sm3 10 (by decide)) q37; have q42 := kpL hs3 (by decide) (sm3 26 (by decide)) q38
  have q43 : At (Ty.lst Ty.ints (g1)) s10 a10 (.tmp 32) := r3
  clear r3
  refine tL (R := (fun v τ => Pr.has (Ty.pr (Ty.lst Ty.ints (g2))) τ v)) ok10 (Yld.toL (y_ext2_1 q42)) fun a11 s11 hs4 ok11 r4 sm4 => ?_
  have F11 := F10.stepL hs4 (by decide); have q44 := kpL hs4 (by decide) (sm4 0 (by decide)) q39; have q45 := kpL hs4 (by decide) (sm4 9 (by decide)) q40; have q46 := kpL hs4 (by decide) (sm4 10 (by decide)) q41; have q47 := kpL hs4 (by decide) (sm4 32 (by decide)) q43
  have q48 : At (Ty.lst Ty.ints (g2)) s11 a11 (.tmp 33) := r4
  clear r4
  refine tL ok11 (Yld.toL (y_as q47)) fun a12 s12 hs5 ok12 r5 sm5 => ?_
  have F12 := F11.stepL hs5 (by decide); have q49 := kpL hs5 (by decide) (sm5 0 (by decide)) q44; have q50 := kpL hs5 (by decide) (sm5 9 (by decide)) q45; have q51 := kpL hs5 (by decide) (sm5 10 (by decide)) q46; have q52 := kpL hs5 (by decide) (sm5 33 (by decide)) q48
  have q53 : At (Ty.lst Ty.ints (g1)) s12 a12 (.tmp 11) := r5
  clear r5
  refine tL ok12 (Yld.toL (y_as q52)) fun a13 s13 hs6 ok13 r6 sm6 => ?_
  have F13 := F12.stepL hs6 (by decide); have q54 := kpL hs6 (by decide) (sm6 0 (by decide)) q49; have q55 := kpL hs6 (by decide) (sm6 9 (by decide)) q50; have q56 := kpL hs6 (by decide) (sm6 10 (by decide)) q51; have q57 := kpL hs6 (by decide) (sm6 11 (by decide)) q53
  have q58 : At (Ty.lst Ty.ints (g2)) s13 a13 (.tmp 12) := r6
  clear r6; refine wpList_nil (tn (wp_seq ?_))
  obtain ⟨hRn, hRm⟩ := ClosedP.few hN12 hG hp1 (by omega)
  have hRl := few_rows hRn (fun z hz => ((hRm z).1 hz).row hN12 hG)
  have hEO := elts_of hN12 hG hRn hRm
  have hol := ordS_len g1
  refine gI a13 s13 ok13 (gM q57 (gS rfl (fun A B E G H d0 => rP (y_call _ Try.func25 rfl rfl my1 (rOrdered_fn (((g1)).length) ((g1)) _ _ (ed d0 rfl rfl rfl) (by first | omega | assumption) (by first | omega | assumption)))) (gM q55 (gM q56 (gE2 ok13 fun a14 s14 ok14 D8 => ?_))))); have q62 := D8.dn 1 (by decide) rfl rfl
  have b3 := sl_le q62
  refine tL ok14 (y_callL (L := []) [] [] _ rfl (by decide) Try.func28 rfl rfl my3 (rQsets_fn (N) ([X, Y]) ((ordS ((g1)))) (X) (Y) _ (GW.low_lend _ (by decide)) _ _ _ (Ty.up _ (GW.le_lend _ _) q62) (Ty.up _ (GW.le_lend _ _) (D8.dn 2 (by decide) rfl rfl)) (Ty.up _ (GW.le_lend _ _) (D8.dn 3 (by decide) rfl rfl))  (by first | omega | assumption | exact hyr.row) (by first | omega | assumption | exact hyr.row) (by first | omega | assumption | exact hyr.row) (by first | omega | assumption | exact hyr.row) (by first | omega | assumption | exact hyr.row) (by first | omega | assumption | exact hyr.row))) fun a15 s15 hs7 ok15 r7 sm7 => ?_
  have F15 := (F13.step0 D8.stp).stepL hs7 (by decide); have q65 := kpL hs7 (by decide) (sm7 0 (by decide)) (D8.kt q54 rfl); have q66 := kpL hs7 (by decide) (sm7 9 (by decide)) (D8.kt q55 rfl); have q67 := kpL hs7 (by decide) (sm7 10 (by decide)) (D8.kt q56 rfl)
  obtain ⟨t2, ⟨g3, hT2, hp2⟩, B2⟩ := r7
  have q68 : At (Ty.lst Ty.ints (g3)) s15 a15 (.tmp 38) := Ty.up _ B2.le hT2
  refine tL ok15 (Yld.toL (y_as q68)) fun a16 s16 hs8 ok16 r8 sm8 => ?_
  have F16 := F15.stepL hs8 (by decide); have q69 := kpL hs8 (by decide) (sm8 0 (by decide)) q65; have q70 := kpL hs8 (by decide) (sm8 9 (by decide)) q66; have q71 := kpL hs8 (by decide) (sm8 10 (by decide)) q67
  have q72 : At (Ty.lst Ty.ints (g3)) s16 a16 (.tmp 13) := r8
  clear r8; refine wpList_nil (tn (wp_seq ?_))
  have hQl := hp2.len
  refine gI a16 s16 ok16 (gM q70 (gM q71 (gM q69 (gM q72 (gS rfl (fun A B E G H d0 => rP (y_len Try.underlying24 (ed d0 rfl rfl rfl))) (gS rfl (fun A B E G H d0 d1 => rP (y_call #[A.eval (.tmp 41), A.eval (.tmp 43), A.eval ((Operand.const (Value.int IntKind.i64 2)))] Try.func32 rfl rfl my3 (rLeadsOf_fn (raw) ((List.length (g3))) (2) _ _ _ _ (ed d0 rfl rfl rfl) (cvi (σ := B) (by first | omega | assumption) (ed d1 rfl rfl rfl)) (cvi (σ := B) (by first | omega | assumption) rfl) (by first | omega | assumption) (by first | omega | assumption) (by first | omega | assumption)))) (gS rfl (fun A B E G H d0 d1 d2 d3 => rP (y_call _ Try.func4 rfl rfl my3 (extentSays_fn (X) (Y) ((leadsOf raw ((List.length (g3))) (2))) _ _ _ _ (ed d0 rfl rfl rfl) (ed d1 rfl rfl rfl) (ed d2 rfl rfl rfl) ))) (gB 0 (gE ok16 fun a17 s17 ok17 D9 => ?_))))))))); refine tn (wp_ret ?_)
  exact retL1 rfl ok17 (F16.step0 D9.stp) (D9.dn 7 rfl rfl)


end Go.Proofs.Ytkjifbgofckfeaa
