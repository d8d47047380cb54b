/- The functions that the law ExtentSays reaches, each by its contract. Part 9. -/
import Derived.Test.YtkjifbgofckfeaaExtentSaysW8
namespace Go.Proofs.Ytkjifbgofckfeaa
open Go.KL

set_option maxHeartbeats 4000000 in
set_option maxRecDepth 100000 in
theorem xSaysB_fn (ra : List Int) (rb : List Int) (ch : List Int) (σ : GW)  (v0 v1 v2 : Value) (hv0 : Ty.has (Ty.lst Ty.int ra) σ v0) (hv1 : Ty.has (Ty.lst Ty.int rb) σ v1) (hv2 : Ty.has (Ty.lst Ty.int ch) σ v2)  (hM : gensMay ((ra.length : Nat) : Int) [ra, rb] = 0) (hsz : 200 < szTo ra.length (fun z => z ∈ [ra, rb]) ra.length ∧ szTo ra.length (fun z => z ∈ [ra, rb]) ra.length ≤ 5040) :
    FnC Try.prog 4 #[v0, v1, v2] σ (Ty.bool true) := by
 have hT2 := TwoP.of hM
 have hn := hT2.hn
 have hG := hT2.g
 have hra := hT2.cx
 have hrb := hT2.cy
 have hl8 : [ra, rb].length ≤ 8 := (by simp)
 have hsb := szTo_bd (n := ra.length) (S := fun z => z ∈ [ra, rb]) (k := ra.length) hn.2
 refine fn_intro0 Try.func4 rfl Try.ntmps4 (Nat.le_of_ble_eq_true rfl) (fun s0 a0 hle F0 ok0 hargs => ?_)
 have p0 := pA hle (hargs 0 _ rfl) hv0
 have b1 := sl_le p0
 have p1 := pA hle (hargs 1 _ rfl) hv1
 have b2 := sl_le p1
 have p2 := pA hle (hargs 2 _ rfl) hv2
 have b3 := sl_le p2
 clear hargs; refine wp_seq ?_
 refine gI a0 s0 ok0 (gC (Ty.bool false) (gE ok0 fun a1 s1 ok1 D1 => ?_)); have q1 := D1.kt p0 rfl; have q2 := D1.kt p1 rfl; refine tn (wp_seq ?_)
 refine gI a1 s1 ok1 (gM q1 (gS rfl (fun A B G H I d0 => rP (y_len Try.underlying22 (ed d0 rfl rfl rfl))) (gM q1 (gM q2 (gT (Ty.sl 1 2 [(Ty.lst Ty.int ra), (Ty.lst Ty.int rb)]) rfl (fun A B G H I d0 d1 => rP (y_build2 Try.underlying24 Try.inf22 rfl (one_sl) (one_sl) (ed d0 rfl rfl rfl) (ed d1 rfl rfl rfl))) (gS rfl (fun A B G H I d0 d1 => rP (y_call _ Try.func24 rfl rfl my2 (rGensMay_fn ((((List.length ra) : Nat) : Int)) ([ra, rb]) _ _ _ (cvi (σ := B) (by omega) (ed d0 rfl rfl rfl)) (ed d1 rfl rfl rfl) ))) (gB 0 (gE ok1 fun a2 s2 ok2 D2 => ?_)))))))); refine tn (wp_seq ?_)
 refine gI a2 s2 ok2 (gC (Ty.val (Value.slice none 0 0)) (gE ok2 fun a3 s3 ok3 D3 => ?_)); refine tn (wp_seq (wp_seq ?_))
 refine gI a3 s3 ok3 (gM (D3.kt (D2.dn 6 rfl rfl) rfl) (gS rfl (fun A B G H I d0 => rP (y_eql (ed d0 rfl rfl rfl) rfl)) (gE ok3 fun a4 s4 ok4 D4 => ?_))); have q13 := D4.kt (D3.kt (D2.kt q1 rfl) rfl) rfl; refine tn ?_
 refine cond_p (p := ((gensMay ((((List.length ra) : Nat) : Int)) ([ra, rb])) = (0 : Int))) (D4.dn 1 rfl rfl) (fun c1 => ?_) (fun c1 => ?_)
 ·
  refine wp_seq ?_
  refine gI a4 s4 ok4 (gM q13 (gS rfl (fun A B G H I d0 => rP (y_len Try.underlying22 (ed d0 rfl rfl rfl))) (gM q13 (gM (D4.kt (D3.kt (D2.kt q2 rfl) rfl) rfl) (gT (Ty.sl 1 2 [(Ty.lst Ty.int ra), (Ty.lst Ty.int rb)]) rfl (fun A B G H I d0 d1 => rP (y_build2 Try.underlying24 Try.inf22 rfl (one_sl) (one_sl) (ed d0 rfl rfl rfl) (ed d1 rfl rfl rfl))) (gS rfl (fun A B G H I d0 d1 => rP (y_call _ Try.func20 rfl rfl my2 (rSizes_fn ((List.length ra)) ([ra, rb]) _ _ _ (cvi (σ := B) (by first | omega | assumption | exact hst1) (ed d0 rfl rfl rfl)) (ed d1 rfl rfl rfl) (by first | omega | assumption | exact hst1) (by first | omega | assumption | exact hst1) (by first | omega | assumption | exact hst1)))) (gB 0 (gE ok4 fun a5 s5 ok5 D5 => ?_)))))))); have q24 := D5.dn 6 rfl rfl; refine tn (wp_seq (wp_seq ?_))
  refine gI a5 s5 ok5 (gM q24 (gS rfl (fun A B G H I d0 => rP (y_gtr (ed d0 rfl rfl rfl) rfl)) (gS rfl (fun A B G H I d0 => rP (y_move (ed d0 rfl rfl rfl))) (gS rfl (fun A B G H I d0 => gu H (ed d0 rfl rfl rfl) fun hg => y_move (kp (I 9 rfl) G q24)) (gS rfl (fun A B G H I d0 d1 => gu H (ed d1 rfl rfl rfl) fun hg => y_lss ((ed d0 rfl rfl rfl).1 hg) rfl) (gS rfl (fun A B G H I d0 d1 => rP (y_pick_and (ed d0 rfl rfl rfl) (ed d1 rfl rfl rfl) rfl)) (gE ok5 fun a6 s6 ok6 D6 => ?_))))))); refine tn ?_
  refine cond_t (D6.dn 5 rfl rfl) (fun c2 => ?_) (fun c2 => ?_)
  ·
   obtain ⟨d1, d2⟩ := Bool.and_eq_true_iff.mp c2
   replace d1 := of_decide_eq_true d1
   replace d2 := of_decide_eq_true d2
   refine wp_seq ?_
   refine gI a6 s6 ok6 (gC (Ty.bool true) (gE ok6 fun a7 s7 ok7 D7 => ?_)); refine tn (wp_ret (tr (tr ?_)))
   exact retL1 rfl ok7 (((((((F0.step0 D1.stp).step0 D2.stp).step0 D3.stp).step0 D4.stp).step0 D5.stp).step0 D6.stp).step0 D7.stp) (D7.dn 0 rfl rfl)
  ·
   exfalso
   simp only [Bool.and_eq_false_iff, decide_eq_false_iff_not] at c2; omega
 ·
  exfalso
  exact c1 hM


set_option maxHeartbeats 4000000 in
set_option maxRecDepth 100000 in
theorem xSaysC_fn (ra : List Int) (rb : List Int) (ch : List Int) (σ : GW)  (v0 v1 v2 : Value) (hv0 : Ty.has (Ty.lst Ty.int ra) σ v0) (hv1 : Ty.has (Ty.lst Ty.int rb) σ v1) (hv2 : Ty.has (Ty.lst Ty.int ch) σ v2)  (hM : gensMay ((ra.length : Nat) : Int) [ra, rb] = 0) (hsz : szTo ra.length (fun z => z ∈ [ra, rb]) ra.length ≤ 200) :
    FnC Try.prog 4 #[v0, v1, v2] σ (Ty.bool true) := by
 have hT2 := TwoP.of hM
 have hn := hT2.hn
 have hG := hT2.g
 have hra := hT2.cx
 have hrb := hT2.cy
 have hl8 : [ra, rb].length ≤ 8 := (by simp)
 have hS : szTo ra.length (fun z => z ∈ [ra, rb]) ra.length ≤ 5040 := (by omega)
 have hsb := szTo_bd (n := ra.length) (S := fun z => z ∈ [ra, rb]) (k := ra.length) hn.2
 refine fn_intro0 Try.func4 rfl Try.ntmps4 (Nat.le_of_ble_eq_true rfl) (fun s0 a0 hle F0 ok0 hargs => ?_)
 have p0 := pA hle (hargs 0 _ rfl) hv0
 have b1 := sl_le p0
 have p1 := pA hle (hargs 1 _ rfl) hv1
 have b2 := sl_le p1
 have p2 := pA hle (hargs 2 _ rfl) hv2
 have b3 := sl_le p2
 clear hargs; refine wp_seq ?_
 refine gI a0 s0 ok0 (gC (Ty.bool false) (gE ok0 fun a1 s1 ok1 D1 => ?_)); have q1 := D1.kt p0 rfl; have q2 := D1.kt p1 rfl; refine tn (wp_seq ?_)
 refine gI a1 s1 ok1 (gM q1 (gS rfl (fun A B G H I d0 => rP (y_len Try.underlying22 (ed d0 rfl rfl rfl))) (gM q1 (gM q2 (gT (Ty.sl 1 2 [(Ty.lst Ty.int ra), (Ty.lst Ty.int rb)]) rfl (fun A B G H I d0 d1 => rP (y_build2 Try.underlying24 Try.inf22 rfl (one_sl) (one_sl) (ed d0 rfl rfl rfl) (ed d1 rfl rfl rfl))) (gS rfl (fun A B G H I d0 d1 => rP (y_call _ Try.func24 rfl rfl my2 (rGensMay_fn ((((List.length ra) : Nat) : Int)) ([ra, rb]) _ _ _ (cvi (σ := B) (by omega) (ed d0 rfl rfl rfl)) (ed d1 rfl rfl rfl) ))) (gB 0 (gE ok1 fun a2 s2 ok2 D2 => ?_)))))))); refine tn (wp_seq ?_)
 refine gI a2 s2 ok2 (gC (Ty.val (Value.slice none 0 0)) (gE ok2 fun a3 s3 ok3 D3 => ?_)); have q11 := D3.kt (D2.dn 6 rfl rfl) rfl; refine tn (wp_seq (wp_seq ?_))
 refine gI a3 s3 ok3 (gM q11 (gS rfl (fun A B G H I d0 => rP (y_eql (ed d0 rfl rfl rfl) rfl)) (gE ok3 fun a4 s4 ok4 D4 => ?_))); have q13 := D4.kt (D3.kt (D2.kt q1 rfl) rfl) rfl; have q14 := D4.kt (D3.kt (D2.kt q2 rfl) rfl) rfl; refine tn ?_
 refine cond_p (p := ((gensMay ((((List.length ra) : Nat) : Int)) ([ra, rb])) = (0 : Int))) (D4.dn 1 rfl rfl) (fun c1 => ?_) (fun c1 => ?_)
 ·
  refine wp_seq ?_
  refine gI a4 s4 ok4 (gM q13 (gS rfl (fun A B G H I d0 => rP (y_len Try.underlying22 (ed d0 rfl rfl rfl))) (gM q13 (gM q14 (gT (Ty.sl 1 2 [(Ty.lst Ty.int ra), (Ty.lst Ty.int rb)]) rfl (fun A B G H I d0 d1 => rP (y_build2 Try.underlying24 Try.inf22 rfl (one_sl) (one_sl) (ed d0 rfl rfl rfl) (ed d1 rfl rfl rfl))) (gS rfl (fun A B G H I d0 d1 => rP (y_call _ Try.func20 rfl rfl my2 (rSizes_fn ((List.length ra)) ([ra, rb]) _ _ _ (cvi (σ := B) (by first | omega | assumption | exact hst1) (ed d0 rfl rfl rfl)) (ed d1 rfl rfl rfl) (by first | omega | assumption | exact hst1) (by first | omega | assumption | exact hst1) (by first | omega | assumption | exact hst1)))) (gB 0 (gE ok4 fun a5 s5 ok5 D5 => ?_)))))))); have q24 := D5.dn 6 rfl rfl; refine tn (wp_seq (wp_seq ?_))
  refine gI a5 s5 ok5 (gM q24 (gS rfl (fun A B G H I d0 => rP (y_gtr (ed d0 rfl rfl rfl) rfl)) (gS rfl (fun A B G H I d0 => rP (y_move (ed d0 rfl rfl rfl))) (gS rfl (fun A B G H I d0 => gu H (ed d0 rfl rfl rfl) fun hg => y_move (kp (I 9 rfl) G q24)) (gS rfl (fun A B G H I d0 d1 => gu H (ed d1 rfl rfl rfl) fun hg => y_lss ((ed d0 rfl rfl rfl).1 hg) rfl) (gS rfl (fun A B G H I d0 d1 => rP (y_pick_and (ed d0 rfl rfl rfl) (ed d1 rfl rfl rfl) rfl)) (gE ok5 fun a6 s6 ok6 D6 => ?_))))))); refine tn ?_
  refine cond_t (D6.dn 5 rfl rfl) (fun c2 => ?_) (fun c2 => ?_)
  ·
   exfalso
   simp only [Bool.and_eq_true, decide_eq_true_eq] at c2; omega
  ·
   refine wp_skip (tn (wp_seq ?_))
   refine gI a6 s6 ok6 (gM (D6.kt q24 rfl) (gS rfl (fun A B G H I d0 => rP (y_gtr (ed d0 rfl rfl rfl) rfl)) (gE ok6 fun a7 s7 ok7 D7 => ?_))); have q32 := D7.kt (D6.kt (D5.kt q13 rfl) rfl) rfl; have q33 := D7.kt (D6.kt (D5.kt q14 rfl) rfl) rfl; refine tn ?_
   refine cond_p (p := ((5040 : Int) < (((szTo ((List.length ra)) (fun y => y ∈ ([ra, rb])) ((List.length ra))) : Nat) : Int))) (D7.dn 1 rfl rfl) (fun c3 => ?_) (fun c3 => ?_)
   ·
    exfalso
    omega
   ·
    refine wp_seq ?_
    refine gI a7 s7 ok7 (gM q32 (gS rfl (fun A B G H I d0 => rP (y_len Try.underlying22 (ed d0 rfl rfl rfl))) (gM q32 (gM q33 (gT (Ty.sl 1 2 [(Ty.lst Ty.int ra), (Ty.lst Ty.int rb)]) rfl (fun A B G H I d0 d1 => rP (y_build2 Try.underlying24 Try.inf22 rfl (one_sl) (one_sl) (ed d0 rfl rfl rfl) (ed d1 rfl rfl rfl))) (gE2 ok7 fun a8 s8 ok8 D8 => ?_)))))); have q44 := D8.dn 4 (by decide) rfl rfl
    have b4 := sl_le q44
    refine tL ok8 (y_callL (L := []) [] [] #[a8.eval (.tmp 40), a8.eval (.tmp 43), a8.eval ((Operand.const (Value.int IntKind.i64 5040)))] rfl (by decide) Try.func19 rfl rfl my3 (rClosed_fn ((List.length ra)) ([ra, rb]) (5040) _ (GW.low_lend _ (by decide)) _ _ _ (Ty.up _ (GW.le_lend _ _) (cvi (σ := s8) (by first | omega | assumption) (D8.dn 1 (by decide) rfl rfl))) (Ty.up _ (GW.le_lend _ _) q44) (Ty.up _ (GW.le_lend _ _) (cvi (σ := s8) (by first | omega | assumption) rfl))  (by first | omega | assumption) (by first | omega | assumption) (by first | omega | assumption) (by first | omega | assumption))) fun a9 s9 hs1 ok9 r1 sm1 => ?_
    have F9 := ((((((((F0.step0 D1.stp).step0 D2.stp).step0 D3.stp).step0 D4.stp).step0 D5.stp).step0 D6.stp).step0 D7.stp).step0 D8.stp).stepL hs1 (by decide); have q45 := kpL hs1 (by decide) (sm1 0 (by decide)) (D8.kt q32 rfl); have q46 := kpL hs1 (by decide) (sm1 1 (by decide)) (D8.kt q33 rfl); have q47 := kpL hs1 (by decide) (sm1 2 (by decide)) (D8.kt (D7.kt (D6.kt (D5.kt (D4.kt (D3.kt (D2.kt (D1.kt p2 rfl) rfl) rfl) rfl) rfl) rfl) rfl) rfl); have q48 := kpL hs1 (by decide) (sm1 7 (by decide)) (D8.kt (D7.kt (D6.kt (D5.kt (D4.kt q11 rfl) rfl) rfl) rfl) rfl); have q49 := kpL hs1 (by decide) (sm1 8 (by decide)) (D8.kt (D7.kt (D6.kt (D5.kt (D4.kt (D3.dn 0 rfl rfl) rfl) rfl) rfl) rfl) rfl)
    obtain ⟨t1, ⟨g1, g2, hT1, hp1⟩, B1⟩ := r1
    have q50 : At (Ty.tup2 (Ty.lst Ty.ints (g1)) (Ty.lst Ty.ints (g2))) s9 a9 (.tmp 44) := Ty.up _ B1.le hT1
    refine tL ok9 (Yld.toL (y_mv q50)) fun a10 s10 hs2 ok10 r2 sm2 => ?_
    have F10 := F9.stepL hs2 (by decide); have q51 := kpL hs2 (by decide) (sm2 0 (by decide)) q45; have q52 := kpL hs2 (by decide) (sm2 1 (by decide)) q46; have q53 := kpL hs2 (by decide) (sm2 2 (by decide)) q47; have q54 := kpL hs2 (by decide) (sm2 7 (by decide)) q48; have q55 := kpL hs2 (by decide) (sm2 8 (by decide)) q49
    have q56 : At (Ty.tup2 (Ty.lst Ty.ints (g1)) (Ty.lst Ty.ints (g2))) s10 a10 (.tmp 38) := r2
    clear r2
    refine tL (R := (fun v τ => Pr.has (Ty.pr (Ty.lst Ty.ints (g1))) τ v)) ok10 (Yld.toL (y_ext2_0 q56)) fun a11 s11 hs3 ok11 r3 sm3 => ?_
    have F11 := F10.stepL hs3 (by decide); have q57 := kpL hs3 (by decide) (sm3 0 (by decide)) q51; have q58 := kpL hs3 (by decide) (sm3 1 (by decide)) q52; have q59 := kpL hs3 (by decide) (sm3 2 (by decide)) q53; have q60 := kpL hs3 (by decide) (sm3 7 (by decide)) q54; have q61 := kpL hs3 (by decide) (sm3 8 (by decide)) q55; have q62 := kpL hs3 (by decide) (sm3 38 (by decide)) q56
    have q63 : At (Ty.lst Ty.ints (g1)) s11 a11 (.tmp 45) := r3
    clear r3
    refine tL (R := (fun v τ => Pr.has (Ty.pr (Ty.lst Ty.ints (g2))) τ v)) ok11 (Yld.toL (y_ext2_1 q62)) fun a12 s12 hs4 ok12 r4 sm4 => ?_
    have F12 := F11.stepL hs4 (by decide); have q64 := kpL hs4 (by decide) (sm4 0 (by decide)) q57; have q65 := kpL hs4 (by decide) (sm4 1 (by decide)) q58; have q66 := kpL hs4 (by decide) (sm4 2 (by decide)) q59; have q67 := kpL hs4 (by decide) (sm4 7 (by decide)) q60; have q68 := kpL hs4 (by decide) (sm4 8 (by decide)) q61; have q69 := kpL hs4 (by decide) (sm4 45 (by decide)) q63
    have q70 : At (Ty.lst Ty.ints (g2)) s12 a12 (.tmp 46) := r4
    clear r4
    refine tL ok12 (Yld.toL (y_as q69)) fun a13 s13 hs5 ok13 r5 sm5 => ?_
    have F13 := F12.stepL hs5 (by decide); have q71 := kpL hs5 (by decide) (sm5 0 (by decide)) q64; have q72 := kpL hs5 (by decide) (sm5 1 (by decide)) q65; have q73 := kpL hs5 (by decide) (sm5 2 (by decide)) q66; have q74 := kpL hs5 (by decide) (sm5 7 (by decide)) q67
    have q75 : At (Ty.lst Ty.ints (g1)) s13 a13 (.tmp 8) := r5
    clear r5; refine wpList_nil (tn ?_)
    have hR1 := hp1.lim
    refine gI a13 s13 ok13 (gM q75 (gS rfl (fun A B G H I d0 => rP (y_call _ Try.func25 rfl rfl my1 (rOrdered_fn (((g1)).length) ((g1)) _ _ (ed d0 rfl rfl rfl) (by first | omega | assumption) (by first | omega | assumption)))) (gB 0 (gE ok13 fun a14 s14 ok14 D9 => ?_)))); have q76 := D9.kt q71 rfl; have q77 := D9.kt q72 rfl; refine tn (wp_seq ?_)
    refine gI a14 s14 ok14 (gM q76 (gM q77 (gE2 ok14 fun a15 s15 ok15 D10 => ?_)))
    refine tL ok15 (y_callL (L := []) [] [] _ rfl (by decide) Try.func26 rfl rfl my2 (xQsets_fn (ra) (rb) _ (GW.low_lend _ (by decide)) _ _ (Ty.up _ (GW.le_lend _ _) (D10.dn 0 (by decide) rfl rfl)) (Ty.up _ (GW.le_lend _ _) (D10.dn 1 (by decide) rfl rfl))  (by first | omega | assumption) (by first | omega | assumption))) fun a16 s16 hs6 ok16 r6 sm6 => ?_
    have F16 := ((F13.step0 D9.stp).step0 D10.stp).stepL hs6 (by decide); have q88 := kpL hs6 (by decide) (sm6 0 (by decide)) (D10.kt q76 rfl); have q89 := kpL hs6 (by decide) (sm6 1 (by decide)) (D10.kt q77 rfl); have q90 := kpL hs6 (by decide) (sm6 2 (by decide)) (D10.kt (D9.kt q73 rfl) rfl); have q91 := kpL hs6 (by decide) (sm6 7 (by decide)) (D10.kt (D9.kt q74 rfl) rfl); have q92 := kpL hs6 (by decide) (sm6 8 (by decide)) (D10.kt (D9.dn 2 rfl rfl) rfl)
    obtain ⟨t2, ⟨g3, g4, hT2, hp2, hp3⟩, B2⟩ := r6
    have q93 : At (Ty.tup2 (Ty.lst Ty.ints (g4)) (Ty.int (0 : Int))) s16 a16 (.tmp 52) := Ty.up _ B2.le hT2
    refine tL ok16 (Yld.toL (y_mv q93)) fun a17 s17 hs7 ok17 r7 sm7 => ?_
    have F17 := F16.stepL hs7 (by decide); have q94 := kpL hs7 (by decide) (sm7 0 (by decide)) q88; have q95 := kpL hs7 (by decide) (sm7 1 (by decide)) q89; have q96 := kpL hs7 (by decide) (sm7 2 (by decide)) q90; have q97 := kpL hs7 (by decide) (sm7 7 (by decide)) q91; have q98 := kpL hs7 (by decide) (sm7 8 (by decide)) q92
    have q99 : At (Ty.tup2 (Ty.lst Ty.ints (g4)) (Ty.int (0 : Int))) s17 a17 (.tmp 49) := r7
    clear r7
    refine tL (R := (fun v τ => Pr.has (Ty.pr (Ty.lst Ty.ints (g4))) τ v)) ok17 (Yld.toL (y_ext2_0 q99)) fun a18 s18 hs8 ok18 r8 sm8 => ?_
    have F18 := F17.stepL hs8 (by decide); have q100 := kpL hs8 (by decide) (sm8 0 (by decide)) q94; have q101 := kpL hs8 (by decide) (sm8 1 (by decide)) q95; have q102 := kpL hs8 (by decide) (sm8 2 (by decide)) q96; have q103 := kpL hs8 (by decide) (sm8 7 (by decide)) q97; have q104 := kpL hs8 (by decide) (sm8 8 (by decide)) q98; have q105 := kpL hs8 (by decide) (sm8 49 (by decide)) q99
    have q106 : At (Ty.lst Ty.ints (g4)) s18 a18 (.tmp 53) := r8
    clear r8
    refine tL (R := (fun v τ => Pr.has (Ty.pr (Ty.int (0 : Int))) τ v)) ok18 (Yld.toL (y_ext2_1 q105)) fun a19 s19 hs9 ok19 r9 sm9 => ?_
    have F19 := F18.stepL hs9 (by decide); have q107 := kpL hs9 (by decide) (sm9 0 (by decide)) q100; have q108 := kpL hs9 (by decide) (sm9 1 (by decide)) q101; have q109 := kpL hs9 (by decide) (sm9 2 (by decide)) q102; have q110 := kpL hs9 (by decide) (sm9 7 (by decide)) q103; have q111 := kpL hs9 (by decide) (sm9 8 (by decide)) q104; have q112 := kpL hs9 (by decide) (sm9 53 (by decide)) q106
    have q113 : At (Ty.int (0 : Int)) s19 a19 (.tmp 54) := r9
    clear r9
    refine tL ok19 (Yld.toL (y_as q112)) fun a20 s20 hs10 ok20 r10 sm10 => ?_
    have F20 := F19.stepL hs10 (by decide); have q114 := kpL hs10 (by decide) (sm10 0 (by decide)) q107; have q115 := kpL hs10 (by decide) (sm10 1 (by decide)) q108; have q116 := kpL hs10 (by decide) (sm10 2 (by decide)) q109; have q117 := kpL hs10 (by decide) (sm10 7 (by decide)) q110; have q118 := kpL hs10 (by decide) (sm10 8 (by decide)) q111; have q119 := kpL hs10 (by decide) (sm10 54 (by decide)) q113
    have q120 : At (Ty.lst Ty.ints (g4)) s20 a20 (.tmp 10) := r10
    clear r10
    refine tL ok20 (Yld.toL (y_as q119)) fun a21 s21 hs11 ok21 r11 sm11 => ?_
    have F21 := F20.stepL hs11 (by decide); have q121 := kpL hs11 (by decide) (sm11 0 (by decide)) q114; have q122 := kpL hs11 (by decide) (sm11 1 (by decide)) q115; have q123 := kpL hs11 (by decide) (sm11 2 (by decide)) q116; have q124 := kpL hs11 (by decide) (sm11 7 (by decide)) q117; have q125 := kpL hs11 (by decide) (sm11 8 (by decide)) q118; have q126 := kpL hs11 (by decide) (sm11 10 (by decide)) q120
    have q127 : At (Ty.int (0 : Int)) s21 a21 (.tmp 11) := r11
    clear r11; refine wpList_nil (tn (wp_seq ?_))
    refine gI a21 s21 ok21 (gM q121 (gM q122 (gM q123 (gE2 ok21 fun a22 s22 ok22 D11 => ?_))))
    refine tL ok22 (y_callL (L := []) [] [] _ rfl (by decide) Try.func27 rfl rfl my3 (xRounds_fn (ra) (rb) (ch) _ (GW.low_lend _ (by decide)) _ _ _ (Ty.up _ (GW.le_lend _ _) (D11.dn 0 (by decide) rfl rfl)) (Ty.up _ (GW.le_lend _ _) (D11.dn 1 (by decide) rfl rfl)) (Ty.up _ (GW.le_lend _ _) (D11.dn 2 (by decide) rfl rfl))  (by first | omega | assumption) (by first | omega | assumption))) fun a23 s23 hs12 ok23 r12 sm12 => ?_
    have F23 := (F21.step0 D11.stp).stepL hs12 (by decide); have q138 := kpL hs12 (by decide) (sm12 0 (by decide)) (D11.kt q121 rfl); have q139 := kpL hs12 (by decide) (sm12 1 (by decide)) (D11.kt q122 rfl); have q140 := kpL hs12 (by decide) (sm12 2 (by decide)) (D11.kt q123 rfl); have q141 := kpL hs12 (by decide) (sm12 7 (by decide)) (D11.kt q124 rfl); have q142 := kpL hs12 (by decide) (sm12 8 (by decide)) (D11.kt q125 rfl); have q143 := kpL hs12 (by decide) (sm12 10 (by decide)) (D11.kt q126 rfl); have q144 := kpL hs12 (by decide) (sm12 11 (by decide)) (D11.kt q127 rfl)
    obtain ⟨t3, ⟨g5, g6, hT3, hp4, hp5⟩, B3⟩ := r12
    have q145 : At (Ty.tup2 (Ty.nat (rndN (g5) ra rb (g6) ch)) (Ty.int (rndE (g6) ch))) s23 a23 (.tmp 59) := Ty.up _ B3.le hT3
    refine tL ok23 (Yld.toL (y_mv q145)) fun a24 s24 hs13 ok24 r13 sm13 => ?_
    have F24 := F23.stepL hs13 (by decide); have q146 := kpL hs13 (by decide) (sm13 0 (by decide)) q138; have q147 := kpL hs13 (by decide) (sm13 1 (by decide)) q139; have q148 := kpL hs13 (by decide) (sm13 2 (by decide)) q140; have q149 := kpL hs13 (by decide) (sm13 7 (by decide)) q141; have q150 := kpL hs13 (by decide) (sm13 8 (by decide)) q142; have q151 := kpL hs13 (by decide) (sm13 10 (by decide)) q143; have q152 := kpL hs13 (by decide) (sm13 11 (by decide)) q144
    have q153 : At (Ty.tup2 (Ty.nat (rndN (g5) ra rb (g6) ch)) (Ty.int (rndE (g6) ch))) s24 a24 (.tmp 55) := r13
    clear r13
    refine tL (R := (fun v τ => Pr.has (Ty.pr (Ty.nat (rndN (g5) ra rb (g6) ch))) τ v)) ok24 (Yld.toL (y_ext2_0 q153)) fun a25 s25 hs14 ok25 r14 sm14 => ?_
    have F25 := F24.stepL hs14 (by decide); have q154 := kpL hs14 (by decide) (sm14 0 (by decide)) q146; have q155 := kpL hs14 (by decide) (sm14 1 (by decide)) q147; have q156 := kpL hs14 (by decide) (sm14 2 (by decide)) q148; have q157 := kpL hs14 (by decide) (sm14 7 (by decide)) q149; have q158 := kpL hs14 (by decide) (sm14 8 (by decide)) q150; have q159 := kpL hs14 (by decide) (sm14 10 (by decide)) q151; have q160 := kpL hs14 (by decide) (sm14 11 (by decide)) q152; have q161 := kpL hs14 (by decide) (sm14 55 (by decide)) q153
    have q162 : At (Ty.nat (rndN (g5) ra rb (g6) ch)) s25 a25 (.tmp 60) := r14
    clear r14
    refine tL (R := (fun v τ => Pr.has (Ty.pr (Ty.int (rndE (g6) ch))) τ v)) ok25 (Yld.toL (y_ext2_1 q161)) fun a26 s26 hs15 ok26 r15 sm15 => ?_
    have F26 := F25.stepL hs15 (by decide); have q163 := kpL hs15 (by decide) (sm15 0 (by decide)) q154; have q164 := kpL hs15 (by decide) (sm15 1 (by decide)) q155; have q165 := kpL hs15 (by decide) (sm15 2 (by decide)) q156; have q166 := kpL hs15 (by decide) (sm15 7 (by decide)) q157; have q167 := kpL hs15 (by decide) (sm15 8 (by decide)) q158; have q168 := kpL hs15 (by decide) (sm15 10 (by decide)) q159; have q169 := kpL hs15 (by decide) (sm15 11 (by decide)) q160; have q170 := kpL hs15 (by decide) (sm15 60 (by decide)) q162
    have q171 : At (Ty.int (rndE (g6) ch)) s26 a26 (.tmp 61) := r15
    clear r15
    refine tL ok26 (Yld.toL (y_as q170)) fun a27 s27 hs16 ok27 r16 sm16 => ?_
    have F27 := F26.stepL hs16 (by decide); have q172 := kpL hs16 (by decide) (sm16 0 (by decide)) q163; have q173 := kpL hs16 (by decide) (sm16 1 (by decide)) q164; have q174 := kpL hs16 (by decide) (sm16 2 (by decide)) q165; have q175 := kpL hs16 (by decide) (sm16 7 (by decide)) q166; have q176 := kpL hs16 (by decide) (sm16 8 (by decide)) q167; have q177 := kpL hs16 (by decide) (sm16 10 (by decide)) q168; have q178 := kpL hs16 (by decide) (sm16 11 (by decide)) q169; have q179 := kpL hs16 (by decide) (sm16 61 (by decide)) q171
    have q180 : At (Ty.nat (rndN (g5) ra rb (g6) ch)) s27 a27 (.tmp 12) := r16
    clear r16
    refine tL ok27 (Yld.toL (y_as q179)) fun a28 s28 hs17 ok28 r17 sm17 => ?_
    have F28 := F27.stepL hs17 (by decide); have q181 := kpL hs17 (by decide) (sm17 0 (by decide)) q172; have q182 := kpL hs17 (by decide) (sm17 1 (by decide)) q173; have q183 := kpL hs17 (by decide) (sm17 2 (by decide)) q174; have q184 := kpL hs17 (by decide) (sm17 7 (by decide)) q175; have q185 := kpL hs17 (by decide) (sm17 8 (by decide)) q176; have q186 := kpL hs17 (by decide) (sm17 10 (by decide)) q177; have q187 := kpL hs17 (by decide) (sm17 11 (by decide)) q178; have q188 := kpL hs17 (by decide) (sm17 12 (by decide)) q180
    have q189 : At (Ty.int (rndE (g6) ch)) s28 a28 (.tmp 13) := r17
    clear r17; refine wpList_nil (tn (wp_seq (wp_seq ?_)))
    have hSz := hp2.len
    have hR : ordS g1 = g3 := hp2.closed (by omega) hp1
    have hE5 : g5 = g3 := hp4.uniq hp2
    have hQ6 : g6 = g4 := (by rw [hE5] at hp5; exact hp5.eq hp3)
    have hE5k : g3.length ≤ 5040 := (by omega)
    refine gI a28 s28 ok28 (gM q184 (gS rfl (fun A B G H I d0 => rP (y_neq (ed d0 rfl rfl rfl) rfl)) (gE ok28 fun a29 s29 ok29 D12 => ?_))); have q190 := D12.kt q181 rfl; have q191 := D12.kt q182 rfl; refine tn ?_
    refine cond_p (p := ((gensMay ((((List.length ra) : Nat) : Int)) ([ra, rb])) ≠ (0 : Int))) (D12.dn 1 rfl rfl) (fun c4 => ?_) (fun c4 => ?_)
    ·
     exfalso
     exact c4 hM
    ·
     refine wp_skip (tn (wp_seq ?_))
     have q200 : At (Ty.lst Ty.ints g3) s29 a29 (.tmp 8) := (cvt (by (rw [hR])) (D12.kt q185 rfl))
     refine gI a29 s29 ok29 (gM q200 (gM q190 (gM q191 (gE2 ok29 fun a30 s30 ok30 D13 => ?_))))
     refine tL ok30 (y_callL (L := []) [] [] _ rfl (by decide) Try.func28 rfl rfl my3 (rQsets_fn (ra.length) ([ra, rb]) (g3) (ra) (rb) _ (GW.low_lend _ (by decide)) _ _ _ (Ty.up _ (GW.le_lend _ _) (D13.dn 0 (by decide) rfl rfl)) (Ty.up _ (GW.le_lend _ _) (D13.dn 1 (by decide) rfl rfl)) (Ty.up _ (GW.le_lend _ _) (D13.dn 2 (by decide) rfl rfl))  (by first | omega | assumption | exact hyr.row) (by first | omega | assumption | exact hyr.row) (by first | omega | assumption | exact hyr.row) (by first | omega | assumption | exact hyr.row) (by first | omega | assumption | exact hyr.row) (by first | omega | assumption | exact hyr.row))) fun a31 s31 hs18 ok31 r18 sm18 => ?_
     have F31 := ((F28.step0 D12.stp).step0 D13.stp).stepL hs18 (by decide); have q212 := kpL hs18 (by decide) (sm18 0 (by decide)) (D13.kt q190 rfl); have q213 := kpL hs18 (by decide) (sm18 1 (by decide)) (D13.kt q191 rfl); have q214 := kpL hs18 (by decide) (sm18 2 (by decide)) (D13.kt (D12.kt q183 rfl) rfl); have q215 := kpL hs18 (by decide) (sm18 8 (by decide)) (D13.kt q200 rfl); have q216 := kpL hs18 (by decide) (sm18 10 (by decide)) (D13.kt (D12.kt q186 rfl) rfl); have q217 := kpL hs18 (by decide) (sm18 11 (by decide)) (D13.kt (D12.kt q187 rfl) rfl); have q218 := kpL hs18 (by decide) (sm18 12 (by decide)) (D13.kt (D12.kt q188 rfl) rfl); have q219 := kpL hs18 (by decide) (sm18 13 (by decide)) (D13.kt (D12.kt q189 rfl) rfl)
     obtain ⟨t4, ⟨g7, hT4, hp6⟩, B4⟩ := r18
     have q220 : At (Ty.lst Ty.ints (g7)) s31 a31 (.tmp 84) := Ty.up _ B4.le hT4
     refine tL ok31 (Yld.toL (y_as q220)) fun a32 s32 hs19 ok32 r19 sm19 => ?_
     have F32 := F31.stepL hs19 (by decide); have q221 := kpL hs19 (by decide) (sm19 0 (by decide)) q212; have q222 := kpL hs19 (by decide) (sm19 1 (by decide)) q213; have q223 := kpL hs19 (by decide) (sm19 2 (by decide)) q214; have q224 := kpL hs19 (by decide) (sm19 8 (by decide)) q215; have q225 := kpL hs19 (by decide) (sm19 10 (by decide)) q216; have q226 := kpL hs19 (by decide) (sm19 11 (by decide)) q217; have q227 := kpL hs19 (by decide) (sm19 12 (by decide)) q218; have q228 := kpL hs19 (by decide) (sm19 13 (by decide)) q219
     have q229 : At (Ty.lst Ty.ints (g7)) s32 a32 (.tmp 14) := r19
     clear r19; refine wpList_nil (tn (wp_seq (wp_seq ?_)))
     have h47 : g4 = g7 := hp3.eq hp6
     refine gI a32 s32 ok32 (gM q226 (gT (Ty.bool false) rfl (fun A B G H I d0 => rP ((y_neq (ed d0 rfl rfl rfl) rfl).mono (fun τ _ h => cvb (σ := τ) (by decide) h))) (gS rfl (fun A B G H I d0 => rP (y_move (ed d0 rfl rfl rfl))) (gS rfl (fun A B G H I d0 => gu H (ed d0 rfl rfl rfl) fun hg => y_move (kp (I 10 rfl) G q225)) (gS rfl (fun A B G H I d0 => gu H (ed d0 rfl rfl rfl) fun hg => y_move (kp (I 14 rfl) G q229)) (gS rfl (fun A B G H I d0 d1 d2 d3 => gu H (ed d2 rfl rfl rfl) fun hg => y_call _ Try.func29 rfl rfl my2 (rSameAll_fn ((g4)) ((g7)) _ _ _ ((ed d0 rfl rfl rfl).1 hg) ((ed d1 rfl rfl rfl).1 hg) )) (gS rfl (fun A B G H I d0 d1 => gu H (ed d1 rfl rfl rfl) fun hg => y_not ((ed d0 rfl rfl rfl).1 hg)) (gS rfl (fun A B G H I d0 d1 => rP (y_pick_or (ed d0 rfl rfl rfl) rfl (ed d1 rfl rfl rfl))) (gE ok32 fun a33 s33 ok33 D14 => ?_))))))))); have q232 := D14.kt q223 rfl; refine tn ?_
     refine cond_t (D14.dn 7 rfl rfl) (fun c5 => ?_) (fun c5 => ?_)
     ·
      exfalso
      simp [h47] at c5
     ·
      obtain ⟨d1, d2⟩ := Bool.or_eq_false_iff.mp c5
      refine wp_skip (tn (wp_seq (wp_seq ?_)))
      refine gI a33 s33 ok33 (gM q232 (gS rfl (fun A B G H I d0 => rP (y_len Try.underlying22 (ed d0 rfl rfl rfl))) (gM (D14.kt q229 rfl) (gS rfl (fun A B G H I d0 => rP (y_len Try.underlying24 (ed d0 rfl rfl rfl))) (gS rfl (fun A B G H I d0 d1 => rP (y_neq (ed d0 rfl rfl rfl) (ed d1 rfl rfl rfl))) (gE ok33 fun a34 s34 ok34 D15 => ?_)))))); have F34 := (F32.step0 D14.stp).step0 D15.stp; have q242 := D15.kt (D14.kt q227 rfl) rfl; have q243 := D15.kt (D14.kt q228 rfl) rfl; refine tn ?_
      refine cond_p (p := ((((List.length ch) : Nat) : Int) ≠ (((List.length (g7)) : Nat) : Int))) (D15.dn 4 rfl rfl) (fun c6 => ?_) (fun c6 => ?_)
      ·
       have hE1 := rndE_cnt (Q := g6) (ch := ch) (by rw [hQ6, h47]; omega)
       refine wp_seq ?_
       refine gI a34 s34 ok34 (gM q243 (gS rfl (fun A B G H I d0 => rP (y_eql (ed d0 rfl rfl rfl) rfl)) (gS rfl (fun A B G H I d0 => rP (y_move (ed d0 rfl rfl rfl))) (gS rfl (fun A B G H I d0 => gu H (ed d0 rfl rfl rfl) fun hg => y_move (kp (I 12 rfl) G q242)) (gS rfl (fun A B G H I d0 d1 => gu H (ed d1 rfl rfl rfl) fun hg => y_eql ((ed d0 rfl rfl rfl).1 hg) rfl) (gS rfl (fun A B G H I d0 d1 => rP (y_pick_and (ed d0 rfl rfl rfl) (ed d1 rfl rfl rfl) rfl)) (gB 0 (gE ok34 fun a35 s35 ok35 D16 => ?_)))))))); refine tn (wp_ret (tr ?_))
       exact retL1 rfl ok35 (F34.step0 D16.stp) (cvb (by (simp [rndN, hE1])) (D16.dn 6 rfl rfl))
      ·
       have hle : ch.length = g6.length := (by rw [hQ6, h47]; omega); have hle2 : ch.length = (theQ (qN g3 ra rb) g3.length).length := (by rw [hp3.the, h47]; omega)
       refine wp_skip (tn (wp_seq (wp_seq ?_)))
       refine gI a34 s34 ok34 (gC (Ty.int (0 : Int)) (gE ok34 fun a36 s36 ok36 D17 => ?_)); refine tn (wp_block ?_)
       refine loop (fun n1 a37 w1 => ∃ (t5 : GW) (i : Nat), t5.w = w1 ∧ FromL [] s0 t5 ∧ Ok 139 [] a37 ∧ At (Ty.nat i) t5 a37 (.tmp 15) ∧ At (Ty.lst Ty.int ra) t5 a37 (.tmp 0) ∧ At (Ty.lst Ty.int rb) t5 a37 (.tmp 1) ∧ At (Ty.lst Ty.int ch) t5 a37 (.tmp 2) ∧ At (Ty.lst Ty.ints g3) t5 a37 (.tmp 8) ∧ At (Ty.nat (rndN (g5) ra rb (g6) ch)) t5 a37 (.tmp 12) ∧ At (Ty.int (rndE (g6) ch)) t5 a37 (.tmp 13) ∧ (i ≤ ch.length) ∧ (badC ch i = false) ∧ n1 = ch.length - i) (ch.length - (0)) ?_ ?_
       ·
        exact ⟨s36, 0, rfl, (F34.step0 D17.stp), ok36, (cvi (by (first | rfl | omega | (simp_all; done) | (simp_all; omega))) (D17.dn 0 rfl rfl)), (D17.kt (D15.kt (D14.kt q221 rfl) rfl) rfl), (D17.kt (D15.kt (D14.kt q222 rfl) rfl) rfl), (D17.kt (D15.kt q232 rfl) rfl), (D17.kt (D15.kt (D14.kt q224 rfl) rfl) rfl), (D17.kt q242 rfl), (D17.kt q243 rfl), by omega, rfl, rfl⟩
       ·
        rintro n2 a38 w2 ⟨t6, i, rfl, F37, ok37, q253, q254, q255, q256, q257, q258, q259, hi, hB, rfl⟩
        refine wp_seq (wp_seq ?_)
        refine gI a38 t6 ok37 (gM q253 (gM q256 (gS rfl (fun A B G H I d0 => rP (y_len Try.underlying22 (ed d0 rfl rfl rfl))) (gS rfl (fun A B G H I d0 d1 => rP (y_lss (ed d0 rfl rfl rfl) (ed d1 rfl rfl rfl))) (gE ok37 fun a39 s37 ok38 D18 => ?_))))); have F38 := F37.step0 D18.stp; have q260 := D18.kt q253 rfl; have q261 := D18.kt q254 rfl; have q262 := D18.kt q255 rfl; have q263 := D18.kt q256 rfl; have q264 := D18.kt q257 rfl; have q265 := D18.kt q258 rfl; have q266 := D18.kt q259 rfl; refine tn ?_
        refine cond_p (p := (((i : Nat) : Int) < (((List.length ch) : Nat) : Int))) (D18.dn 3 rfl rfl) (fun c7 => ?_) (fun c7 => ?_)
        ·
         refine wp_skip (tn (wp_seq (wp_block (wp_seq ?_))))
         refine gI a39 s37 ok38 (gM q263 (gM q260 (gT (Ty.ref [(Ty.int (ch.getD i 0))]) rfl (fun A B G H I d0 d1 => rP (y_index1 Try.underlying22 Try.inf3 (ed d0 rfl rfl rfl) (ed d1 rfl rfl rfl) (by omega) (lst_get Ty.int ch 0 i (by omega)))) (gS rfl (fun A B G H I d0 => rP (y_load Try.underlying3 rfl (ed d0 rfl rfl rfl) rfl)) (gS rfl (fun A B G H I d0 => rP (y_lss (ed d0 rfl rfl rfl) rfl)) (gS rfl (fun A B G H I d0 => rP (y_move (ed d0 rfl rfl rfl))) (gS rfl (fun A B G H I d0 => gu H (ed d0 rfl rfl rfl) fun hg => y_move (kp (I 2 rfl) G q263)) (gS rfl (fun A B G H I d0 => gu H (ed d0 rfl rfl rfl) fun hg => y_move (kp (I 15 rfl) G q260)) (gT (Ty.grd ((decide ((ch.getD i 0) < (0 : Int))) = false) (Ty.ref [(Ty.int (ch.getD i 0))])) rfl (fun A B G H I d0 d1 d2 => guf H (ed d2 rfl rfl rfl) fun hg hp => y_index1 Try.underlying22 Try.inf3 ((ed d0 rfl rfl rfl).1 hg) ((ed d1 rfl rfl rfl).1 hg) (by omega) (lst_get Ty.int ch 0 i (by omega))) (gS rfl (fun A B G H I d0 d1 => gu H (ed d1 rfl rfl rfl) fun hg => y_load Try.underlying3 rfl ((ed d0 rfl rfl rfl).1 hg) rfl) (gS rfl (fun A B G H I d0 d1 => gu H (ed d1 rfl rfl rfl) fun hg => y_gtr ((ed d0 rfl rfl rfl).1 hg) rfl) (gS rfl (fun A B G H I d0 d1 => rP (y_pick_or (ed d0 rfl rfl rfl) rfl (ed d1 rfl rfl rfl))) (gE ok38 fun a40 s38 ok39 D19 => ?_))))))))))))); have F39 := F38.step0 D19.stp; have q273 := D19.kt q265 rfl; have q274 := D19.kt q266 rfl; refine tn ?_
         refine cond_t (D19.dn 11 rfl rfl) (fun c8 => ?_) (fun c8 => ?_)
         ·
          have hbad : ch.getD i 0 < 0 ∨ 1 < ch.getD i 0 := (by simpa using c8); have hE12 := rndE_bad hle (badC_yes (show i < g6.length by omega) hbad)
          refine wp_seq ?_
          refine gI a40 s38 ok39 (gM q274 (gS rfl (fun A B G H I d0 => rP (y_eql (ed d0 rfl rfl rfl) rfl)) (gS rfl (fun A B G H I d0 => rP (y_move (ed d0 rfl rfl rfl))) (gS rfl (fun A B G H I d0 => gu H (ed d0 rfl rfl rfl) fun hg => y_move (kp (I 12 rfl) G q273)) (gS rfl (fun A B G H I d0 d1 => gu H (ed d1 rfl rfl rfl) fun hg => y_eql ((ed d0 rfl rfl rfl).1 hg) rfl) (gS rfl (fun A B G H I d0 d1 => rP (y_pick_and (ed d0 rfl rfl rfl) (ed d1 rfl rfl rfl) rfl)) (gB 0 (gE ok39 fun a41 s39 ok40 D20 => ?_)))))))); refine tn (wp_ret (br (tr (tr (br (tr ?_))))))
          exact retL1 rfl ok40 (F39.step0 D20.stp) (cvb (by (simp [rndN, hE12])) (D20.dn 6 rfl rfl))
         ·
          obtain ⟨d3, d4⟩ := Bool.or_eq_false_iff.mp c8
          replace d3 := of_decide_eq_false d3
          replace d4 := of_decide_eq_false d4
          have hok : 0 ≤ ch.getD i 0 ∧ ch.getD i 0 ≤ 1 := (by simp at c8; omega); have hB2 := badC_succ hB hok.1 hok.2
          refine wp_skip (bn (tn ?_))
          refine gI a40 s38 ok39 (gM (D19.kt q260 rfl) (gT (Ty.int (((i : Nat) : Int) + (1 : Int))) rfl (fun A B G H I d0 => rP (y_add (ed d0 rfl rfl rfl) rfl (w64 (by omega) (by omega)))) (gB 0 (gE ok39 fun a42 s40 ok41 D21 => ?_))))
          exact tn ⟨ch.length - ((i+1)), by omega, s40, (i+1), rfl, (F39.step0 D21.stp), ok41, (cvi (by (first | rfl | omega | (simp_all; done) | (simp_all; omega))) (D21.dn 2 rfl rfl)), (D21.kt (D19.kt q261 rfl) rfl), (D21.kt (D19.kt q262 rfl) rfl), (D21.kt (D19.kt q263 rfl) rfl), (D21.kt (D19.kt q264 rfl) rfl), (D21.kt q273 rfl), (D21.kt q274 rfl), by omega, hB2, rfl⟩
        ·
         have hE0 := rndE_ok (Q := g6) hle (by rw [← hle, show ch.length = i by omega]; exact hB)
         refine wp_exit (tx (tx (bx (tn (wp_seq ?_)))))
         refine gI a39 s37 ok38 (gM q266 (gS rfl (fun A B G H I d0 => rP (y_eql (ed d0 rfl rfl rfl) rfl)) (gS rfl (fun A B G H I d0 => rP (y_move (ed d0 rfl rfl rfl))) (gS rfl (fun A B G H I d0 => gu H (ed d0 rfl rfl rfl) fun hg => y_move (kp (I 12 rfl) G q265)) (gS rfl (fun A B G H I d0 => gu H (ed d0 rfl rfl rfl) fun hg => y_move (kp (I 8 rfl) G q264)) (gS rfl (fun A B G H I d0 => gu H (ed d0 rfl rfl rfl) fun hg => y_move (kp (I 0 rfl) G q261)) (gS rfl (fun A B G H I d0 => gu H (ed d0 rfl rfl rfl) fun hg => y_move (kp (I 1 rfl) G q262)) (gS rfl (fun A B G H I d0 => gu H (ed d0 rfl rfl rfl) fun hg => y_move (kp (I 2 rfl) G q263)) (gS rfl (fun A B G H I d0 d1 d2 d3 d4 d5 => gut H (ed d4 rfl rfl rfl) fun hg hp => y_call _ Try.func30 rfl rfl my4 (rCircuits_fn (ra.length) ([ra, rb]) (g3) (ra) (rb) (ch) _ _ _ _ _ ((ed d0 rfl rfl rfl).1 hg) ((ed d1 rfl rfl rfl).1 hg) ((ed d2 rfl rfl rfl).1 hg) ((ed d3 rfl rfl rfl).1 hg) (by first | omega | assumption) (by first | omega | assumption) (by first | omega | assumption) (by first | omega | assumption) (by first | omega | assumption) (by first | omega | assumption) (by first | omega | assumption))) (gS rfl (fun A B G H I d0 d1 d2 => gu H (ed d2 rfl rfl rfl) fun hg => y_eql ((ed d0 rfl rfl rfl).1 hg) ((ed d1 rfl rfl rfl).1 hg)) (gS rfl (fun A B G H I d0 d1 => rP (y_pick_and (ed d0 rfl rfl rfl) (ed d1 rfl rfl rfl) rfl)) (gB 0 (gE ok38 fun a43 s41 ok42 D22 => ?_))))))))))))); refine tn (wp_ret ?_)
         exact retL1 rfl ok42 (F38.step0 D22.stp) (cvb (by (unfold rndN; rw [hE0, hE5, hp3.the, hQ6]; simp)) (D22.dn 11 rfl rfl))
 ·
  exfalso
  exact c1 hM


theorem extentSays_fn (ra rb ch : List Int) (σ : GW) (v0 v1 v2 : Value) (hv0 : Ty.has (Ty.lst Ty.int ra) σ v0) (hv1 : Ty.has (Ty.lst Ty.int rb) σ v1) (hv2 : Ty.has (Ty.lst Ty.int ch) σ v2) : FnC Try.prog 4 #[v0, v1, v2] σ (Ty.bool true) := by
  by_cases h : mkE ra rb = 0
  · have hM : gensMay ((ra.length : Nat) : Int) [ra, rb] = 0 := by
      refine Classical.byContradiction fun hM => ?_
      unfold mkE at h; rw [if_pos hM] at h; exact hM h
    have hS : szTo ra.length (fun z => z ∈ [ra, rb]) ra.length ≤ 5040 := by
      refine Classical.byContradiction fun hS => ?_
      unfold mkE eltE at h; rw [if_neg (fun h_ => h_ hM), if_neg hS] at h; cases h
    by_cases h2 : szTo ra.length (fun z => z ∈ [ra, rb]) ra.length ≤ 200
    · exact xSaysC_fn ra rb ch σ v0 v1 v2 hv0 hv1 hv2 hM h2
    · exact xSaysB_fn ra rb ch σ v0 v1 v2 hv0 hv1 hv2 hM ⟨by omega, hS⟩
  · exact xSaysA_fn ra rb ch σ v0 v1 v2 hv0 hv1 hv2 h


end Go.Proofs.Ytkjifbgofckfeaa
