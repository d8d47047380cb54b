/- The functions that the law ColourMade reaches, each by its contract. Part 9. -/
import Derived.Test.YtkjifbgofckfeaaGreatColourMadeW8
namespace Go.Proofs.YtkjifbgofckfeaaGreat
open Go.KL

set_option maxHeartbeats 4000000 in
set_option maxRecDepth 100000 in
theorem cwF_fn (n : Nat) (gens : List (List Int)) (many : List Int) (rows : List (List Int)) (σ : GW)  (v0 v1 v2 v3 v4 : Value) (hv0 : Ty.has (Ty.nat n) σ v0) (hv1 : Ty.has (Ty.lst Ty.ints gens) σ v1) (hv2 : Ty.has (Ty.lst Ty.int many) σ v2) (hv3 : Ty.has (Ty.lst Ty.ints rows) σ v3) (hv4 : Ty.has (Ty.int (0 : Int)) σ v4)  (hok : manyOk (n : Int) many) (heq : alT many many.length = (n : Int)) (hn : 1 ≤ n ∧ n ≤ 12) (hG0 : gensMay (n : Int) gens = 0) (hL : szTo n (fun y => y ∈ gens) n ≤ 5040) (hP : many.length ^ n ≤ 1000) (hRr : ∀ x ∈ rows, RowN n x) (hRm : ∀ x, x ∈ rows ↔ Cl n (fun y => y ∈ gens) x) (hRl : rows.length ≤ 5040) :
    FnC Tryz.prog 16 #[v0, v1, v2, v3, v4] σ (Ty.bool true) := by
 have hok1 := hok.1
 refine fn_intro0 Tryz.func16 rfl Tryz.ntmps16 (Nat.le_of_ble_eq_true rfl) (fun s0 a0 hle F0 ok0 hargs => ?_)
 have p0 := pA hle (hargs 0 _ rfl) hv0
 have p1 := pA hle (hargs 1 _ rfl) hv1
 have b1 := sl_le p1
 have p2 := pA hle (hargs 2 _ rfl) hv2
 have b2 := sl_le p2
 have p3 := pA hle (hargs 3 _ rfl) hv3
 have b3 := sl_le p3
 have p4 := pA hle (hargs 4 _ rfl) hv4
 clear hargs; refine wp_seq ?_
 refine gI a0 s0 ok0 (gC (Ty.bool false) (gE ok0 fun a1 s1 ok1 D1 => ?_)); have q1 := D1.k p0; have q3 := D1.k p2; refine tn (wp_seq ?_)
 refine gI a1 s1 ok1 (gM q1 (gM (D1.k p1) (gM q3 (gE2 ok1 fun a2 s2 ok2 D2 => ?_))))
 refine tL ok2 (y_callL (L := []) [] [] _ rfl dE Tryz.func41 rfl rfl my3 (withE_fn (n) (gens) (many) _ lW _ _ _ (uL (D2.m 0 rfl)) (uL (D2.m 1 rfl)) (uL (D2.m 2 rfl))  oX oX oX oX)) fun a3 s3 hs1 ok3 r1 sm1 => ?_
 obtain ⟨t1, ⟨g1, hT1, hp1⟩, B1⟩ := r1
 have q17 : At (Ty.tup2 (Ty.nat (g1)) (Ty.int (0 : Int))) s3 a3 (.tmp 29) := Ty.up _ B1.le hT1
 refine tL ok3 (Yld.toL (y_mv q17)) fun a4 s4 hs2 ok4 r2 sm2 => ?_
 have q22 : At (Ty.tup2 (Ty.nat (g1)) (Ty.int (0 : Int))) s4 a4 (.tmp 25) := r2
 clear r2
 refine tL (R := (fun v τ => Pr.has (Ty.pr (Ty.nat (g1))) τ v)) ok4 (Yld.toL (y_ext2_0 q22)) fun a5 s5 hs3 ok5 r3 sm3 => ?_
 have q28 : At (Ty.nat (g1)) s5 a5 (.tmp 30) := r3
 clear r3
 refine tL (R := (fun v τ => Pr.has (Ty.pr (Ty.int (0 : Int))) τ v)) ok5 (Yld.toL (y_ext2_1 (kq hs3 sm3 25 q22))) fun a6 s6 hs4 ok6 r4 sm4 => ?_
 have q34 : At (Ty.int (0 : Int)) s6 a6 (.tmp 31) := r4
 clear r4
 refine tL ok6 (Yld.toL (y_as (kq hs4 sm4 30 q28))) fun a7 s7 hs5 ok7 r5 sm5 => ?_
 have q40 : At (Ty.nat (g1)) s7 a7 (.tmp 11) := r5
 clear r5
 refine tL ok7 (Yld.toL (y_as (kq hs5 sm5 31 q34))) fun a8 s8 hs6 ok8 r6 sm6 => ?_
 have q46 : At (Ty.int (0 : Int)) s8 a8 (.tmp 12) := r6
 clear r6; refine wpList_nil (tn (wp_seq ?_))
 obtain ⟨E, hE, hLE⟩ := hp1
 refine gI a8 s8 ok8 (gM (kq hs6 sm6 4 (kq hs5 sm5 4 (kq hs4 sm4 4 (kq hs3 sm3 4 (kq hs2 sm2 4 (kq hs1 sm1 4 (D2.k (D1.k p4)))))))) (gB 0 (gE ok8 fun a9 s9 ok9 D3 => ?_))); refine tn (wp_seq ?_)
 refine gI a9 s9 ok9 (gC (Ty.int (0 : Int)) (gE ok9 fun a10 s10 ok10 D4 => ?_)); have q54 := D4.k (D3.k (kq hs6 sm6 2 (kq hs5 sm5 2 (kq hs4 sm4 2 (kq hs3 sm3 2 (kq hs2 sm2 2 (kq hs1 sm1 2 (D2.k q3)))))))); refine tn (wp_seq ?_)
 refine gI a10 s10 ok10 (gM q54 (gS rfl (fun A B G H I d0 => rP (y_len Tryz.underlying22 (eI d0))) (gS rfl (fun A B G H I d0 => rP (y_gtr (eI d0) rfl)) (gB 0 (gE ok10 fun a11 s11 ok11 D5 => ?_))))); refine tn (wp_seq (wp_seq ?_))
 refine gI a11 s11 ok11 (gC (Ty.int (0 : Int)) (gE ok11 fun a12 s12 ok12 D6 => ?_)); refine tn (wp_block ?_)
 refine loop (fun n1 a13 w1 => ∃ (t2 : GW) (i : Nat), t2.w = w1 ∧ FromL [] s0 t2 ∧ Ok 140 [] a13 ∧ At (Ty.nat i) t2 a13 (.tmp 16) ∧ At (Ty.int (alT many i)) t2 a13 (.tmp 14) ∧ At (Ty.bool (decide ((8 : Int) < (((List.length (many)) : Nat) : Int)))) t2 a13 (.tmp 15) ∧ At (Ty.nat n) t2 a13 (.tmp 0) ∧ At (Ty.lst Ty.int many) t2 a13 (.tmp 2) ∧ At (Ty.lst Ty.ints rows) t2 a13 (.tmp 3) ∧ At (Ty.nat (g1)) t2 a13 (.tmp 11) ∧ At (Ty.int (0 : Int)) t2 a13 (.tmp 12) ∧ At (Ty.int (0 : Int)) t2 a13 (.tmp 13) ∧ (i ≤ many.length) ∧ (∀ k, k < i → 0 ≤ many.getD k 0 ∧ many.getD k 0 ≤ n) ∧ (0 < i → many.length ≤ 8) ∧ n1 = many.length - i) (many.length - (0)) ?_ ?_
 ·
  exact ⟨s12, 0, rfl, ((((((((((((F0.step0 D1.stp).step0 D2.stp).sl hs1).sl hs2).sl hs3).sl hs4).sl hs5).sl hs6).step0 D3.stp).step0 D4.stp).step0 D5.stp).step0 D6.stp), ok12, (cJ (D6.m 0 rfl)), (cvi (by (rfl)) (D6.k (D5.k (D4.m 0 rfl)))), (cvb (by (rfl)) (D6.k (D5.m 3 rfl))), (D6.k (D5.k (D4.k (D3.k (kq hs6 sm6 0 (kq hs5 sm5 0 (kq hs4 sm4 0 (kq hs3 sm3 0 (kq hs2 sm2 0 (kq hs1 sm1 0 (D2.k q1))))))))))), (D6.k (D5.k q54)), (D6.k (D5.k (D4.k (D3.k (kq hs6 sm6 3 (kq hs5 sm5 3 (kq hs4 sm4 3 (kq hs3 sm3 3 (kq hs2 sm2 3 (kq hs1 sm1 3 (D2.k (D1.k p3)))))))))))), (D6.k (D5.k (D4.k (D3.k (kq hs6 sm6 11 q40))))), (D6.k (D5.k (D4.k (D3.k q46)))), (D6.k (D5.k (D4.k (D3.m 1 rfl)))), by omega, fun k h => by omega, by omega, rfl⟩
 ·
  rintro n2 a14 w2 ⟨t3, i, rfl, F13, ok13, q77, q78, q79, q80, q81, q82, q83, q84, q85, hi, hA, hl8, rfl⟩
  refine wp_seq (wp_seq ?_)
  refine gI a14 t3 ok13 (gM q77 (gM q81 (gS rfl (fun A B G H I d0 => rP (y_len Tryz.underlying22 (eI d0))) (gS rfl (fun A B G H I d0 d1 => rP (y_lss (eI d0) (eI d1))) (gE ok13 fun a15 s13 ok14 D7 => ?_))))); have F14 := F13.step0 D7.stp; have q86 := D7.k q77; have q87 := D7.k q78; have q88 := D7.k q79; have q89 := D7.k q80; have q90 := D7.k q81; have q91 := D7.k q82; have q92 := D7.k q83; have q93 := D7.k q84; have q94 := D7.k q85; refine tn ?_
  refine cond_p (p := (((i : Nat) : Int) < (((List.length many) : Nat) : Int))) (D7.m 3 rfl) (fun c1 => ?_) (fun c1 => ?_)
  ·
   refine wp_skip (tn (wp_seq (wp_block (wp_seq (wp_seq ?_)))))
   refine gI a15 s13 ok14 (gM q88 (gS rfl (fun A B G H I d0 => rP (y_move (eI d0))) (gS rfl (fun A B G H I d0 => gu H (eI d0) fun hg => y_move (kp (I 2 rfl) G q90)) (gS rfl (fun A B G H I d0 => gu H (eI d0) fun hg => y_move (kp (I 16 rfl) G q86)) (gT (Ty.grd ((decide ((8 : Int) < (((List.length (many)) : Nat) : Int))) = false) (Ty.ref [(Ty.int (many.getD i 0))])) rfl (fun A B G H I d0 d1 d2 => gu H (eI d2) fun hg => y_index1 Tryz.underlying22 Tryz.inf3 ((ef d0 rfl).1 hg) ((ef d1 rfl).1 hg) oM (lst_get Ty.int many 0 i oM)) (gS rfl (fun A B G H I d0 d1 => gu H (eI d1) fun hg => y_load Tryz.underlying3 rfl ((ef d0 rfl).1 hg) rfl) (gS rfl (fun A B G H I d0 d1 => gu H (eI d1) fun hg => y_lss ((ef d0 rfl).1 hg) rfl) (gS rfl (fun A B G H I d0 d1 => rP (y_pick_or (eI d0) rfl (eI d1))) (gS rfl (fun A B G H I d0 d1 => rP (y_move (eI d0))) (gT (Ty.grd (((decide ((8 : Int) < (((List.length (many)) : Nat) : Int))) || (decide ((many.getD i 0) < (0 : Int)))) = false) (Ty.lst Ty.int many)) rfl (by intro A B G H I d0; refine run_guard H rfl rfl dE (eI d0) (fun hg => ?_); obtain ⟨d1, d2⟩ := Bool.or_eq_false_iff.mp hg; have d2 := of_decide_eq_false d2; exact y_move (kp (I 2 rfl) G q90)) (gT (Ty.grd (((decide ((8 : Int) < (((List.length (many)) : Nat) : Int))) || (decide ((many.getD i 0) < (0 : Int)))) = false) (Ty.nat i)) rfl (by intro A B G H I d0; refine run_guard H rfl rfl dE (eI d0) (fun hg => ?_); obtain ⟨d3, d4⟩ := Bool.or_eq_false_iff.mp hg; have d4 := of_decide_eq_false d4; exact y_move (kp (I 16 rfl) G q86)) ?_)))))))))))
   refine gT (Ty.grd (((decide ((8 : Int) < (((List.length (many)) : Nat) : Int))) || (decide ((many.getD i 0) < (0 : Int)))) = false) (Ty.ref [(Ty.int (many.getD i 0))])) rfl (by intro A B G H I d0 d1 d2; refine run_guard H rfl rfl dE (eI d2) (fun hg => ?_); obtain ⟨d5, d6⟩ := Bool.or_eq_false_iff.mp hg; have d6 := of_decide_eq_false d6; exact y_index1 Tryz.underlying22 Tryz.inf3 ((ef d0 rfl).1 hg) ((ef d1 rfl).1 hg) oM (lst_get Ty.int many 0 i oM)) (gT (Ty.grd (((decide ((8 : Int) < (((List.length (many)) : Nat) : Int))) || (decide ((many.getD i 0) < (0 : Int)))) = false) (Ty.int (many.getD i 0))) rfl (by intro A B G H I d0 d1; refine run_guard H rfl rfl dE (eI d1) (fun hg => ?_); obtain ⟨d7, d8⟩ := Bool.or_eq_false_iff.mp hg; have d8 := of_decide_eq_false d8; exact y_load Tryz.underlying3 rfl ((ef d0 rfl).1 hg) rfl) (gT (Ty.grd (((decide ((8 : Int) < (((List.length (many)) : Nat) : Int))) || (decide ((many.getD i 0) < (0 : Int)))) = false) (Ty.nat n)) rfl (by intro A B G H I d0; refine run_guard H rfl rfl dE (eI d0) (fun hg => ?_); obtain ⟨d9, d10⟩ := Bool.or_eq_false_iff.mp hg; have d10 := of_decide_eq_false d10; exact y_move (kp (I 0 rfl) G q89)) (gT (Ty.grd (((decide ((8 : Int) < (((List.length (many)) : Nat) : Int))) || (decide ((many.getD i 0) < (0 : Int)))) = false) (Ty.bool (decide (((n : Nat) : Int) < (many.getD i 0))))) rfl (by intro A B G H I d0 d1 d2; refine run_guard H rfl rfl dE (eI d2) (fun hg => ?_); obtain ⟨d11, d12⟩ := Bool.or_eq_false_iff.mp hg; have d12 := of_decide_eq_false d12; exact y_gtr ((ef d0 rfl).1 hg) ((ef d1 rfl).1 hg)) (gS rfl (fun A B G H I d0 d1 => rP (y_pick_or (eI d0) rfl (eI d1))) (gE ok14 fun a16 s14 ok15 D8 => ?_))))); have q96 := D8.k q86; have q100 := D8.k q90; refine tn ?_
   refine cond_t (D8.m 15 rfl) (fun c2 => ?_) (fun c2 => ?_)
   ·
    exfalso
    (simp only [Bool.or_eq_true, decide_eq_true_eq] at c2; have h_ := hok.2 i oM; omega)
   ·
    obtain ⟨d13, d14⟩ := Bool.or_eq_false_iff.mp c2
    obtain ⟨d15, d16⟩ := Bool.or_eq_false_iff.mp d13
    replace d16 := of_decide_eq_false d16
    replace d14 := of_decide_eq_false d14
    simp only [Bool.or_eq_false_iff, decide_eq_false_iff_not] at c2; have hA2 : ∀ k, k < i + 1 → 0 ≤ many.getD k 0 ∧ many.getD k 0 ≤ n := fun k hk => (by (by_cases e_ : k = i; (rw [e_]; omega); exact hA k oM))
    refine wp_skip (tn ?_)
    refine gI a16 s14 ok15 (gM (D8.k q87) (gM q100 (gM q96 (gT (Ty.ref [(Ty.int (many.getD i 0))]) rfl (fun A B G H I d0 d1 => rP (y_index1 Tryz.underlying22 Tryz.inf3 (eI d0) (eI d1) oM (lst_get Ty.int many 0 i oM))) (gS rfl (fun A B G H I d0 => rP (y_load Tryz.underlying3 rfl (eI d0) rfl)) (gT (Ty.int (wr64 ((alT many i) + (many.getD i 0)))) rfl (fun A B G H I d0 d1 => rP (y_addW (eI d0) (eI d1))) (gB 0 (gE ok15 fun a17 s15 ok16 D9 => ?_)))))))); refine bn (tn ?_)
    refine gI a17 s15 ok16 (gM (D9.k q96) (gT (Ty.nat (i + 1)) rfl (fun A B G H I d0 => rP ((y_add (eI d0) rfl wX).mono (fun τ _ h => cN (σ := τ) h))) (gB 0 (gE ok16 fun a18 s16 ok17 D10 => ?_))))
    exact tn ⟨many.length - ((i+1)), by omega, s16, (i+1), rfl, (((F14.step0 D8.stp).step0 D9.stp).step0 D10.stp), ok17, (cJ (D10.m 2 rfl)), (cvi (by (rfl)) (D10.k (D9.m 6 rfl))), (D10.k (D9.k (D8.k q88))), (D10.k (D9.k (D8.k q89))), (D10.k (D9.k q100)), (D10.k (D9.k (D8.k q91))), (D10.k (D9.k (D8.k q92))), (D10.k (D9.k (D8.k q93))), (D10.k (D9.k (D8.k q94))), by omega, hA2, fun _ => by omega, rfl⟩
  ·
   have ei : i = many.length := oM; rw [← ei] at heq
   refine wp_exit (tx (tx (bx (tn (wp_seq (wp_seq ?_))))))
   refine gI a15 s13 ok14 (gM q88 (gE ok14 fun a19 s17 ok18 D11 => ?_)); have q125 := D11.k q89; refine tn ?_
   refine cond_t (D11.m 0 rfl) (fun c3 => ?_) (fun c3 => ?_)
   ·
    exfalso
    (simp only [decide_eq_true_eq] at c3; omega)
   ·
    refine wp_seq ?_
    refine gI a19 s17 ok18 (gM (D11.k q87) (gM q125 (gS rfl (fun A B G H I d0 d1 => rP (y_neq (eI d0) (eI d1))) (gE ok18 fun a20 s18 ok19 D12 => ?_)))); refine tn ?_
    refine cond_p (p := ((alT many i) ≠ ((n : Nat) : Int))) (D12.m 2 rfl) (fun c4 => ?_) (fun c4 => ?_)
    ·
     exfalso
     exact c4 heq
    ·
     refine wp_skip (tn (wp_seq (wp_seq ?_)))
     refine gI a20 s18 ok19 (gM (D12.k (D11.k q94)) (gT (Ty.bool false) rfl (fun A B G H I d0 => rP ((y_neq (eI d0) rfl).mono (fun τ _ h => cvb (σ := τ) dE h))) (gE ok19 fun a21 s19 ok20 D13 => ?_))); have q139 := D13.k (D12.k q125); have q140 := D13.k (D12.k (D11.k q90)); refine tn ?_
     refine cond_t (D13.m 1 rfl) (fun c5 => (by cases c5)) (fun _ => ?_)
     refine wp_skip (tn (wp_seq (wp_seq ?_)))
     refine gI a21 s19 ok20 (gM q140 (gS rfl (fun A B G H I d0 => rP (y_len Tryz.underlying22 (eI d0))) (gM q139 (gS rfl (fun A B G H I d0 d1 => rP (y_call _ Tryz.func36 rfl rfl my2 (power_fn ((List.length many)) (n) _ _ _ (cvi (σ := B) (by first | omega | assumption | cases hg | exact absurd (of_decide_eq_true hg) hbad) (ef d0 rfl)) (eI d1) (by first | omega | assumption | cases hg | exact absurd (of_decide_eq_true hg) hbad) (by first | omega | assumption | cases hg | exact absurd (of_decide_eq_true hg) hbad)))) (gS rfl (fun A B G H I d0 => rP (y_gtr (eI d0) rfl)) (gE ok20 fun a22 s20 ok21 D14 => ?_)))))); refine tn ?_
     refine cond_p (p := ((1000 : Int) < (((((List.length many)) ^ n) : Nat) : Int))) (D14.m 4 rfl) (fun c6 => ?_) (fun c6 => ?_)
     ·
      exfalso
      omega
     ·
      refine wp_skip (tn (wp_seq ?_))
      refine gI a22 s20 ok21 (gC (Ty.int (0 : Int)) (gE ok21 fun a23 s21 ok22 D15 => ?_)); refine tn (wp_seq (wp_seq ?_))
      refine gI a23 s21 ok22 (gC (Ty.int (0 : Int)) (gE ok22 fun a24 s22 ok23 D16 => ?_)); refine tn (wp_block ?_)
      refine loop (fun n3 a25 w3 => ∃ (t4 : GW) (k : Nat), t4.w = w3 ∧ FromL [] s0 t4 ∧ Ok 140 [] a25 ∧ At (Ty.nat k) t4 a25 (.tmp 18) ∧ At (Ty.nat (wntT n many rows k)) t4 a25 (.tmp 17) ∧ At (Ty.nat n) t4 a25 (.tmp 0) ∧ At (Ty.lst Ty.int many) t4 a25 (.tmp 2) ∧ At (Ty.lst Ty.ints rows) t4 a25 (.tmp 3) ∧ At (Ty.nat (g1)) t4 a25 (.tmp 11) ∧ At (Ty.int (0 : Int)) t4 a25 (.tmp 12) ∧ (k ≤ (many.length ^ n)) ∧ n3 = (many.length ^ n) - k) ((many.length ^ n) - (0)) ?_ ?_
      ·
       exact ⟨s22, 0, rfl, ((((((F14.step0 D11.stp).step0 D12.stp).step0 D13.stp).step0 D14.stp).step0 D15.stp).step0 D16.stp), ok23, (cJ (D16.m 0 rfl)), (cvi (by (first | rfl | simp [wntT])) (D16.k (D15.m 0 rfl))), (D16.k (D15.k (D14.k q139))), (D16.k (D15.k (D14.k q140))), (D16.k (D15.k (D14.k (D13.k (D12.k (D11.k q91)))))), (D16.k (D15.k (D14.k (D13.k (D12.k (D11.k q92)))))), (D16.k (D15.k (D14.k (D13.k (D12.k (D11.k q93)))))), by omega, rfl⟩
      ·
       rintro n4 a26 w4 ⟨t5, k, rfl, F24, ok24, q165, q166, q167, q168, q169, q170, q171, hk, rfl⟩
       have hwl := wntT_le (n := n) (m := many) (R := rows) (k := k)
       refine wp_seq (wp_seq ?_)
       refine gI a26 t5 ok24 (gM q165 (gM q168 (gS rfl (fun A B G H I d0 => rP (y_len Tryz.underlying22 (eI d0))) (gM q167 (gS rfl (fun A B G H I d0 d1 => rP (y_call _ Tryz.func36 rfl rfl my2 (power_fn ((List.length many)) (n) _ _ _ (cvi (σ := B) (by first | omega | assumption | cases hg | exact absurd (of_decide_eq_true hg) hbad) (ef d0 rfl)) (eI d1) (by first | omega | assumption | cases hg | exact absurd (of_decide_eq_true hg) hbad) (by first | omega | assumption | cases hg | exact absurd (of_decide_eq_true hg) hbad)))) (gS rfl (fun A B G H I d0 d1 => rP (y_lss (eI d0) (eI d1))) (gE ok24 fun a27 s23 ok25 D17 => ?_))))))); have F25 := F24.step0 D17.stp; have q172 := D17.k q165; have q173 := D17.k q166; have q174 := D17.k q167; have q175 := D17.k q168; have q177 := D17.k q170; have q178 := D17.k q171; refine tn ?_
       refine cond_p (p := (((k : Nat) : Int) < (((((List.length many)) ^ n) : Nat) : Int))) (D17.m 5 rfl) (fun c7 => ?_) (fun c7 => ?_)
       ·
        have hm0 : 0 < many.length := pow_pos_c (C := many.length) (n := n) hn.1 oM
        refine wp_skip (tn (wp_seq (wp_block (wp_seq ?_))))
        obtain ⟨X, hX⟩ : ∃ X, X = (colAt n many.length k) := ⟨_, rfl⟩
        have hXl : X.length = n := (by rw [hX]; exact colAt_len)
        have hXr : ∀ x ∈ rows, RowN X.length x := (by rw [hXl]; exact hRr)
        refine gI a27 s23 ok25 (gM q174 (gM q175 (gS rfl (fun A B G H I d0 => rP (y_len Tryz.underlying22 (eI d0))) (gM q172 (gS rfl (fun A B G H I d0 d1 d2 => rP (y_call _ Tryz.func38 rfl rfl my3 (colAt_fn (n) ((List.length many)) (k) _ _ _ _ (eI d0) (cvi (σ := B) oX (ef d1 rfl)) (eI d2) oX oX oX))) (gB 0 (gE ok25 fun a28 s24 ok26 D18 => ?_)))))))
        have q188 : At (Ty.lst Ty.int X) s24 a28 (.tmp 19) := (cvt (by (rw [hX])) (D18.m 5 rfl))
        refine tn (wp_seq ?_)
        refine gI a28 s24 ok26 (gC (Ty.bool true) (gE ok26 fun a29 s25 ok27 D19 => ?_)); refine tn (wp_seq (wp_seq ?_))
        refine gI a29 s25 ok27 (gC (Ty.int (0 : Int)) (gE ok27 fun a30 s26 ok28 D20 => ?_)); refine tn (wp_block ?_)
        refine loop (fun n5 a31 w5 => ∃ (t6 : GW) (a : Nat), t6.w = w5 ∧ FromL [] s0 t6 ∧ Ok 140 [] a31 ∧ At (Ty.nat a) t6 a31 (.tmp 21) ∧ At (Ty.bool (distT many X a)) t6 a31 (.tmp 20) ∧ At (Ty.nat k) t6 a31 (.tmp 18) ∧ At (Ty.nat (wntT n many rows k)) t6 a31 (.tmp 17) ∧ At (Ty.nat n) t6 a31 (.tmp 0) ∧ At (Ty.lst Ty.int many) t6 a31 (.tmp 2) ∧ At (Ty.lst Ty.ints rows) t6 a31 (.tmp 3) ∧ At (Ty.nat (g1)) t6 a31 (.tmp 11) ∧ At (Ty.int (0 : Int)) t6 a31 (.tmp 12) ∧ At (Ty.lst Ty.int X) t6 a31 (.tmp 19) ∧ (a ≤ many.length) ∧ n5 = many.length - a) (many.length - (0)) ?_ ?_
        ·
         exact ⟨s26, 0, rfl, (((F25.step0 D18.stp).step0 D19.stp).step0 D20.stp), ok28, (cJ (D20.m 0 rfl)), (cvb (by (rfl)) (D20.k (D19.m 0 rfl))), (D20.k (D19.k (D18.k q172))), (D20.k (D19.k (D18.k q173))), (D20.k (D19.k (D18.k q174))), (D20.k (D19.k (D18.k q175))), (D20.k (D19.k (D18.k (D17.k q169)))), (D20.k (D19.k (D18.k q177))), (D20.k (D19.k (D18.k q178))), (D20.k (D19.k q188)), by omega, rfl⟩
        ·
         rintro n6 a32 w6 ⟨t7, a, rfl, F29, ok29, q208, q209, q210, q211, q212, q213, q214, q215, q216, q217, ha, rfl⟩
         refine wp_seq (wp_seq ?_)
         refine gI a32 t7 ok29 (gM q208 (gM q213 (gS rfl (fun A B G H I d0 => rP (y_len Tryz.underlying22 (eI d0))) (gS rfl (fun A B G H I d0 d1 => rP (y_lss (eI d0) (eI d1))) (gE ok29 fun a33 s27 ok30 D21 => ?_))))); have F30 := F29.step0 D21.stp; have q219 := D21.k q209; have q220 := D21.k q210; have q221 := D21.k q211; have q222 := D21.k q212; have q223 := D21.k q213; have q224 := D21.k q214; have q225 := D21.k q215; have q226 := D21.k q216; have q227 := D21.k q217; refine tn ?_
         refine cond_p (p := (((a : Nat) : Int) < (((List.length many) : Nat) : Int))) (D21.m 3 rfl) (fun c8 => ?_) (fun c8 => ?_)
         ·
          refine wp_skip (tn (wp_seq (wp_block (wp_seq ?_))))
          refine gI a33 s27 ok30 (gC (Ty.int (0 : Int)) (gE ok30 fun a34 s28 ok31 D22 => ?_)); refine tn (wp_seq (wp_seq ?_))
          refine gI a34 s28 ok31 (gC (Ty.int (0 : Int)) (gE ok31 fun a35 s29 ok32 D23 => ?_)); refine tn (wp_block ?_)
          refine loop (fun n7 a36 w7 => ∃ (t8 : GW) (b : Nat), t8.w = w7 ∧ FromL [] s0 t8 ∧ Ok 140 [] a36 ∧ At (Ty.nat b) t8 a36 (.tmp 23) ∧ At (Ty.nat (List.count ((a : Nat) : Int) (List.take b X))) t8 a36 (.tmp 22) ∧ At (Ty.nat a) t8 a36 (.tmp 21) ∧ At (Ty.bool (distT many X a)) t8 a36 (.tmp 20) ∧ At (Ty.nat k) t8 a36 (.tmp 18) ∧ At (Ty.nat (wntT n many rows k)) t8 a36 (.tmp 17) ∧ At (Ty.nat n) t8 a36 (.tmp 0) ∧ At (Ty.lst Ty.int many) t8 a36 (.tmp 2) ∧ At (Ty.lst Ty.ints rows) t8 a36 (.tmp 3) ∧ At (Ty.nat (g1)) t8 a36 (.tmp 11) ∧ At (Ty.int (0 : Int)) t8 a36 (.tmp 12) ∧ At (Ty.lst Ty.int X) t8 a36 (.tmp 19) ∧ (b ≤ n) ∧ n7 = n - b) (n - (0)) ?_ ?_
          ·
           exact ⟨s29, 0, rfl, ((F30.step0 D22.stp).step0 D23.stp), ok32, (cJ (D23.m 0 rfl)), (cvi (by (simp)) (D23.k (D22.m 0 rfl))), (D23.k (D22.k (D21.k q208))), (D23.k (D22.k q219)), (D23.k (D22.k q220)), (D23.k (D22.k q221)), (D23.k (D22.k q222)), (D23.k (D22.k q223)), (D23.k (D22.k q224)), (D23.k (D22.k q225)), (D23.k (D22.k q226)), (D23.k (D22.k q227)), by omega, rfl⟩
          ·
           rintro n8 a37 w8 ⟨t9, b, rfl, F33, ok33, q252, q253, q254, q255, q256, q257, q258, q259, q260, q261, q262, q263, hb, rfl⟩
           have hcb := cnt_take_le (x := X) (j := b) (c := a)
           refine wp_seq (wp_seq ?_)
           refine gI a37 t9 ok33 (gM q252 (gM q258 (gS rfl (fun A B G H I d0 d1 => rP (y_lss (eI d0) (eI d1))) (gE ok33 fun a38 s30 ok34 D24 => ?_)))); have F34 := F33.step0 D24.stp; have q264 := D24.k q252; have q265 := D24.k q253; have q266 := D24.k q254; have q267 := D24.k q255; have q268 := D24.k q256; have q269 := D24.k q257; have q270 := D24.k q258; have q271 := D24.k q259; have q272 := D24.k q260; have q273 := D24.k q261; have q274 := D24.k q262; have q275 := D24.k q263; refine tn ?_
           refine cond_p (p := (((b : Nat) : Int) < ((n : Nat) : Int))) (D24.m 2 rfl) (fun c9 => ?_) (fun c9 => ?_)
           ·
            refine wp_skip (tn (wp_seq (wp_block (wp_seq ?_))))
            refine gI a38 s30 ok34 (gM q275 (gM q264 (gT (Ty.ref [(Ty.int (X.getD b 0))]) rfl (fun A B G H I d0 d1 => rP (y_index1 Tryz.underlying22 Tryz.inf3 (eI d0) (eI d1) oM (lst_get Ty.int X 0 b oM))) (gS rfl (fun A B G H I d0 => rP (y_load Tryz.underlying3 rfl (eI d0) rfl)) (gM q266 (gS rfl (fun A B G H I d0 d1 => rP (y_eql (eI d0) (eI d1))) (gE ok34 fun a39 s31 ok35 D25 => ?_))))))); have F35 := F34.step0 D25.stp; have q277 := D25.k q264; have q278 := D25.k q265; have q279 := D25.k q266; have q280 := D25.k q267; have q281 := D25.k q268; have q282 := D25.k q269; have q283 := D25.k q270; have q284 := D25.k q271; have q285 := D25.k q272; have q286 := D25.k q273; have q287 := D25.k q274; have q288 := D25.k q275; refine tn ?_
            refine cond_p (p := ((X.getD b 0) = ((a : Nat) : Int))) (D25.m 5 rfl) (fun c10 => ?_) (fun c10 => ?_)
            ·
             refine gI a39 s31 ok35 (gM q278 (gT (Ty.nat ((List.count ((a : Nat) : Int) (List.take b X)) + 1)) rfl (fun A B G H I d0 => rP ((y_add (eI d0) rfl wX).mono (fun τ _ h => cN (σ := τ) h))) (gB 0 (gE ok35 fun a40 s32 ok36 D26 => ?_)))); refine bn (tn ?_)
             refine gI a40 s32 ok36 (gM (D26.k q277) (gT (Ty.nat (b + 1)) rfl (fun A B G H I d0 => rP ((y_add (eI d0) rfl wX).mono (fun τ _ h => cN (σ := τ) h))) (gB 0 (gE ok36 fun a41 s33 ok37 D27 => ?_))))
             exact tn ⟨n - ((b+1)), by omega, s33, (b+1), rfl, ((F35.step0 D26.stp).step0 D27.stp), ok37, (cJ (D27.m 2 rfl)), (cvi (by (rw [cnt_take_y oM (by first | exact c10 | exact of_decide_eq_true c10)])) (D27.k (D26.m 2 rfl))), (D27.k (D26.k q279)), (D27.k (D26.k q280)), (D27.k (D26.k q281)), (D27.k (D26.k q282)), (D27.k (D26.k q283)), (D27.k (D26.k q284)), (D27.k (D26.k q285)), (D27.k (D26.k q286)), (D27.k (D26.k q287)), (D27.k (D26.k q288)), by omega, rfl⟩
            ·
             refine wp_skip (bn (tn ?_))
             refine gI a39 s31 ok35 (gM q277 (gT (Ty.nat (b + 1)) rfl (fun A B G H I d0 => rP ((y_add (eI d0) rfl wX).mono (fun τ _ h => cN (σ := τ) h))) (gB 0 (gE ok35 fun a42 s34 ok38 D28 => ?_))))
             exact tn ⟨n - ((b+1)), by omega, s34, (b+1), rfl, (F35.step0 D28.stp), ok38, (cJ (D28.m 2 rfl)), (cvi (by (rw [cnt_take_n oM (by first | exact c10 | exact of_decide_eq_false c10)])) (D28.k q278)), (D28.k q279), (D28.k q280), (D28.k q281), (D28.k q282), (D28.k q283), (D28.k q284), (D28.k q285), (D28.k q286), (D28.k q287), (D28.k q288), by omega, rfl⟩
           ·
            have eb : b = n := oM; have hct : List.count ((a : Nat) : Int) (List.take b X) = List.count ((a : Nat) : Int) X := (by rw [eb, ← hXl, List.take_length])
            refine wp_exit (tx (tx (bx (tn ?_))))
            refine gI a38 s30 ok34 (gM q267 (gS rfl (fun A B G H I d0 => rP (y_move (eI d0))) (gS rfl (fun A B G H I d0 => gu H (eI d0) fun hg => y_move (kp (I 22 rfl) G q265)) (gS rfl (fun A B G H I d0 => gu H (eI d0) fun hg => y_move (kp (I 2 rfl) G q271)) (gS rfl (fun A B G H I d0 => gu H (eI d0) fun hg => y_move (kp (I 21 rfl) G q266)) (gT (Ty.grd ((distT many X a) = true) (Ty.ref [(Ty.int (many.getD a 0))])) rfl (fun A B G H I d0 d1 d2 => gu H (eI d2) fun hg => y_index1 Tryz.underlying22 Tryz.inf3 ((ef d0 rfl).1 hg) ((ef d1 rfl).1 hg) oM (lst_get Ty.int many 0 a oM)) (gS rfl (fun A B G H I d0 d1 => gu H (eI d1) fun hg => y_load Tryz.underlying3 rfl ((ef d0 rfl).1 hg) rfl) (gS rfl (fun A B G H I d0 d1 d2 => gu H (eI d2) fun hg => y_eql ((ef d0 rfl).1 hg) ((ef d1 rfl).1 hg)) (gS rfl (fun A B G H I d0 d1 => rP (y_pick_and (eI d0) (eI d1) rfl)) (gB 0 (gE ok34 fun a43 s35 ok39 D29 => ?_))))))))))); refine bn (tn ?_)
            refine gI a43 s35 ok39 (gM (D29.k q266) (gT (Ty.nat (a + 1)) rfl (fun A B G H I d0 => rP ((y_add (eI d0) rfl wX).mono (fun τ _ h => cN (σ := τ) h))) (gB 0 (gE ok39 fun a44 s36 ok40 D30 => ?_))))
            exact tn ⟨many.length - ((a+1)), by omega, s36, (a+1), rfl, ((F34.step0 D29.stp).step0 D30.stp), ok40, (cJ (D30.m 2 rfl)), (cvb (by (rw [distT_succ, hct])) (D30.k (D29.m 9 rfl))), (D30.k (D29.k q268)), (D30.k (D29.k q269)), (D30.k (D29.k q270)), (D30.k (D29.k q271)), (D30.k (D29.k q272)), (D30.k (D29.k q273)), (D30.k (D29.k q274)), (D30.k (D29.k q275)), by omega, rfl⟩
         ·
          have ea : a = many.length := oM
          refine wp_exit (tx (tx (bx (tn (wp_seq (wp_seq ?_))))))
          refine gI a33 s27 ok30 (gM q219 (gS rfl (fun A B G H I d0 => rP (y_not (eI d0))) (gE ok30 fun a45 s37 ok41 D31 => ?_))); have F41 := F30.step0 D31.stp; have q346 := D31.k q220; have q347 := D31.k q221; have q348 := D31.k q222; have q349 := D31.k q223; have q350 := D31.k q224; have q351 := D31.k q225; have q352 := D31.k q226; refine tn ?_
          refine cond_t (D31.m 1 rfl) (fun c11 => ?_) (fun c11 => ?_)
          ·
           have hfd : dist many (colAt n many.length k) = false := (by rw [← hX, ← distT_all, ← ea]; simpa using c11)
           refine wp_exit (tx (bx (tn ?_)))
           refine gI a45 s37 ok41 (gM q346 (gT (Ty.nat (k + 1)) rfl (fun A B G H I d0 => rP ((y_add (eI d0) rfl wX).mono (fun τ _ h => cN (σ := τ) h))) (gB 0 (gE ok41 fun a46 s38 ok42 D32 => ?_))))
           exact tn ⟨(many.length ^ n) - ((k+1)), by omega, s38, (k+1), rfl, (F41.step0 D32.stp), ok42, (cJ (D32.m 2 rfl)), (cvi (by (rw [wntT_no hfd])) (D32.k q347)), (D32.k q348), (D32.k q349), (D32.k q350), (D32.k q351), (D32.k q352), by omega, rfl⟩
          ·
           have hfd : dist many (colAt n many.length k) = true := (by rw [← hX, ← distT_all, ← ea]; simpa using c11)
           refine wp_skip (tn (wp_seq ?_))
           refine gI a45 s37 ok41 (gM (D31.k q227) (gM q350 (gS rfl (fun A B G H I d0 d1 => rP (y_call _ Tryz.func39 rfl rfl my2 (isFirst_fn (X) (rows) _ _ _ (eI d0) (eI d1) oX oX oX))) (gB 0 (gE ok41 fun a47 s39 ok43 D33 => ?_))))); refine tn (wp_seq ?_)
           refine gI a47 s39 ok43 (gM (D33.m 3 rfl) (gE ok43 fun a48 s40 ok44 D34 => ?_)); have F44 := (F41.step0 D33.stp).step0 D34.stp; have q370 := D34.k (D33.k q346); have q371 := D34.k (D33.k q347); have q372 := D34.k (D33.k q348); have q373 := D34.k (D33.k q349); have q374 := D34.k (D33.k q350); have q375 := D34.k (D33.k q351); have q376 := D34.k (D33.k q352); refine tn ?_
           refine cond_t (D34.m 0 rfl) (fun c12 => ?_) (fun c12 => ?_)
           ·
            have hfk : fstP rows (colAt n many.length k) = true := (hX ▸ c12)
            refine gI a48 s40 ok44 (gM q371 (gT (Ty.nat ((wntT n many rows k) + 1)) rfl (fun A B G H I d0 => rP ((y_add (eI d0) rfl wX).mono (fun τ _ h => cN (σ := τ) h))) (gB 0 (gE ok44 fun a49 s41 ok45 D35 => ?_)))); refine bn (tn ?_)
            refine gI a49 s41 ok45 (gM (D35.k q370) (gT (Ty.nat (k + 1)) rfl (fun A B G H I d0 => rP ((y_add (eI d0) rfl wX).mono (fun τ _ h => cN (σ := τ) h))) (gB 0 (gE ok45 fun a50 s42 ok46 D36 => ?_))))
            exact tn ⟨(many.length ^ n) - ((k+1)), by omega, s42, (k+1), rfl, ((F44.step0 D35.stp).step0 D36.stp), ok46, (cJ (D36.m 2 rfl)), (cvi (by (rw [wntT_in hfd hfk])) (D36.k (D35.m 2 rfl))), (D36.k (D35.k q372)), (D36.k (D35.k q373)), (D36.k (D35.k q374)), (D36.k (D35.k q375)), (D36.k (D35.k q376)), by omega, rfl⟩
           ·
            have hfk : fstP rows (colAt n many.length k) = false := (hX ▸ c12)
            refine wp_skip (bn (tn ?_))
            refine gI a48 s40 ok44 (gM q370 (gT (Ty.nat (k + 1)) rfl (fun A B G H I d0 => rP ((y_add (eI d0) rfl wX).mono (fun τ _ h => cN (σ := τ) h))) (gB 0 (gE ok44 fun a51 s43 ok47 D37 => ?_))))
            exact tn ⟨(many.length ^ n) - ((k+1)), by omega, s43, (k+1), rfl, (F44.step0 D37.stp), ok47, (cJ (D37.m 2 rfl)), (cvi (by (rw [wntT_out hfd hfk])) (D37.k q371)), (D37.k q372), (D37.k q373), (D37.k q374), (D37.k q375), (D37.k q376), by omega, rfl⟩
       ·
        have ek : k = many.length ^ n := oM
        refine wp_exit (tx (tx (bx (tn (wp_seq ?_)))))
        refine gI a27 s23 ok25 (gM q178 (gT (Ty.bool true) rfl (fun A B G H I d0 => rP ((y_eql (eI d0) rfl).mono (fun τ _ h => cvb (σ := τ) dE h))) (gS rfl (fun A B G H I d0 => rP (y_move (eI d0))) (gS rfl (fun A B G H I d0 => gu H (eI d0) fun hg => y_move (kp (I 11 rfl) G q177)) (gS rfl (fun A B G H I d0 => gu H (eI d0) fun hg => y_move (kp (I 17 rfl) G q173)) (gS rfl (fun A B G H I d0 d1 d2 => gu H (eI d2) fun hg => y_eql ((ef d0 rfl).1 hg) ((ef d1 rfl).1 hg)) (gS rfl (fun A B G H I d0 d1 => rP (y_pick_and (eI d0) (eI d1) rfl)) (gB 0 (gE ok25 fun a52 s44 ok48 D38 => ?_))))))))); refine tn (wp_ret ?_)
        exact retL1 rfl ok48 (F25.step0 D38.stp) (cvb (by (simp [hLE, ek, wntT_full (fun x => (hE.mem x).trans (hRm x).symm)])) (D38.m 7 rfl))


set_option maxHeartbeats 4000000 in
set_option maxRecDepth 100000 in
theorem cwE_fn (n : Nat) (gens : List (List Int)) (many : List Int) (rows : List (List Int)) (σ : GW)  (v0 v1 v2 v3 v4 : Value) (hv0 : Ty.has (Ty.nat n) σ v0) (hv1 : Ty.has (Ty.lst Ty.ints gens) σ v1) (hv2 : Ty.has (Ty.lst Ty.int many) σ v2) (hv3 : Ty.has (Ty.lst Ty.ints rows) σ v3) (hv4 : Ty.has (Ty.int (0 : Int)) σ v4)  (hok : manyOk (n : Int) many) (heq : alT many many.length = (n : Int)) (hn : 1 ≤ n ∧ n ≤ 12) (hG0 : gensMay (n : Int) gens = 0) (hL : szTo n (fun y => y ∈ gens) n ≤ 5040) (hP : 1000 < many.length ^ n) :
    FnC Tryz.prog 16 #[v0, v1, v2, v3, v4] σ (Ty.bool true) := by
 have hok1 := hok.1
 refine fn_intro0 Tryz.func16 rfl Tryz.ntmps16 (Nat.le_of_ble_eq_true rfl) (fun s0 a0 hle F0 ok0 hargs => ?_)
 have p0 := pA hle (hargs 0 _ rfl) hv0
 have p1 := pA hle (hargs 1 _ rfl) hv1
 have b1 := sl_le p1
 have p2 := pA hle (hargs 2 _ rfl) hv2
 have b2 := sl_le p2
 have p3 := pA hle (hargs 3 _ rfl) hv3
 have b3 := sl_le p3
 have p4 := pA hle (hargs 4 _ rfl) hv4
 clear hargs; refine wp_seq ?_
 refine gI a0 s0 ok0 (gC (Ty.bool false) (gE ok0 fun a1 s1 ok1 D1 => ?_)); have q1 := D1.k p0; have q3 := D1.k p2; refine tn (wp_seq ?_)
 refine gI a1 s1 ok1 (gM q1 (gM (D1.k p1) (gM q3 (gE2 ok1 fun a2 s2 ok2 D2 => ?_))))
 refine tL ok2 (y_callL (L := []) [] [] _ rfl dE Tryz.func41 rfl rfl my3 (withE_fn (n) (gens) (many) _ lW _ _ _ (uL (D2.m 0 rfl)) (uL (D2.m 1 rfl)) (uL (D2.m 2 rfl))  oX oX oX oX)) fun a3 s3 hs1 ok3 r1 sm1 => ?_
 obtain ⟨t1, ⟨g1, hT1, hp1⟩, B1⟩ := r1
 have q17 : At (Ty.tup2 (Ty.nat (g1)) (Ty.int (0 : Int))) s3 a3 (.tmp 29) := Ty.up _ B1.le hT1
 refine tL ok3 (Yld.toL (y_mv q17)) fun a4 s4 hs2 ok4 r2 sm2 => ?_
 have q22 : At (Ty.tup2 (Ty.nat (g1)) (Ty.int (0 : Int))) s4 a4 (.tmp 25) := r2
 clear r2
 refine tL (R := (fun v τ => Pr.has (Ty.pr (Ty.nat (g1))) τ v)) ok4 (Yld.toL (y_ext2_0 q22)) fun a5 s5 hs3 ok5 r3 sm3 => ?_
 have q28 : At (Ty.nat (g1)) s5 a5 (.tmp 30) := r3
 clear r3
 refine tL (R := (fun v τ => Pr.has (Ty.pr (Ty.int (0 : Int))) τ v)) ok5 (Yld.toL (y_ext2_1 (kq hs3 sm3 25 q22))) fun a6 s6 hs4 ok6 r4 sm4 => ?_
 have q34 : At (Ty.int (0 : Int)) s6 a6 (.tmp 31) := r4
 clear r4
 refine tL ok6 (Yld.toL (y_as (kq hs4 sm4 30 q28))) fun a7 s7 hs5 ok7 r5 sm5 => ?_
 have q40 : At (Ty.nat (g1)) s7 a7 (.tmp 11) := r5
 clear r5
 refine tL ok7 (Yld.toL (y_as (kq hs5 sm5 31 q34))) fun a8 s8 hs6 ok8 r6 sm6 => ?_
 have q46 : At (Ty.int (0 : Int)) s8 a8 (.tmp 12) := r6
 clear r6; refine wpList_nil (tn (wp_seq ?_))
 refine gI a8 s8 ok8 (gM (kq hs6 sm6 4 (kq hs5 sm5 4 (kq hs4 sm4 4 (kq hs3 sm3 4 (kq hs2 sm2 4 (kq hs1 sm1 4 (D2.k (D1.k p4)))))))) (gB 0 (gE ok8 fun a9 s9 ok9 D3 => ?_))); refine tn (wp_seq ?_)
 refine gI a9 s9 ok9 (gC (Ty.int (0 : Int)) (gE ok9 fun a10 s10 ok10 D4 => ?_)); have q54 := D4.k (D3.k (kq hs6 sm6 2 (kq hs5 sm5 2 (kq hs4 sm4 2 (kq hs3 sm3 2 (kq hs2 sm2 2 (kq hs1 sm1 2 (D2.k q3)))))))); refine tn (wp_seq ?_)
 refine gI a10 s10 ok10 (gM q54 (gS rfl (fun A B G H I d0 => rP (y_len Tryz.underlying22 (eI d0))) (gS rfl (fun A B G H I d0 => rP (y_gtr (eI d0) rfl)) (gB 0 (gE ok10 fun a11 s11 ok11 D5 => ?_))))); refine tn (wp_seq (wp_seq ?_))
 refine gI a11 s11 ok11 (gC (Ty.int (0 : Int)) (gE ok11 fun a12 s12 ok12 D6 => ?_)); refine tn (wp_block ?_)
 refine loop (fun n1 a13 w1 => ∃ (t2 : GW) (i : Nat), t2.w = w1 ∧ FromL [] s0 t2 ∧ Ok 140 [] a13 ∧ At (Ty.nat i) t2 a13 (.tmp 16) ∧ At (Ty.int (alT many i)) t2 a13 (.tmp 14) ∧ At (Ty.bool (decide ((8 : Int) < (((List.length (many)) : Nat) : Int)))) t2 a13 (.tmp 15) ∧ At (Ty.nat n) t2 a13 (.tmp 0) ∧ At (Ty.lst Ty.int many) t2 a13 (.tmp 2) ∧ At (Ty.lst Ty.ints rows) t2 a13 (.tmp 3) ∧ At (Ty.nat (g1)) t2 a13 (.tmp 11) ∧ At (Ty.int (0 : Int)) t2 a13 (.tmp 12) ∧ At (Ty.int (0 : Int)) t2 a13 (.tmp 13) ∧ (i ≤ many.length) ∧ (∀ k, k < i → 0 ≤ many.getD k 0 ∧ many.getD k 0 ≤ n) ∧ (0 < i → many.length ≤ 8) ∧ n1 = many.length - i) (many.length - (0)) ?_ ?_
 ·
  exact ⟨s12, 0, rfl, ((((((((((((F0.step0 D1.stp).step0 D2.stp).sl hs1).sl hs2).sl hs3).sl hs4).sl hs5).sl hs6).step0 D3.stp).step0 D4.stp).step0 D5.stp).step0 D6.stp), ok12, (cJ (D6.m 0 rfl)), (cvi (by (rfl)) (D6.k (D5.k (D4.m 0 rfl)))), (cvb (by (rfl)) (D6.k (D5.m 3 rfl))), (D6.k (D5.k (D4.k (D3.k (kq hs6 sm6 0 (kq hs5 sm5 0 (kq hs4 sm4 0 (kq hs3 sm3 0 (kq hs2 sm2 0 (kq hs1 sm1 0 (D2.k q1))))))))))), (D6.k (D5.k q54)), (D6.k (D5.k (D4.k (D3.k (kq hs6 sm6 3 (kq hs5 sm5 3 (kq hs4 sm4 3 (kq hs3 sm3 3 (kq hs2 sm2 3 (kq hs1 sm1 3 (D2.k (D1.k p3)))))))))))), (D6.k (D5.k (D4.k (D3.k (kq hs6 sm6 11 q40))))), (D6.k (D5.k (D4.k (D3.k q46)))), (D6.k (D5.k (D4.k (D3.m 1 rfl)))), by omega, fun k h => by omega, by omega, rfl⟩
 ·
  rintro n2 a14 w2 ⟨t3, i, rfl, F13, ok13, q77, q78, q79, q80, q81, q82, q83, q84, q85, hi, hA, hl8, rfl⟩
  refine wp_seq (wp_seq ?_)
  refine gI a14 t3 ok13 (gM q77 (gM q81 (gS rfl (fun A B G H I d0 => rP (y_len Tryz.underlying22 (eI d0))) (gS rfl (fun A B G H I d0 d1 => rP (y_lss (eI d0) (eI d1))) (gE ok13 fun a15 s13 ok14 D7 => ?_))))); have F14 := F13.step0 D7.stp; have q86 := D7.k q77; have q87 := D7.k q78; have q88 := D7.k q79; have q89 := D7.k q80; have q90 := D7.k q81; have q93 := D7.k q84; have q94 := D7.k q85; refine tn ?_
  refine cond_p (p := (((i : Nat) : Int) < (((List.length many) : Nat) : Int))) (D7.m 3 rfl) (fun c1 => ?_) (fun c1 => ?_)
  ·
   refine wp_skip (tn (wp_seq (wp_block (wp_seq (wp_seq ?_)))))
   refine gI a15 s13 ok14 (gM q88 (gS rfl (fun A B G H I d0 => rP (y_move (eI d0))) (gS rfl (fun A B G H I d0 => gu H (eI d0) fun hg => y_move (kp (I 2 rfl) G q90)) (gS rfl (fun A B G H I d0 => gu H (eI d0) fun hg => y_move (kp (I 16 rfl) G q86)) (gT (Ty.grd ((decide ((8 : Int) < (((List.length (many)) : Nat) : Int))) = false) (Ty.ref [(Ty.int (many.getD i 0))])) rfl (fun A B G H I d0 d1 d2 => gu H (eI d2) fun hg => y_index1 Tryz.underlying22 Tryz.inf3 ((ef d0 rfl).1 hg) ((ef d1 rfl).1 hg) oM (lst_get Ty.int many 0 i oM)) (gS rfl (fun A B G H I d0 d1 => gu H (eI d1) fun hg => y_load Tryz.underlying3 rfl ((ef d0 rfl).1 hg) rfl) (gS rfl (fun A B G H I d0 d1 => gu H (eI d1) fun hg => y_lss ((ef d0 rfl).1 hg) rfl) (gS rfl (fun A B G H I d0 d1 => rP (y_pick_or (eI d0) rfl (eI d1))) (gS rfl (fun A B G H I d0 d1 => rP (y_move (eI d0))) (gT (Ty.grd (((decide ((8 : Int) < (((List.length (many)) : Nat) : Int))) || (decide ((many.getD i 0) < (0 : Int)))) = false) (Ty.lst Ty.int many)) rfl (by intro A B G H I d0; refine run_guard H rfl rfl dE (eI d0) (fun hg => ?_); obtain ⟨d1, d2⟩ := Bool.or_eq_false_iff.mp hg; have d2 := of_decide_eq_false d2; exact y_move (kp (I 2 rfl) G q90)) (gT (Ty.grd (((decide ((8 : Int) < (((List.length (many)) : Nat) : Int))) || (decide ((many.getD i 0) < (0 : Int)))) = false) (Ty.nat i)) rfl (by intro A B G H I d0; refine run_guard H rfl rfl dE (eI d0) (fun hg => ?_); obtain ⟨d3, d4⟩ := Bool.or_eq_false_iff.mp hg; have d4 := of_decide_eq_false d4; exact y_move (kp (I 16 rfl) G q86)) ?_)))))))))))
   refine gT (Ty.grd (((decide ((8 : Int) < (((List.length (many)) : Nat) : Int))) || (decide ((many.getD i 0) < (0 : Int)))) = false) (Ty.ref [(Ty.int (many.getD i 0))])) rfl (by intro A B G H I d0 d1 d2; refine run_guard H rfl rfl dE (eI d2) (fun hg => ?_); obtain ⟨d5, d6⟩ := Bool.or_eq_false_iff.mp hg; have d6 := of_decide_eq_false d6; exact y_index1 Tryz.underlying22 Tryz.inf3 ((ef d0 rfl).1 hg) ((ef d1 rfl).1 hg) oM (lst_get Ty.int many 0 i oM)) (gT (Ty.grd (((decide ((8 : Int) < (((List.length (many)) : Nat) : Int))) || (decide ((many.getD i 0) < (0 : Int)))) = false) (Ty.int (many.getD i 0))) rfl (by intro A B G H I d0 d1; refine run_guard H rfl rfl dE (eI d1) (fun hg => ?_); obtain ⟨d7, d8⟩ := Bool.or_eq_false_iff.mp hg; have d8 := of_decide_eq_false d8; exact y_load Tryz.underlying3 rfl ((ef d0 rfl).1 hg) rfl) (gT (Ty.grd (((decide ((8 : Int) < (((List.length (many)) : Nat) : Int))) || (decide ((many.getD i 0) < (0 : Int)))) = false) (Ty.nat n)) rfl (by intro A B G H I d0; refine run_guard H rfl rfl dE (eI d0) (fun hg => ?_); obtain ⟨d9, d10⟩ := Bool.or_eq_false_iff.mp hg; have d10 := of_decide_eq_false d10; exact y_move (kp (I 0 rfl) G q89)) (gT (Ty.grd (((decide ((8 : Int) < (((List.length (many)) : Nat) : Int))) || (decide ((many.getD i 0) < (0 : Int)))) = false) (Ty.bool (decide (((n : Nat) : Int) < (many.getD i 0))))) rfl (by intro A B G H I d0 d1 d2; refine run_guard H rfl rfl dE (eI d2) (fun hg => ?_); obtain ⟨d11, d12⟩ := Bool.or_eq_false_iff.mp hg; have d12 := of_decide_eq_false d12; exact y_gtr ((ef d0 rfl).1 hg) ((ef d1 rfl).1 hg)) (gS rfl (fun A B G H I d0 d1 => rP (y_pick_or (eI d0) rfl (eI d1))) (gE ok14 fun a16 s14 ok15 D8 => ?_))))); have q96 := D8.k q86; have q100 := D8.k q90; refine tn ?_
   refine cond_t (D8.m 15 rfl) (fun c2 => ?_) (fun c2 => ?_)
   ·
    exfalso
    (simp only [Bool.or_eq_true, decide_eq_true_eq] at c2; have h_ := hok.2 i oM; omega)
   ·
    obtain ⟨d13, d14⟩ := Bool.or_eq_false_iff.mp c2
    obtain ⟨d15, d16⟩ := Bool.or_eq_false_iff.mp d13
    replace d16 := of_decide_eq_false d16
    replace d14 := of_decide_eq_false d14
    simp only [Bool.or_eq_false_iff, decide_eq_false_iff_not] at c2; have hA2 : ∀ k, k < i + 1 → 0 ≤ many.getD k 0 ∧ many.getD k 0 ≤ n := fun k hk => (by (by_cases e_ : k = i; (rw [e_]; omega); exact hA k oM))
    refine wp_skip (tn ?_)
    refine gI a16 s14 ok15 (gM (D8.k q87) (gM q100 (gM q96 (gT (Ty.ref [(Ty.int (many.getD i 0))]) rfl (fun A B G H I d0 d1 => rP (y_index1 Tryz.underlying22 Tryz.inf3 (eI d0) (eI d1) oM (lst_get Ty.int many 0 i oM))) (gS rfl (fun A B G H I d0 => rP (y_load Tryz.underlying3 rfl (eI d0) rfl)) (gT (Ty.int (wr64 ((alT many i) + (many.getD i 0)))) rfl (fun A B G H I d0 d1 => rP (y_addW (eI d0) (eI d1))) (gB 0 (gE ok15 fun a17 s15 ok16 D9 => ?_)))))))); refine bn (tn ?_)
    refine gI a17 s15 ok16 (gM (D9.k q96) (gT (Ty.nat (i + 1)) rfl (fun A B G H I d0 => rP ((y_add (eI d0) rfl wX).mono (fun τ _ h => cN (σ := τ) h))) (gB 0 (gE ok16 fun a18 s16 ok17 D10 => ?_))))
    exact tn ⟨many.length - ((i+1)), by omega, s16, (i+1), rfl, (((F14.step0 D8.stp).step0 D9.stp).step0 D10.stp), ok17, (cJ (D10.m 2 rfl)), (cvi (by (rfl)) (D10.k (D9.m 6 rfl))), (D10.k (D9.k (D8.k q88))), (D10.k (D9.k (D8.k q89))), (D10.k (D9.k q100)), (D10.k (D9.k (D8.k (D7.k q82)))), (D10.k (D9.k (D8.k (D7.k q83)))), (D10.k (D9.k (D8.k q93))), (D10.k (D9.k (D8.k q94))), by omega, hA2, fun _ => by omega, rfl⟩
  ·
   have ei : i = many.length := oM; rw [← ei] at heq
   refine wp_exit (tx (tx (bx (tn (wp_seq (wp_seq ?_))))))
   refine gI a15 s13 ok14 (gM q88 (gE ok14 fun a19 s17 ok18 D11 => ?_)); have q125 := D11.k q89; refine tn ?_
   refine cond_t (D11.m 0 rfl) (fun c3 => ?_) (fun c3 => ?_)
   ·
    exfalso
    (simp only [decide_eq_true_eq] at c3; omega)
   ·
    refine wp_seq ?_
    refine gI a19 s17 ok18 (gM (D11.k q87) (gM q125 (gS rfl (fun A B G H I d0 d1 => rP (y_neq (eI d0) (eI d1))) (gE ok18 fun a20 s18 ok19 D12 => ?_)))); refine tn ?_
    refine cond_p (p := ((alT many i) ≠ ((n : Nat) : Int))) (D12.m 2 rfl) (fun c4 => ?_) (fun c4 => ?_)
    ·
     exfalso
     exact c4 heq
    ·
     refine wp_skip (tn (wp_seq (wp_seq ?_)))
     refine gI a20 s18 ok19 (gM (D12.k (D11.k q94)) (gT (Ty.bool false) rfl (fun A B G H I d0 => rP ((y_neq (eI d0) rfl).mono (fun τ _ h => cvb (σ := τ) dE h))) (gE ok19 fun a21 s19 ok20 D13 => ?_))); refine tn ?_
     refine cond_t (D13.m 1 rfl) (fun c5 => (by cases c5)) (fun _ => ?_)
     refine wp_skip (tn (wp_seq (wp_seq ?_)))
     refine gI a21 s19 ok20 (gM (D13.k (D12.k (D11.k q90))) (gS rfl (fun A B G H I d0 => rP (y_len Tryz.underlying22 (eI d0))) (gM (D13.k (D12.k q125)) (gS rfl (fun A B G H I d0 d1 => rP (y_call _ Tryz.func36 rfl rfl my2 (power_fn ((List.length many)) (n) _ _ _ (cvi (σ := B) (by first | omega | assumption | cases hg | exact absurd (of_decide_eq_true hg) hbad) (ef d0 rfl)) (eI d1) (by first | omega | assumption | cases hg | exact absurd (of_decide_eq_true hg) hbad) (by first | omega | assumption | cases hg | exact absurd (of_decide_eq_true hg) hbad)))) (gS rfl (fun A B G H I d0 => rP (y_gtr (eI d0) rfl)) (gE ok20 fun a22 s20 ok21 D14 => ?_)))))); refine tn ?_
     refine cond_p (p := ((1000 : Int) < (((((List.length many)) ^ n) : Nat) : Int))) (D14.m 4 rfl) (fun c6 => ?_) (fun c6 => ?_)
     ·
      refine wp_seq ?_
      refine gI a22 s20 ok21 (gM (D14.k (D13.k (D12.k (D11.k q93)))) (gT (Ty.bool true) rfl (fun A B G H I d0 => rP ((y_eql (eI d0) rfl).mono (fun τ _ h => cvb (σ := τ) dE h))) (gB 0 (gE ok21 fun a23 s21 ok22 D15 => ?_)))); refine tn (wp_ret (tr ?_))
      exact retL1 rfl ok22 (((((F14.step0 D11.stp).step0 D12.stp).step0 D13.stp).step0 D14.stp).step0 D15.stp) (D15.m 2 rfl)
     ·
      exfalso
      omega


theorem cwM_fn (n : Nat) (gens : List (List Int)) (many : List Int) (rows : List (List Int)) (σ : GW) (v0 v1 v2 v3 v4 : Value) (hv0 : Ty.has (Ty.nat n) σ v0) (hv1 : Ty.has (Ty.lst Ty.ints gens) σ v1) (hv2 : Ty.has (Ty.lst Ty.int many) σ v2) (hv3 : Ty.has (Ty.lst Ty.ints rows) σ v3) (hv4 : Ty.has (Ty.int (0 : Int)) σ v4) (hn : 1 ≤ n ∧ n ≤ 12) (hG0 : gensMay (n : Int) gens = 0) (hL : szTo n (fun y => y ∈ gens) n ≤ 5040) (hRr : ∀ x ∈ rows, RowN n x) (hRm : ∀ x, x ∈ rows ↔ Cl n (fun y => y ∈ gens) x) (hRl : rows.length ≤ 5040) (hok : manyOk (n : Int) many) (heq : alT many many.length = (n : Int)) :
    FnC Tryz.prog 16 #[v0, v1, v2, v3, v4] σ (Ty.bool true) := by
  by_cases h1 : many.length ^ n ≤ 1000
  · exact cwF_fn n gens many rows σ v0 v1 v2 v3 v4 hv0 hv1 hv2 hv3 hv4 hok heq hn hG0 hL h1 hRr hRm hRl
  · exact cwE_fn n gens many rows σ v0 v1 v2 v3 v4 hv0 hv1 hv2 hv3 hv4 hok heq hn hG0 hL oM


end Go.Proofs.YtkjifbgofckfeaaGreat
