/- The functions that the law ColourMade reaches, each by its contract. Part 7. -/
import Derived.Test.YtkjifbgofckfeaaGreatColourMadeW6
namespace Go.Proofs.YtkjifbgofckfeaaGreat
open Go.KL

set_option maxHeartbeats 4000000 in
set_option maxRecDepth 100000 in
theorem countD_fn (n : Nat) (gens : List (List Int)) (C : Nat) (σ : GW) (hlow : Low [] σ) (v0 v1 v2 : Value) (hv0 : Ty.has (Ty.nat n) σ v0) (hv1 : Ty.has (Ty.lst Ty.ints gens) σ v1) (hv2 : Ty.has (Ty.nat C) σ v2)  (hC : C ≤ 8) (hG0 : gensMay (n : Int) gens = 0) (hL : szTo n (fun y => y ∈ gens) n ≤ 5040) :
    FnL Tryz.prog 13 #[v0, v1, v2] σ [] (fun v τ => ∃ (z : Nat), ∃ (e : Int), (Ty.has (Ty.tup2 (Ty.nat z) (Ty.int e)) τ v) ∧ (CntP (n : Int) gens (C : Int) z e)) := by
 refine fn_introL hlow Tryz.func13 rfl Tryz.ntmps13 (Nat.le_of_ble_eq_true rfl) (fun a0 F0 ok0 hargs => ?_)
 have p0 := pB (hargs 0 _ rfl) hv0
 have p1 := pB (hargs 1 _ rfl) hv1
 have b1 := sl_le p1
 have p2 := pB (hargs 2 _ rfl) hv2
 clear hargs; refine wp_seq ?_
 refine gI a0 σ ok0 (gC (Ty.int (0 : Int)) (gC (Ty.int (0 : Int)) (gE ok0 fun a1 s1 ok1 D1 => ?_))); have q3 := D1.k p2; refine tn (wp_seq (wp_seq ?_))
 refine gI a1 s1 ok1 (gM q3 (gS rfl (fun A B G H I d0 => rP (y_lss (eI d0) rfl)) (gS rfl (fun A B G H I d0 => rP (y_move (eI d0))) (gS rfl (fun A B G H I d0 => gu H (eI d0) fun hg => y_move (kp (I 2 rfl) G q3)) (gS rfl (fun A B G H I d0 d1 => gu H (eI d1) fun hg => y_gtr ((ef d0 rfl).1 hg) rfl) (gS rfl (fun A B G H I d0 d1 => rP (y_pick_or (eI d0) rfl (eI d1))) (gE ok1 fun a2 s2 ok2 D2 => ?_))))))); refine tn ?_
 refine cond_t (D2.m 5 rfl) (fun c1 => ?_) (fun c1 => ?_)
 ·
  exfalso
  simp only [Bool.or_eq_true, decide_eq_true_eq] at c1; omega
 ·
  obtain ⟨d1, d2⟩ := Bool.or_eq_false_iff.mp c1
  replace d1 := of_decide_eq_false d1
  replace d2 := of_decide_eq_false d2
  refine wp_skip (tn (wp_seq ?_))
  refine gI a2 s2 ok2 (gM (D2.k (D1.k p0)) (gM (D2.k (D1.k p1)) (gE2 ok2 fun a3 s3 ok3 D3 => ?_)))
  refine tL ok3 (y_callL (L := []) [] [] _ rfl dE Tryz.func9 rfl rfl my2 (cKindsC_fn (n) (gens) _ lW _ _ (uL (D3.m 0 rfl)) (uL (D3.m 1 rfl))  (by first | omega | assumption | exact hKP.srt) (by first | omega | assumption | exact hKP.srt))) fun a4 s4 hs1 ok4 r1 sm1 => ?_
  obtain ⟨t1, ⟨g1, hT1, hp1⟩, B1⟩ := r1
  have q12 : At (Ty.tup2 (Ty.lstc 2 kndC (g1)) (Ty.int (0 : Int))) s4 a4 (.tmp 29) := Ty.up _ B1.le hT1
  refine tL ok4 (Yld.toL (y_mv q12)) fun a5 s5 hs2 ok5 r2 sm2 => ?_
  have q14 : At (Ty.tup2 (Ty.lstc 2 kndC (g1)) (Ty.int (0 : Int))) s5 a5 (.tmp 26) := r2
  clear r2
  refine tL (R := (fun v τ => Pr.has (Ty.pr (Ty.lstc 2 kndC (g1))) τ v)) ok5 (Yld.toL (y_ext2_0 q14)) fun a6 s6 hs3 ok6 r3 sm3 => ?_
  have q17 : At (Ty.lstc 2 kndC (g1)) s6 a6 (.tmp 30) := r3
  clear r3
  refine tL (R := (fun v τ => Pr.has (Ty.pr (Ty.int (0 : Int))) τ v)) ok6 (Yld.toL (y_ext2_1 (kq hs3 sm3 26 q14))) fun a7 s7 hs4 ok7 r4 sm4 => ?_
  have q20 : At (Ty.int (0 : Int)) s7 a7 (.tmp 31) := r4
  clear r4
  refine tL ok7 (Yld.toL (y_as (kq hs4 sm4 30 q17))) fun a8 s8 hs5 ok8 r5 sm5 => ?_
  have q23 : At (Ty.lstc 2 kndC (g1)) s8 a8 (.tmp 8) := r5
  clear r5
  refine tL ok8 (Yld.toL (y_as (kq hs5 sm5 31 q20))) fun a9 s9 hs6 ok9 r6 sm6 => ?_
  have q26 : At (Ty.int (0 : Int)) s9 a9 (.tmp 9) := r6
  clear r6; refine wpList_nil (tn (wp_seq (wp_seq ?_)))
  obtain ⟨E, hE, hKP⟩ := hp1
  obtain ⟨hn, hGl, hG⟩ := may_nat hG0
  have hEr : ∀ r ∈ E, RowN n r := fun r hr => ((hE.mem r).1 hr).row hn hG
  have hEl : E.length ≤ 5040 := (by rw [hE.len]; exact hL)
  have hB := hKP.bds hn hEr hEl
  have hne : 0 < E.length := List.length_pos_of_mem ((hE.mem _).2 .one)
  have hKl := hKP.len
  rw [List.length_map] at hKl
  have hsz : kSz g1 g1.length = E.length := (by unfold kSz; rw [List.take_length]; exact hKP.total)
  refine gI a9 s9 ok9 (gM q26 (gT (Ty.bool false) rfl (fun A B G H I d0 => rP ((y_neq (eI d0) rfl).mono (fun τ _ h => cvb (σ := τ) dE h))) (gE ok9 fun a10 s10 ok10 D4 => ?_))); refine tn ?_
  refine cond_t (D4.m 1 rfl) (fun c2 => (by cases c2)) (fun _ => ?_)
  refine wp_skip (tn (wp_seq ?_))
  refine gI a10 s10 ok10 (gC (Ty.int (0 : Int)) (gC (Ty.int (0 : Int)) (gC (Ty.int (0 : Int)) (gE ok10 fun a11 s11 ok11 D5 => ?_)))); have q32 := D5.k (D4.k (kq hs6 sm6 8 q23)); refine tn (wp_seq (wp_seq ?_))
  refine gI a11 s11 ok11 (gM q32 (gS rfl (fun A B G H I d0 => rP (y_len Tryz.underlying31 (eI d0))) (gT (Ty.int (0 : Int)) rfl (fun A B G H I => rP (y_move rfl)) (gE ok11 fun a12 s12 ok12 D6 => ?_)))); refine tn (wp_block ?_)
  refine loop (fun n1 a13 w1 => ∃ (t2 : GW) (j : Nat), t2.w = w1 ∧ FromL [] σ t2 ∧ Ok 85 [] a13 ∧ At (Ty.nat j) t2 a13 (.tmp 37) ∧ At (Ty.nat (kSz g1 j)) t2 a13 (.tmp 10) ∧ At (Ty.nat C) t2 a13 (.tmp 2) ∧ At (Ty.lstc 2 kndC (g1)) t2 a13 (.tmp 8) ∧ At (Ty.int (0 : Int)) t2 a13 (.tmp 11) ∧ At (Ty.int (0 : Int)) t2 a13 (.tmp 12) ∧ At (Ty.lstc 2 kndC (g1)) t2 a13 (.tmp 35) ∧ At (Ty.nat (List.length (g1))) t2 a13 (.tmp 36) ∧ (j ≤ g1.length) ∧ n1 = g1.length - j) (g1.length - (0)) ?_ ?_
  ·
   exact ⟨s12, 0, rfl, ((((((((((((F0.step0 D1.stp).step0 D2.stp).step0 D3.stp).sl hs1).sl hs2).sl hs3).sl hs4).sl hs5).sl hs6).step0 D4.stp).step0 D5.stp).step0 D6.stp), ok12, (cJ (D6.m 2 rfl)), (cvi (by (simp [kSz])) (D6.k (D5.m 0 rfl))), (D6.k (D5.k (D4.k (kq hs6 sm6 2 (kq hs5 sm5 2 (kq hs4 sm4 2 (kq hs3 sm3 2 (kq hs2 sm2 2 (kq hs1 sm1 2 (D3.k (D2.k q3))))))))))), (D6.k q32), (D6.k (D5.m 1 rfl)), (D6.k (D5.m 2 rfl)), (D6.m 0 rfl), (D6.m 1 rfl), by omega, rfl⟩
  ·
   rintro n2 a14 w2 ⟨t3, j, rfl, F13, ok13, q44, q45, q46, q47, q48, q49, q50, q51, hj, rfl⟩
   have hkb := kSz_bd (j := j) hB
   refine wp_seq ?_
   refine gI a14 t3 ok13 (gS rfl (fun A B G H I => rP (y_lss (kp (I 37 rfl) G q44) (kp (I 36 rfl) G q51))) (gE ok13 fun a15 s13 ok14 D7 => ?_)); have F14 := F13.step0 D7.stp; have q52 := D7.k q44; have q53 := D7.k q45; have q54 := D7.k q46; have q55 := D7.k q47; have q56 := D7.k q48; have q57 := D7.k q49; have q58 := D7.k q50; refine tn (wp_seq ?_)
   refine cond_p (p := (((j : Nat) : Int) < (((List.length (g1)) : Nat) : Int))) (D7.m 0 rfl) (fun c3 => ?_) (fun c3 => ?_)
   ·
    have hmb := hB.many _ (mem_atD ([], 0) (show j < g1.length by omega))
    refine wp_skip (tn (wp_seq (wp_block (wp_seq ?_))))
    refine gI a15 s13 ok14 (gT (Ty.ref [(Ty.lst Ty.int (((g1).getD j ([], 0))).1), (Ty.int (((g1).getD j ([], 0))).2)]) rfl (fun A B G H I => rP (y_indexc (i := ((j : Nat) : Int)) ([], 0) Tryz.underlying31 Tryz.inf55 (kp (I 35 rfl) G q58) (kp (I 37 rfl) G q52) oM oM dE (fun _ => rfl))) (gS rfl (fun A B G H I d0 => rP (y_loadagg Tryz.underlying55 Tryz.inf55 (eI d0))) (gR (Pr.ownp 61 [(Ty.val (Value.slice none 0 0)), (Ty.int (0 : Int))]) rfl (by intro A B G H I; exact rP (y_alloc Tryz.inf55 rfl (alloc_vals (vs := [.slice none 0 0, .int .i64 0]) rfl))) (gE2 ok14 fun a16 s14 ok15 D8 => ?_))))
    obtain ⟨x1, hx1⟩ : ∃ x, a16.eval (.tmp 14) = x := ⟨_, rfl⟩
    have q70 : At (Ty.val x1) s14 a16 (.tmp 14) := hx1
    have o1 := al2 (R := (Pr.ownp 61 [(Ty.val (Value.slice none 0 0)), (Ty.int (0 : Int))])) hx1 (D8.done 2 dE)
    refine tailL0 (L := [61]) (R := (fun _ τ => OwnP τ 61 x1 [(Ty.lst Ty.int (((g1).getD j ([], 0))).1), (Ty.int (((g1).getD j ([], 0))).2)])) rfl rfl (YldM.toL (m_storeagg Tryz.inf55 dE o1 q70 rfl (D8.m 1 rfl) (by intro U hU; simp only [List.mem_cons, List.not_mem_nil, or_false] at hU; rcases hU with rfl | rfl <;> first | exact one_val rfl | exact one_sl | exact one_flt | exact one_cx | exact one_ref))) (fun v1 s15 hs7 r7 => ?_)
    have q71 := kpL hs7 dE rfl (D8.k q52); have q72 := kpL hs7 dE rfl (D8.k q53); have q73 := kpL hs7 dE rfl (D8.k q54); have q74 := kpL hs7 dE rfl (D8.k q55); have q75 := kpL hs7 dE rfl (D8.k q56); have q76 := kpL hs7 dE rfl (D8.k q57); have q77 := kpL hs7 dE rfl (D8.k q58); have q78 := kpL hs7 dE rfl (D8.k (D7.k q51)); have q79 := kpL hs7 dE rfl q70
    have o2 : OwnP s15 61 x1 [(Ty.lst Ty.int (((g1).getD j ([], 0))).1), (Ty.int (((g1).getD j ([], 0))).2)] := r7
    clear r7; refine wpList_nil (tn ?_)
    refine gI a16 s15 ok15 (gM q72 (gT (Ty.val (ptrAt x1 1)) rfl (fun A B G H I => rP (ownp_field Tryz.fld55_1 Tryz.inf3 dE (OwnP.k0 o2 G) (kp (I 14 rfl) G q79))) (gS rfl (fun A B G H I d0 => rP (ownp_load Tryz.underlying3 rfl (OwnP.k0 o2 G) (eI d0) rfl)) (gT (Ty.int ((((kSz g1 j) : Nat) : Int) + (((g1).getD j ([], 0))).2)) rfl (fun A B G H I d0 d1 => rP (y_add (eI d0) (eI d1) wX)) (gB 0 (gE ok15 fun a17 s16 ok16 D9 => ?_)))))); have o3 := OwnP.k0 o2 D9.stp; refine bn (tn ?_)
    refine gI a17 s16 ok16 (gT (Ty.nat (j + 1)) rfl (fun A B G H I => rP ((y_add (kp (I 37 rfl) G (D9.k q71)) rfl wX).mono (fun τ _ h => cN (σ := τ) h))) (gS rfl (fun A B G H I d0 => rP (y_move (eI d0))) (gE ok16 fun a18 s17 ok17 D10 => ?_)))
    exact tn ⟨g1.length - ((j+1)), by omega, s17, (j+1), rfl, ((((F14.step0 D8.stp).sl hs7).step0 D9.stp).step0 D10.stp), ok17, (cJ (D10.m 1 rfl)), (cvi (by ((rw [kSz_succ oM]; omega))) (D10.k (D9.m 4 rfl))), (D10.k (D9.k q73)), (D10.k (D9.k q74)), (D10.k (D9.k q75)), (D10.k (D9.k q76)), (D10.k (D9.k q77)), (D10.k (D9.k q78)), by omega, rfl⟩
   ·
    have ej : j = g1.length := oM
    refine wp_exit (tx (tx (bx (tn (wp_seq (wp_seq ?_))))))
    refine gI a15 s13 ok14 (gM q55 (gS rfl (fun A B G H I d0 => rP (y_len Tryz.underlying31 (eI d0))) (gT (Ty.int (0 : Int)) rfl (fun A B G H I => rP (y_move rfl)) (gE ok14 fun a19 s18 ok18 D11 => ?_))))
    have q104 : At (Ty.nat E.length) s18 a19 (.tmp 10) := (cvi (by (rw [ej, hsz])) (D11.k q53))
    refine tn (wp_block ?_)
    refine loop (fun n3 a20 w3 => ∃ (t4 : GW) (j : Nat), t4.w = w3 ∧ FromL [] σ t4 ∧ Ok 85 [] a20 ∧ At (Ty.nat j) t4 a20 (.tmp 48) ∧ At (Ty.nat (kQuo C n E.length g1 j)) t4 a20 (.tmp 11) ∧ At (Ty.nat (kRem C n E.length g1 j)) t4 a20 (.tmp 12) ∧ At (Ty.nat E.length) t4 a20 (.tmp 10) ∧ At (Ty.nat C) t4 a20 (.tmp 2) ∧ At (Ty.lstc 2 kndC (g1)) t4 a20 (.tmp 46) ∧ At (Ty.nat (List.length (g1))) t4 a20 (.tmp 47) ∧ (j ≤ g1.length) ∧ n3 = g1.length - j) (g1.length - (0)) ?_ ?_
    ·
     exact ⟨s18, 0, rfl, (F14.step0 D11.stp), ok18, (cJ (D11.m 2 rfl)), (cvi (by (simp [kQuo])) (D11.k q56)), (cvi (by (simp [kRem])) (D11.k q57)), q104, (D11.k q54), (D11.m 0 rfl), (D11.m 1 rfl), by omega, rfl⟩
    ·
     rintro n4 a21 w4 ⟨t5, j, rfl, F20, ok19, q105, q106, q107, q108, q109, q110, q111, hj, rfl⟩
     have hqb := kQuo_bd (j := j) (s := E.length) hB hC
     have hrb := kRem_bd (j := j) (s := E.length) hB hC
     refine wp_seq ?_
     refine gI a21 t5 ok19 (gS rfl (fun A B G H I => rP (y_lss (kp (I 48 rfl) G q105) (kp (I 47 rfl) G q111))) (gE ok19 fun a22 s19 ok20 D12 => ?_)); have F21 := F20.step0 D12.stp; have q112 := D12.k q105; have q113 := D12.k q106; have q114 := D12.k q107; have q115 := D12.k q108; have q117 := D12.k q110; refine tn (wp_seq ?_)
     refine cond_p (p := (((j : Nat) : Int) < (((List.length (g1)) : Nat) : Int))) (D12.m 0 rfl) (fun c4 => ?_) (fun c4 => ?_)
     ·
      have hmb := hB.many _ (mem_atD ([], 0) (show j < g1.length by omega)); have hvl := hB.len _ (mem_atD ([], 0) (show j < g1.length by omega)); have hvb := hB.v _ (mem_atD ([], 0) (show j < g1.length by omega)); have hvs := hB.sum _ (mem_atD ([], 0) (show j < g1.length by omega))
      refine wp_skip (tn (wp_seq (wp_block (wp_seq ?_))))
      refine gI a22 s19 ok20 (gT (Ty.ref [(Ty.lst Ty.int (((g1).getD j ([], 0))).1), (Ty.int (((g1).getD j ([], 0))).2)]) rfl (fun A B G H I => rP (y_indexc (i := ((j : Nat) : Int)) ([], 0) Tryz.underlying31 Tryz.inf55 (kp (I 46 rfl) G q117) (kp (I 48 rfl) G q112) oM oM dE (fun _ => rfl))) (gS rfl (fun A B G H I d0 => rP (y_loadagg Tryz.underlying55 Tryz.inf55 (eI d0))) (gR (Pr.ownp 62 [(Ty.val (Value.slice none 0 0)), (Ty.int (0 : Int))]) rfl (by intro A B G H I; exact rP (y_alloc Tryz.inf55 rfl (alloc_vals (vs := [.slice none 0 0, .int .i64 0]) rfl))) (gE2 ok20 fun a23 s20 ok21 D13 => ?_))))
      obtain ⟨x2, hx2⟩ : ∃ x, a23.eval (.tmp 16) = x := ⟨_, rfl⟩
      have q128 : At (Ty.val x2) s20 a23 (.tmp 16) := hx2
      have o4 := al2 (R := (Pr.ownp 62 [(Ty.val (Value.slice none 0 0)), (Ty.int (0 : Int))])) hx2 (D13.done 2 dE)
      refine tailL0 (L := [62]) (R := (fun _ τ => OwnP τ 62 x2 [(Ty.lst Ty.int (((g1).getD j ([], 0))).1), (Ty.int (((g1).getD j ([], 0))).2)])) rfl rfl (YldM.toL (m_storeagg Tryz.inf55 dE o4 q128 rfl (D13.m 1 rfl) (by intro U hU; simp only [List.mem_cons, List.not_mem_nil, or_false] at hU; rcases hU with rfl | rfl <;> first | exact one_val rfl | exact one_sl | exact one_flt | exact one_cx | exact one_ref))) (fun v2 s21 hs8 r8 => ?_)
      have q129 := kpL hs8 dE rfl (D13.k q112); have q130 := kpL hs8 dE rfl (D13.k q113); have q131 := kpL hs8 dE rfl (D13.k q114); have q132 := kpL hs8 dE rfl (D13.k q115); have q133 := kpL hs8 dE rfl (D13.k (D12.k q109)); have q134 := kpL hs8 dE rfl (D13.k q117); have q135 := kpL hs8 dE rfl (D13.k (D12.k q111)); have q136 := kpL hs8 dE rfl q128
      have o5 : OwnP s21 62 x2 [(Ty.lst Ty.int (((g1).getD j ([], 0))).1), (Ty.int (((g1).getD j ([], 0))).2)] := r8
      clear r8; refine wpList_nil (tn (wp_seq ?_))
      refine gI a23 s21 ok21 (gT (Ty.val (ptrAt x2 1)) rfl (fun A B G H I => rP (ownp_field Tryz.fld55_1 Tryz.inf3 dE (OwnP.k0 o5 G) (kp (I 16 rfl) G q136))) (gS rfl (fun A B G H I d0 => rP (ownp_load Tryz.underlying3 rfl (OwnP.k0 o5 G) (eI d0) rfl)) (gB 0 (gE ok21 fun a24 s22 ok22 D14 => ?_)))); have o6 := OwnP.k0 o5 D14.stp; refine tn (wp_seq (wp_seq ?_))
      refine gI a24 s22 ok22 (gT (Ty.val (ptrAt x2 0)) rfl (fun A B G H I => rP (ownp_field Tryz.fld55_0 Tryz.inf22 dE (OwnP.k0 o6 G) (kp (I 16 rfl) G (D14.k q136)))) (gS rfl (fun A B G H I d0 => rP (ownp_load Tryz.underlying22 rfl (OwnP.k0 o6 G) (eI d0) rfl)) (gS rfl (fun A B G H I d0 => rP (y_len Tryz.underlying22 (eI d0))) (gT (Ty.int (0 : Int)) rfl (fun A B G H I => rP (y_move rfl)) (gE ok22 fun a25 s23 ok23 D15 => ?_))))); have o7 := OwnP.k0 o6 D15.stp; have q155 := D15.m 1 rfl
      have b2 := sl_le q155
      refine tn (wp_block ?_)
      refine loop (fun n5 a26 w5 => ∃ (t6 : GW) (a : Nat), t6.w = w5 ∧ FromL [] σ t6 ∧ Ok 85 [] a26 ∧ At (Ty.nat a) t6 a26 (.tmp 57) ∧ At (Ty.nat (((g1.getD j ([], 0)).2).toNat * C ^ vsum ((g1.getD j ([], 0)).1) a)) t6 a26 (.tmp 17) ∧ At (Ty.nat j) t6 a26 (.tmp 48) ∧ At (Ty.nat (kQuo C n E.length g1 j)) t6 a26 (.tmp 11) ∧ At (Ty.nat (kRem C n E.length g1 j)) t6 a26 (.tmp 12) ∧ At (Ty.nat E.length) t6 a26 (.tmp 10) ∧ At (Ty.nat C) t6 a26 (.tmp 2) ∧ At (Ty.lstc 2 kndC (g1)) t6 a26 (.tmp 46) ∧ At (Ty.nat (List.length (g1))) t6 a26 (.tmp 47) ∧ At (Ty.lst Ty.int (((g1).getD j ([], 0))).1) t6 a26 (.tmp 55) ∧ At (Ty.nat (List.length (((g1).getD j ([], 0))).1)) t6 a26 (.tmp 56) ∧ (a ≤ ((g1.getD j ([], 0)).1).length) ∧ n5 = ((g1.getD j ([], 0)).1).length - a) (((g1.getD j ([], 0)).1).length - (0)) ?_ ?_
      ·
       exact ⟨s23, 0, rfl, ((((F21.step0 D13.stp).sl hs8).step0 D14.stp).step0 D15.stp), ok23, (cJ (D15.m 3 rfl)), (cvi (by ((rw [vsum, Nat.pow_zero, Nat.mul_one]; omega))) (D15.k (D14.m 2 rfl))), (D15.k (D14.k q129)), (D15.k (D14.k q130)), (D15.k (D14.k q131)), (D15.k (D14.k q132)), (D15.k (D14.k q133)), (D15.k (D14.k q134)), (D15.k (D14.k q135)), q155, (D15.m 2 rfl), by omega, rfl⟩
      ·
       rintro n6 a27 w6 ⟨t7, a, rfl, F26, ok24, q158, q159, q160, q161, q162, q163, q164, q165, q166, q167, q168, ha, rfl⟩
       refine wp_seq ?_
       refine gI a27 t7 ok24 (gS rfl (fun A B G H I => rP (y_lss (kp (I 57 rfl) G q158) (kp (I 56 rfl) G q168))) (gE ok24 fun a28 s24 ok25 D16 => ?_)); have F27 := F26.step0 D16.stp; have q169 := D16.k q158; have q170 := D16.k q159; have q171 := D16.k q160; have q172 := D16.k q161; have q173 := D16.k q162; have q174 := D16.k q163; have q175 := D16.k q164; have q176 := D16.k q165; have q177 := D16.k q166; have q178 := D16.k q167; refine tn (wp_seq ?_)
       refine cond_p (p := (((a : Nat) : Int) < (((List.length (((g1).getD j ([], 0))).1) : Nat) : Int))) (D16.m 0 rfl) (fun c5 => ?_) (fun c5 => ?_)
       ·
        have hva := hvb a; have hvm := vsum_mono (v := (g1.getD j ([], 0)).1) (show a + 1 ≤ n by omega); rw [vsum] at hvm
        refine wp_skip (tn (wp_seq (wp_block (wp_seq ?_))))
        refine gI a28 s24 ok25 (gT (Ty.ref [(Ty.int ((((g1).getD j ([], 0))).1.getD a 0))]) rfl (fun A B G H I => rP (y_index1 Tryz.underlying22 Tryz.inf3 (kp (I 55 rfl) G q178) (kp (I 57 rfl) G q169) oM (lst_get Ty.int (((g1).getD j ([], 0))).1 0 a oM))) (gS rfl (fun A B G H I d0 => rP (y_load Tryz.underlying3 rfl (eI d0) rfl)) (gB 0 (gE ok25 fun a29 s25 ok26 D17 => ?_)))); refine tn (wp_seq ?_)
        refine gI a29 s25 ok26 (gM (D17.m 2 rfl) (gT (Ty.int (0 : Int)) rfl (fun A B G H I => rP (y_move rfl)) (gE ok26 fun a30 s26 ok27 D18 => ?_))); refine tn (wp_block ?_)
        refine loop (fun n7 a31 w7 => ∃ (t8 : GW) (b : Nat), t8.w = w7 ∧ FromL [] σ t8 ∧ Ok 85 [] a31 ∧ At (Ty.nat b) t8 a31 (.tmp 62) ∧ At (Ty.nat (((g1.getD j ([], 0)).2).toNat * C ^ (vsum ((g1.getD j ([], 0)).1) a + b))) t8 a31 (.tmp 17) ∧ At (Ty.nat a) t8 a31 (.tmp 57) ∧ At (Ty.nat j) t8 a31 (.tmp 48) ∧ At (Ty.nat (kQuo C n E.length g1 j)) t8 a31 (.tmp 11) ∧ At (Ty.nat (kRem C n E.length g1 j)) t8 a31 (.tmp 12) ∧ At (Ty.nat E.length) t8 a31 (.tmp 10) ∧ At (Ty.nat C) t8 a31 (.tmp 2) ∧ At (Ty.lstc 2 kndC (g1)) t8 a31 (.tmp 46) ∧ At (Ty.nat (List.length (g1))) t8 a31 (.tmp 47) ∧ At (Ty.lst Ty.int (((g1).getD j ([], 0))).1) t8 a31 (.tmp 55) ∧ At (Ty.nat (List.length (((g1).getD j ([], 0))).1)) t8 a31 (.tmp 56) ∧ At (Ty.int ((((g1).getD j ([], 0))).1.getD a 0)) t8 a31 (.tmp 61) ∧ (b ≤ (((g1.getD j ([], 0)).1).getD a 0).toNat) ∧ n7 = (((g1.getD j ([], 0)).1).getD a 0).toNat - b) ((((g1.getD j ([], 0)).1).getD a 0).toNat - (0)) ?_ ?_
        ·
         exact ⟨s26, 0, rfl, ((F27.step0 D17.stp).step0 D18.stp), ok27, (cJ (D18.m 1 rfl)), (cvi (by (simp)) (D18.k (D17.k q170))), (D18.k (D17.k q169)), (D18.k (D17.k q171)), (D18.k (D17.k q172)), (D18.k (D17.k q173)), (D18.k (D17.k q174)), (D18.k (D17.k q175)), (D18.k (D17.k q176)), (D18.k (D17.k q177)), (D18.k (D17.k q178)), (D18.k (D17.k (D16.k q168))), (D18.m 0 rfl), by omega, rfl⟩
        ·
         rintro n8 a32 w8 ⟨t9, b, rfl, F30, ok28, q206, q207, q208, q209, q210, q211, q212, q213, q214, q215, q216, q217, q218, hb, rfl⟩
         have hpb := mul_bd (show ((g1.getD j ([], 0)).2).toNat ≤ 5040 by omega) (pow_bd (e := vsum ((g1.getD j ([], 0)).1) a + b) hC oM)
         refine wp_seq ?_
         refine gI a32 t9 ok28 (gS rfl (fun A B G H I => rP (y_lss (kp (I 62 rfl) G q206) (kp (I 61 rfl) G q218))) (gE ok28 fun a33 s27 ok29 D19 => ?_)); have F31 := F30.step0 D19.stp; have q220 := D19.k q207; have q221 := D19.k q208; have q222 := D19.k q209; have q223 := D19.k q210; have q224 := D19.k q211; have q225 := D19.k q212; have q226 := D19.k q213; have q227 := D19.k q214; have q228 := D19.k q215; have q229 := D19.k q216; have q230 := D19.k q217; refine tn (wp_seq ?_)
         refine cond_p (p := (((b : Nat) : Int) < ((((g1).getD j ([], 0))).1.getD a 0))) (D19.m 0 rfl) (fun c6 => ?_) (fun c6 => ?_)
         ·
          have hpb2 := mul_bd (show ((g1.getD j ([], 0)).2).toNat ≤ 5040 by omega) (pow_bd (e := vsum ((g1.getD j ([], 0)).1) a + (b + 1)) hC oM); rw [← Nat.add_assoc, Nat.pow_succ, ← Nat.mul_assoc] at hpb2
          refine wp_skip (tn (wp_seq (wp_block ?_)))
          refine gI a33 s27 ok29 (gM q220 (gM q226 (gT (Ty.nat ((((g1.getD j ([], 0)).2).toNat * C ^ (vsum ((g1.getD j ([], 0)).1) a + b)) * C)) rfl (fun A B G H I d0 d1 => rP ((y_mul (eI d0) (eI d1) wX).mono (fun τ _ h => cN (σ := τ) h))) (gB 0 (gE ok29 fun a34 s28 ok30 D20 => ?_))))); refine bn (tn ?_)
          refine gI a34 s28 ok30 (gT (Ty.nat (b + 1)) rfl (fun A B G H I => rP ((y_add (kp (I 62 rfl) G (D20.k (D19.k q206))) rfl wX).mono (fun τ _ h => cN (σ := τ) h))) (gS rfl (fun A B G H I d0 => rP (y_move (eI d0))) (gE ok30 fun a35 s29 ok31 D21 => ?_)))
          exact tn ⟨(((g1.getD j ([], 0)).1).getD a 0).toNat - ((b+1)), by omega, s29, (b+1), rfl, ((F31.step0 D20.stp).step0 D21.stp), ok31, (cJ (D21.m 1 rfl)), (cvi (by ((rw [← Nat.add_assoc, Nat.pow_succ, Nat.mul_assoc]))) (D21.k (D20.m 3 rfl))), (D21.k (D20.k q221)), (D21.k (D20.k q222)), (D21.k (D20.k q223)), (D21.k (D20.k q224)), (D21.k (D20.k q225)), (D21.k (D20.k q226)), (D21.k (D20.k q227)), (D21.k (D20.k q228)), (D21.k (D20.k q229)), (D21.k (D20.k q230)), (D21.k (D20.k (D19.k q218))), by omega, rfl⟩
         ·
          refine wp_exit (tx (tx (bx (bn (tn ?_)))))
          refine gI a33 s27 ok29 (gT (Ty.nat (a + 1)) rfl (fun A B G H I => rP ((y_add (kp (I 57 rfl) G q221) rfl wX).mono (fun τ _ h => cN (σ := τ) h))) (gS rfl (fun A B G H I d0 => rP (y_move (eI d0))) (gE ok29 fun a36 s30 ok32 D22 => ?_)))
          exact tn ⟨((g1.getD j ([], 0)).1).length - ((a+1)), by omega, s30, (a+1), rfl, (F31.step0 D22.stp), ok32, (cJ (D22.m 1 rfl)), (cvi (by ((rw [vsum, show b = (((g1.getD j ([], 0)).1).getD a 0).toNat by omega]))) (D22.k q220)), (D22.k q222), (D22.k q223), (D22.k q224), (D22.k q225), (D22.k q226), (D22.k q227), (D22.k q228), (D22.k q229), (D22.k q230), by omega, rfl⟩
       ·
        have ea : a = n := oM; have hpw : ((g1.getD j ([], 0)).2).toNat * C ^ vsum ((g1.getD j ([], 0)).1) a = pwK C n (g1.getD j ([], 0)) := (by rw [ea]; rfl); have hpwb := mul_bd (show ((g1.getD j ([], 0)).2).toNat ≤ 5040 by omega) (pow_bd (e := vsum ((g1.getD j ([], 0)).1) a) hC (by rw [ea]; exact hvs)); have hq2 := kQuo_bd (j := j + 1) (s := E.length) hB hC; have hr2 := kRem_bd (j := j + 1) (s := E.length) hB hC; rw [kQuo_succ oM] at hq2; rw [kRem_succ oM] at hr2; rw [← hpw] at hq2 hr2; have hq0 : (0 : Int) ≤ ((((g1.getD j ([], 0)).2).toNat * C ^ vsum ((g1.getD j ([], 0)).1) a / E.length : Nat) : Int) := Int.natCast_nonneg _; have hr0 : (0 : Int) ≤ ((((g1.getD j ([], 0)).2).toNat * C ^ vsum ((g1.getD j ([], 0)).1) a % E.length : Nat) : Int) := Int.natCast_nonneg _
        refine wp_exit (tx (tx (bx (tn (wp_seq ?_)))))
        refine gI a28 s24 ok25 (gM q172 (gM q170 (gM q174 (gT (Ty.nat ((((g1.getD j ([], 0)).2).toNat * C ^ vsum ((g1.getD j ([], 0)).1) a) / E.length)) rfl (fun A B G H I d0 d1 => rP (y_quoN (eI d0) (eI d1) oM oM)) (gT (Ty.nat ((kQuo C n E.length g1 j) + ((((g1.getD j ([], 0)).2).toNat * C ^ vsum ((g1.getD j ([], 0)).1) a) / E.length))) rfl (fun A B G H I d0 d1 => rP ((y_add (eI d0) (eI d1) wX).mono (fun τ _ h => cN (σ := τ) h))) (gB 0 (gE ok25 fun a37 s31 ok33 D23 => ?_))))))); have q273 := D23.k q174; refine tn ?_
        refine gI a37 s31 ok33 (gM (D23.k q173) (gM (D23.k q170) (gM q273 (gT (Ty.nat ((((g1.getD j ([], 0)).2).toNat * C ^ vsum ((g1.getD j ([], 0)).1) a) % E.length)) rfl (fun A B G H I d0 d1 => rP (y_remN (eI d0) (eI d1) oM)) (gT (Ty.nat ((kRem C n E.length g1 j) + ((((g1.getD j ([], 0)).2).toNat * C ^ vsum ((g1.getD j ([], 0)).1) a) % E.length))) rfl (fun A B G H I d0 d1 => rP ((y_add (eI d0) (eI d1) wX).mono (fun τ _ h => cN (σ := τ) h))) (gB 0 (gE ok33 fun a38 s32 ok34 D24 => ?_))))))); refine bn (tn ?_)
        refine gI a38 s32 ok34 (gT (Ty.nat (j + 1)) rfl (fun A B G H I => rP ((y_add (kp (I 48 rfl) G (D24.k (D23.k q171))) rfl wX).mono (fun τ _ h => cN (σ := τ) h))) (gS rfl (fun A B G H I d0 => rP (y_move (eI d0))) (gE ok34 fun a39 s33 ok35 D25 => ?_)))
        exact tn ⟨g1.length - ((j+1)), by omega, s33, (j+1), rfl, (((F27.step0 D23.stp).step0 D24.stp).step0 D25.stp), ok35, (cJ (D25.m 1 rfl)), (cvi (by ((rw [kQuo_succ oM, ← hpw]))) (D25.k (D24.k (D23.m 5 rfl)))), (cvi (by ((rw [kRem_succ oM, ← hpw]))) (D25.k (D24.m 5 rfl))), (D25.k (D24.k q273)), (D25.k (D24.k (D23.k q175))), (D25.k (D24.k (D23.k q176))), (D25.k (D24.k (D23.k q177))), by omega, rfl⟩
     ·
      have hz0 : (0 : Int) ≤ ((kRem C n E.length g1 j / E.length : Nat) : Int) := Int.natCast_nonneg _; have hz1 := Nat.div_le_self (kRem C n E.length g1 j) E.length
      refine wp_exit (tx (tx (bx (tn (wp_seq ?_)))))
      refine gI a22 s19 ok20 (gM q113 (gM q114 (gM q115 (gT (Ty.nat ((kRem C n E.length g1 j) / E.length)) rfl (fun A B G H I d0 d1 => rP (y_quoN (eI d0) (eI d1) oM oM)) (gT (Ty.nat ((kQuo C n E.length g1 j) + ((kRem C n E.length g1 j) / E.length))) rfl (fun A B G H I d0 d1 => rP ((y_add (eI d0) (eI d1) wX).mono (fun τ _ h => cN (σ := τ) h))) (gB 0 (gC (Ty.int (0 : Int)) (gE ok20 fun a40 s34 ok36 D26 => ?_)))))))); refine tn (wp_ret ?_)
      exact retL2 rfl ok36 (F21.step0 D26.stp) ⟨(cntE E C), (0 : Int), (hasT2 (cvi (by (rw [← cnt_kinds hKP hEr hne, show j = g1.length by omega])) (D26.m 5 rfl)) (cvi (by (rfl)) (D26.m 6 rfl))), (by exact CntP.ok hC hG0 hL hE)⟩


set_option maxHeartbeats 4000000 in
set_option maxRecDepth 100000 in
theorem power_fn (a : Nat) (n : Nat) (σ : GW)  (v0 v1 : Value) (hv0 : Ty.has (Ty.nat a) σ v0) (hv1 : Ty.has (Ty.nat n) σ v1)  (ha : a ≤ 8) (hn : n ≤ 12) :
    FnC Tryz.prog 36 #[v0, v1] σ (Ty.nat (a ^ n)) := by
 refine fn_intro0 Tryz.func36 rfl Tryz.ntmps36 (Nat.le_of_ble_eq_true rfl) (fun s0 a0 hle F0 ok0 hargs => ?_)
 have p0 := pA hle (hargs 0 _ rfl) hv0
 have p1 := pA hle (hargs 1 _ rfl) hv1
 clear hargs; refine wp_seq ?_
 refine gI a0 s0 ok0 (gC (Ty.int (0 : Int)) (gE ok0 fun a1 s1 ok1 D1 => ?_)); refine tn (wp_seq ?_)
 refine gI a1 s1 ok1 (gC (Ty.int (1 : Int)) (gE ok1 fun a2 s2 ok2 D2 => ?_)); refine tn (wp_seq (wp_seq ?_))
 refine gI a2 s2 ok2 (gC (Ty.int (0 : Int)) (gE ok2 fun a3 s3 ok3 D3 => ?_)); refine tn (wp_block ?_)
 refine loop (fun n1 a4 w1 => ∃ (t1 : GW) (i : Nat), t1.w = w1 ∧ FromL [] s0 t1 ∧ Ok 16 [] a4 ∧ At (Ty.nat i) t1 a4 (.tmp 6) ∧ At (Ty.nat (a ^ i)) t1 a4 (.tmp 5) ∧ At (Ty.nat a) t1 a4 (.tmp 0) ∧ At (Ty.nat n) t1 a4 (.tmp 1) ∧ (i ≤ n) ∧ n1 = n - i) (n - (0)) ?_ ?_
 ·
  exact ⟨s3, 0, rfl, (((F0.step0 D1.stp).step0 D2.stp).step0 D3.stp), ok3, (cJ (D3.m 0 rfl)), (cvi (by (simp)) (D3.k (D2.m 0 rfl))), (D3.k (D2.k (D1.k p0))), (D3.k (D2.k (D1.k p1))), by omega, rfl⟩
 ·
  rintro n2 a5 w2 ⟨t2, i, rfl, F4, ok4, q10, q11, q12, q13, hi, rfl⟩
  have hpb := pow_bd ha (show i ≤ 12 by omega)
  refine wp_seq (wp_seq ?_)
  refine gI a5 t2 ok4 (gM q10 (gM q13 (gS rfl (fun A B G H I d0 d1 => rP (y_lss (eI d0) (eI d1))) (gE ok4 fun a6 s4 ok5 D4 => ?_)))); have F5 := F4.step0 D4.stp; have q15 := D4.k q11; have q16 := D4.k q12; refine tn ?_
  refine cond_p (p := (((i : Nat) : Int) < ((n : Nat) : Int))) (D4.m 2 rfl) (fun c1 => ?_) (fun c1 => ?_)
  ·
   have hpb2 := pow_bd (e := i + 1) ha oM; rw [Nat.pow_succ] at hpb2
   refine wp_skip (tn (wp_seq (wp_block ?_)))
   refine gI a6 s4 ok5 (gM q15 (gM q16 (gT (Ty.nat ((a ^ i) * a)) rfl (fun A B G H I d0 d1 => rP ((y_mul (eI d0) (eI d1) wX).mono (fun τ _ h => cN (σ := τ) h))) (gB 0 (gE ok5 fun a7 s5 ok6 D5 => ?_))))); refine bn (tn ?_)
   refine gI a7 s5 ok6 (gM (D5.k (D4.k q10)) (gT (Ty.nat (i + 1)) rfl (fun A B G H I d0 => rP ((y_add (eI d0) rfl wX).mono (fun τ _ h => cN (σ := τ) h))) (gB 0 (gE ok6 fun a8 s6 ok7 D6 => ?_))))
   exact tn ⟨n - ((i+1)), by omega, s6, (i+1), rfl, ((F5.step0 D5.stp).step0 D6.stp), ok7, (cJ (D6.m 2 rfl)), (cvi (by (rw [Nat.pow_succ])) (D6.k (D5.m 3 rfl))), (D6.k (D5.k q16)), (D6.k (D5.k (D4.k q13))), by omega, rfl⟩
  ·
   have ei : i = n := oM
   refine wp_exit (tx (tx (bx (tn (wp_seq ?_)))))
   refine gI a6 s4 ok5 (gM q15 (gB 0 (gE ok5 fun a9 s7 ok8 D7 => ?_))); refine tn (wp_ret ?_)
   exact retL1 rfl ok8 (F5.step0 D7.stp) (cvi (by (rw [ei])) (D7.m 1 rfl))


set_option maxHeartbeats 4000000 in
set_option maxRecDepth 100000 in
theorem rcntD_fn (n : Nat) (gens : List (List Int)) (C : Nat) (σ : GW) (hlow : Low [] σ) (v0 v1 v2 : Value) (hv0 : Ty.has (Ty.nat n) σ v0) (hv1 : Ty.has (Ty.lst Ty.ints gens) σ v1) (hv2 : Ty.has (Ty.nat C) σ v2)  (hC : C ≤ 8) (hG0 : gensMay (n : Int) gens = 0) (hL : szTo n (fun y => y ∈ gens) n ≤ 5040) :
    FnL Tryz.prog 14 #[v0, v1, v2] σ [] (fun v τ => ∃ (z : Nat), ∃ (e : Int), (Ty.has (Ty.tup2 (Ty.nat z) (Ty.int e)) τ v) ∧ (CntP (n : Int) gens (C : Int) z e)) := by
 obtain ⟨hn, hGl, hG⟩ := may_nat hG0
 have hGl2 : gens.length ≤ 1000000 := oM
 have hGl3 : gens.length ≤ 1000 := oM
 refine fn_introL hlow Tryz.func14 rfl Tryz.ntmps14 (Nat.le_of_ble_eq_true rfl) (fun a0 F0 ok0 hargs => ?_)
 have p0 := pB (hargs 0 _ rfl) hv0
 have p1 := pB (hargs 1 _ rfl) hv1
 have b1 := sl_le p1
 have p2 := pB (hargs 2 _ rfl) hv2
 clear hargs; refine wp_seq ?_
 refine gI a0 σ ok0 (gC (Ty.int (0 : Int)) (gC (Ty.int (0 : Int)) (gE ok0 fun a1 s1 ok1 D1 => ?_))); have q3 := D1.k p2; refine tn (wp_seq (wp_seq ?_))
 refine gI a1 s1 ok1 (gM q3 (gS rfl (fun A B G H I d0 => rP (y_lss (eI d0) rfl)) (gS rfl (fun A B G H I d0 => rP (y_move (eI d0))) (gS rfl (fun A B G H I d0 => gu H (eI d0) fun hg => y_move (kp (I 2 rfl) G q3)) (gS rfl (fun A B G H I d0 d1 => gu H (eI d1) fun hg => y_gtr ((ef d0 rfl).1 hg) rfl) (gS rfl (fun A B G H I d0 d1 => rP (y_pick_or (eI d0) rfl (eI d1))) (gE ok1 fun a2 s2 ok2 D2 => ?_))))))); have q4 := D2.k (D1.k p0); have q5 := D2.k (D1.k p1); refine tn ?_
 refine cond_t (D2.m 5 rfl) (fun c1 => ?_) (fun c1 => ?_)
 ·
  exfalso
  simp only [Bool.or_eq_true, decide_eq_true_eq] at c1; omega
 ·
  obtain ⟨d1, d2⟩ := Bool.or_eq_false_iff.mp c1
  replace d1 := of_decide_eq_false d1
  replace d2 := of_decide_eq_false d2
  refine wp_skip (tn (wp_seq ?_))
  refine gI a2 s2 ok2 (gM q4 (gM q5 (gS rfl (fun A B G H I d0 d1 => rP (y_call _ Tryz.func7 rfl rfl my2 (rGensMay_fn (((n : Nat) : Int)) (gens) _ _ _ (cvi (σ := B) oM (ef d0 rfl)) (eI d1) ))) (gB 0 (gE ok2 fun a3 s3 ok3 D3 => ?_))))); refine tn (wp_seq (wp_seq ?_))
  refine gI a3 s3 ok3 (gM (D3.m 3 rfl) (gS rfl (fun A B G H I d0 => rP (y_neq (eI d0) rfl)) (gE ok3 fun a4 s4 ok4 D4 => ?_))); refine tn ?_
  refine cond_p (p := ((gensMay (((n : Nat) : Int)) (gens)) ≠ (0 : Int))) (D4.m 1 rfl) (fun c2 => ?_) (fun c2 => ?_)
  ·
   exfalso
   exact c2 hG0
  ·
   refine wp_skip (tn (wp_seq ?_))
   refine gI a4 s4 ok4 (gM (D4.k (D3.k q4)) (gM (D4.k (D3.k q5)) (gE2 ok4 fun a5 s5 ok5 D5 => ?_)))
   refine tL ok5 (y_callL (L := []) [] [] #[a5.eval (.tmp 27), a5.eval (.tmp 28), a5.eval ((Operand.const (Value.int IntKind.i64 5040)))] rfl dE Tryz.func10 rfl rfl my3 (rClosed_fn (n) (gens) (5040) _ lW _ _ _ (uL (D5.m 0 rfl)) (uL (D5.m 1 rfl)) (uL (cvi (σ := s5) oX rfl))  oX oX oX oX)) fun a6 s6 hs1 ok6 r1 sm1 => ?_
   obtain ⟨t1, ⟨g1, g2, hT1, hp1⟩, B1⟩ := r1
   have q21 : At (Ty.tup2 (Ty.lst Ty.ints (g1)) (Ty.lst Ty.ints (g2))) s6 a6 (.tmp 29) := Ty.up _ B1.le hT1
   refine tL ok6 (Yld.toL (y_mv q21)) fun a7 s7 hs2 ok7 r2 sm2 => ?_
   have q23 : At (Ty.tup2 (Ty.lst Ty.ints (g1)) (Ty.lst Ty.ints (g2))) s7 a7 (.tmp 26) := r2
   clear r2
   refine tL (R := (fun v τ => Pr.has (Ty.pr (Ty.lst Ty.ints (g1))) τ v)) ok7 (Yld.toL (y_ext2_0 q23)) fun a8 s8 hs3 ok8 r3 sm3 => ?_
   have q26 : At (Ty.lst Ty.ints (g1)) s8 a8 (.tmp 30) := r3
   clear r3
   refine tL (R := (fun v τ => Pr.has (Ty.pr (Ty.lst Ty.ints (g2))) τ v)) ok8 (Yld.toL (y_ext2_1 (kq hs3 sm3 26 q23))) fun a9 s9 hs4 ok9 r4 sm4 => ?_
   have q29 : At (Ty.lst Ty.ints (g2)) s9 a9 (.tmp 31) := r4
   clear r4
   refine tL ok9 (Yld.toL (y_as (kq hs4 sm4 30 q26))) fun a10 s10 hs5 ok10 r5 sm5 => ?_
   have q32 : At (Ty.lst Ty.ints (g1)) s10 a10 (.tmp 9) := r5
   clear r5
   refine tL ok10 (Yld.toL (y_as (kq hs5 sm5 31 q29))) fun a11 s11 hs6 ok11 r6 sm6 => ?_
   have q34 := kq hs6 sm6 9 q32
   have q35 : At (Ty.lst Ty.ints (g2)) s11 a11 (.tmp 10) := r6
   clear r6; refine wpList_nil (tn (wp_seq (wp_seq ?_)))
   obtain ⟨E, hE⟩ := elts_ex hn hG
   have hRC : g1.Nodup ∧ (∀ x, x ∈ g1 ↔ Cl n (fun y => y ∈ gens) x) ∧ g1.length ≤ 5040 := (by rcases hp1 with ⟨_, L, h1, h2, h3⟩ | h; (have h_ := nd_sub h1 (fun x hx => (hE.mem x).2 (h2 x hx)); have h2_ := hE.len; omega); exact ⟨h.1, h.2.1, h.2.2.1⟩)
   obtain ⟨hRn, hRm, hRl⟩ := hRC
   have hRr : ∀ x ∈ g1, RowN n x := fun x hx => ((hRm x).1 hx).row hn hG
   have hRp : E.Perm g1 := elts_perm hE.nd hRn (fun x => (hE.mem x).trans (hRm x).symm)
   have hR0 : 0 < g1.length := List.length_pos_of_mem ((hRm _).2 .one)
   refine gI a11 s11 ok11 (gM q34 (gT (Ty.bool false) rfl (fun A B G H I d0 => rP (y_slnil Tryz.underlying25 (eI d0) (by (intro h_; rw [List.map_eq_nil_iff] at h_; rw [h_] at hR0; simp at hR0)) rfl)) (gE ok11 fun a12 s12 ok12 D6 => ?_))); refine tn ?_
   refine cond_t (D6.m 1 rfl) (fun c3 => (by cases c3)) (fun _ => ?_)
   refine wp_skip (tn (wp_seq ?_))
   refine gI a12 s12 ok12 (gC (Ty.int (0 : Int)) (gE ok12 fun a13 s13 ok13 D7 => ?_)); refine tn (wp_seq (wp_seq ?_))
   refine gI a13 s13 ok13 (gC (Ty.int (0 : Int)) (gE ok13 fun a14 s14 ok14 D8 => ?_)); refine tn (wp_block ?_)
   refine loop (fun n1 a15 w1 => ∃ (t2 : GW) (i : Nat), t2.w = w1 ∧ FromL [] σ t2 ∧ Ok 55 [] a15 ∧ At (Ty.nat i) t2 a15 (.tmp 12) ∧ At (Ty.nat (cntT g1 C i)) t2 a15 (.tmp 11) ∧ At (Ty.nat C) t2 a15 (.tmp 2) ∧ At (Ty.lst Ty.ints (g1)) t2 a15 (.tmp 9) ∧ (i ≤ g1.length) ∧ n1 = g1.length - i) (g1.length - (0)) ?_ ?_
   ·
    exact ⟨s14, 0, rfl, ((((((((((((((F0.step0 D1.stp).step0 D2.stp).step0 D3.stp).step0 D4.stp).step0 D5.stp).sl hs1).sl hs2).sl hs3).sl hs4).sl hs5).sl hs6).step0 D6.stp).step0 D7.stp).step0 D8.stp), ok14, (cJ (D8.m 0 rfl)), (cvi (by (simp [cntT])) (D8.k (D7.m 0 rfl))), (D8.k (D7.k (D6.k (kq hs6 sm6 2 (kq hs5 sm5 2 (kq hs4 sm4 2 (kq hs3 sm3 2 (kq hs2 sm2 2 (kq hs1 sm1 2 (D5.k (D4.k (D3.k (D2.k q3))))))))))))), (D8.k (D7.k (D6.k q34))), by omega, rfl⟩
   ·
    rintro n2 a16 w2 ⟨t3, i, rfl, F15, ok15, q46, q47, q48, q49, hi, rfl⟩
    have hcb := cntT_bd (i := i) hRr hn.2 hC hRl
    refine wp_seq (wp_seq ?_)
    refine gI a16 t3 ok15 (gM q46 (gM q49 (gS rfl (fun A B G H I d0 => rP (y_len Tryz.underlying25 (eI d0))) (gS rfl (fun A B G H I d0 d1 => rP (y_lss (eI d0) (eI d1))) (gE ok15 fun a17 s15 ok16 D9 => ?_))))); have F16 := F15.step0 D9.stp; have q50 := D9.k q46; have q51 := D9.k q47; have q53 := D9.k q49; refine tn ?_
    refine cond_p (p := (((i : Nat) : Int) < (((List.length (g1)) : Nat) : Int))) (D9.m 3 rfl) (fun c4 => ?_) (fun c4 => ?_)
    ·
     have hri := hRr _ (mem_atD [] (show i < g1.length by omega)); have hcl := cyc_few (r := g1.getD i []); have hril := hri.len; have hrii := hri.row; have hcb2 := cntT_bd (i := i + 1) hRr hn.2 hC hRl; rw [cntT_succ oM] at hcb2
     refine wp_skip (tn (wp_seq (wp_block (wp_seq ?_))))
     refine gI a17 s15 ok16 (gM q53 (gM q50 (gT (Ty.ref [(Ty.lst Ty.int ((g1).getD i []))]) rfl (fun A B G H I d0 d1 => rP (y_index1 Tryz.underlying25 Tryz.inf22 (eI d0) (eI d1) oM (lst_get Ty.ints (g1) [] i oM))) (gS rfl (fun A B G H I d0 => rP (y_load Tryz.underlying22 rfl (eI d0) rfl)) (gS rfl (fun A B G H I d0 => rP (y_call _ Tryz.func35 rfl rfl my1 (rCycles_fn (((g1).getD i [])) _ _ (eI d0) oX))) (gB 0 (gE ok16 fun a18 s16 ok17 D10 => ?_))))))); have q57 := D10.k (D9.k q48); refine tn ?_
     refine gI a18 s16 ok17 (gM (D10.k q51) (gM q57 (gM (D10.m 5 rfl) (gS rfl (fun A B G H I d0 => rP (y_len Tryz.underlying25 (eI d0))) (gS rfl (fun A B G H I d0 d1 => rP (y_call _ Tryz.func36 rfl rfl my2 (power_fn (C) ((List.length (cyclesL (((g1).getD i []))))) _ _ _ (cvi (σ := B) (by first | omega | assumption | cases hg | exact absurd (of_decide_eq_true hg) hbad) (ef d0 rfl)) (cvi (σ := B) (by first | omega | assumption | cases hg | exact absurd (of_decide_eq_true hg) hbad) (ef d1 rfl)) (by first | omega | assumption | cases hg | exact absurd (of_decide_eq_true hg) hbad) (by first | omega | assumption | cases hg | exact absurd (of_decide_eq_true hg) hbad)))) (gT (Ty.nat ((cntT g1 C i) + ((C) ^ ((List.length (cyclesL (((g1).getD i [])))))))) rfl (fun A B G H I d0 d1 => rP ((y_add (eI d0) (eI d1) wX).mono (fun τ _ h => cN (σ := τ) h))) (gB 0 (gE ok17 fun a19 s17 ok18 D11 => ?_)))))))); refine bn (tn ?_)
     refine gI a19 s17 ok18 (gM (D11.k (D10.k q50)) (gT (Ty.nat (i + 1)) rfl (fun A B G H I d0 => rP ((y_add (eI d0) rfl wX).mono (fun τ _ h => cN (σ := τ) h))) (gB 0 (gE ok18 fun a20 s18 ok19 D12 => ?_))))
     exact tn ⟨g1.length - ((i+1)), by omega, s18, (i+1), rfl, (((F16.step0 D10.stp).step0 D11.stp).step0 D12.stp), ok19, (cJ (D12.m 2 rfl)), (cvi (by (rw [cntT_succ oM])) (D12.k (D11.m 6 rfl))), (D12.k (D11.k q57)), (D12.k (D11.k (D10.k q53))), by omega, rfl⟩
    ·
     have ei : i = g1.length := oM; have hz0 : (0 : Int) ≤ ((cntT g1 C i / g1.length : Nat) : Int) := Int.natCast_nonneg _
     refine wp_exit (tx (tx (bx (tn (wp_seq ?_)))))
     refine gI a17 s15 ok16 (gM q51 (gM q53 (gS rfl (fun A B G H I d0 => rP (y_len Tryz.underlying25 (eI d0))) (gT (Ty.nat ((cntT g1 C i) / (List.length (g1)))) rfl (fun A B G H I d0 d1 => rP (y_quoN (eI d0) (eI d1) oM oM)) (gB 0 (gC (Ty.int (0 : Int)) (gE ok16 fun a21 s19 ok20 D13 => ?_))))))); refine tn (wp_ret ?_)
     exact retL2 rfl ok20 (F16.step0 D13.stp) ⟨(cntE E C), (0 : Int), (hasT2 (cvi (by (rw [ei, cntT_all, cntE_perm hRp])) (D13.m 4 rfl)) (cvi (by (rfl)) (D13.m 5 rfl))), (by exact CntP.ok hC hG0 hL hE)⟩


set_option maxHeartbeats 4000000 in
set_option maxRecDepth 100000 in
theorem first1_fn (c : List Int) (E : List (List Int)) (σ : GW)  (v0 v1 : Value) (hv0 : Ty.has (Ty.lst Ty.int c) σ v0) (hv1 : Ty.has (Ty.lst Ty.ints E) σ v1)  (hE : ∀ x ∈ E, RowN c.length x) (hc : c.length ≤ 12) (hl : E.length ≤ 5040) :
    FnC Tryz.prog 55 #[v0, v1] σ (Ty.bool (fstP E c)) := by
 refine fn_intro0 Tryz.func55 rfl Tryz.ntmps55 (Nat.le_of_ble_eq_true rfl) (fun s0 a0 hle F0 ok0 hargs => ?_)
 have p0 := pA hle (hargs 0 _ rfl) hv0
 have b1 := sl_le p0
 have p1 := pA hle (hargs 1 _ rfl) hv1
 have b2 := sl_le p1
 clear hargs; refine wp_seq ?_
 refine gI a0 s0 ok0 (gC (Ty.bool false) (gE ok0 fun a1 s1 ok1 D1 => ?_)); refine tn (wp_seq (wp_seq ?_))
 refine gI a1 s1 ok1 (gM (D1.k p1) (gS rfl (fun A B G H I d0 => rP (y_len Tryz.underlying25 (eI d0))) (gT (Ty.int (0 : Int)) rfl (fun A B G H I => rP (y_move rfl)) (gE ok1 fun a2 s2 ok2 D2 => ?_)))); refine tn (wp_block ?_)
 refine loop (fun n1 a3 w1 => ∃ (t1 : GW) (i : Nat), t1.w = w1 ∧ FromL [] s0 t1 ∧ Ok 20 [] a3 ∧ At (Ty.nat i) t1 a3 (.tmp 9) ∧ At (Ty.lst Ty.int c) t1 a3 (.tmp 0) ∧ At (Ty.lst Ty.ints E) t1 a3 (.tmp 7) ∧ At (Ty.nat (List.length E)) t1 a3 (.tmp 8) ∧ (i ≤ E.length) ∧ (∀ k, k < i → belowL (byL c (E.getD k [])) c = false) ∧ n1 = E.length - i) (E.length - (0)) ?_ ?_
 ·
  exact ⟨s2, 0, rfl, ((F0.step0 D1.stp).step0 D2.stp), ok2, (cJ (D2.m 2 rfl)), (D2.k (D1.k p0)), (D2.m 0 rfl), (D2.m 1 rfl), by omega, fun k h => by omega, rfl⟩
 ·
  rintro n2 a4 w2 ⟨t2, i, rfl, F3, ok3, q7, q8, q9, q10, hi, hA, rfl⟩
  refine wp_seq ?_
  refine gI a4 t2 ok3 (gS rfl (fun A B G H I => rP (y_lss (kp (I 9 rfl) G q7) (kp (I 8 rfl) G q10))) (gE ok3 fun a5 s3 ok4 D3 => ?_)); have F4 := F3.step0 D3.stp; have q11 := D3.k q7; have q13 := D3.k q9; refine tn (wp_seq ?_)
  refine cond_p (p := (((i : Nat) : Int) < (((List.length E) : Nat) : Int))) (D3.m 0 rfl) (fun c1 => ?_) (fun c1 => ?_)
  ·
   have hri := hE _ (mem_atD [] (show i < E.length by omega)); have hrl := hri.len; have hrb := hri.bd
   refine wp_skip (tn (wp_seq (wp_block (wp_seq ?_))))
   refine gI a5 s3 ok4 (gT (Ty.ref [(Ty.lst Ty.int (E.getD i []))]) rfl (fun A B G H I => rP (y_index1 Tryz.underlying25 Tryz.inf22 (kp (I 7 rfl) G q13) (kp (I 9 rfl) G q11) oM (lst_get Ty.ints E [] i oM))) (gS rfl (fun A B G H I d0 => rP (y_load Tryz.underlying22 rfl (eI d0) rfl)) (gB 0 (gE ok4 fun a6 s4 ok5 D4 => ?_)))); have q17 := D4.k (D3.k q8); refine tn (wp_seq ?_)
   refine gI a6 s4 ok5 (gM q17 (gM (D4.m 2 rfl) (gS rfl (fun A B G H I d0 d1 => rP (y_call _ Tryz.func48 rfl rfl my2 (product_fn (c) ((E.getD i [])) _ _ _ (eI d0) (eI d1) (by first | assumption | omega) (by first | assumption | omega) (by first | assumption | omega)))) (gM q17 (gS rfl (fun A B G H I d0 d1 d2 => rP (y_call _ Tryz.func29 rfl rfl my2 (slCompare_fn ((byL (c) ((E.getD i [])))) (c) _ _ _ (eI d0) (eI d1) ))) (gS rfl (fun A B G H I d0 => rP (y_lss (eI d0) rfl)) (gE ok5 fun a7 s5 ok6 D5 => ?_))))))); have F6 := (F4.step0 D4.stp).step0 D5.stp; refine tn ?_
   refine cond_p (p := ((cmpL ((byL (c) ((E.getD i [])))) (c)) < (0 : Int))) (D5.m 5 rfl) (fun c2 => ?_) (fun c2 => ?_)
   ·
    have hfl : fstP E c = false := fst_no (i := i) oM (by rw [← cmpL_lt]; exact decide_eq_true (by first | exact c2 | omega))
    refine wp_seq ?_
    refine gI a7 s5 ok6 (gC (Ty.bool false) (gE ok6 fun a8 s6 ok7 D6 => ?_)); refine tn (wp_ret (br (tr (tr (br (tr ?_))))))
    exact retL1 rfl ok7 (F6.step0 D6.stp) (cvb (by (rw [hfl])) (D6.m 0 rfl))
   ·
    have hA2 : ∀ k, k < i + 1 → belowL (byL c (E.getD k [])) c = false := fst_put hA (by rw [← cmpL_lt]; exact decide_eq_false (by first | exact c2 | omega))
    refine wp_skip (bn (tn ?_))
    refine gI a7 s5 ok6 (gT (Ty.nat (i + 1)) rfl (fun A B G H I => rP ((y_add (kp (I 9 rfl) G (D5.k (D4.k q11))) rfl wX).mono (fun τ _ h => cN (σ := τ) h))) (gS rfl (fun A B G H I d0 => rP (y_move (eI d0))) (gE ok6 fun a9 s7 ok8 D7 => ?_)))
    exact tn ⟨E.length - ((i+1)), by omega, s7, (i+1), rfl, (F6.step0 D7.stp), ok8, (cJ (D7.m 1 rfl)), (D7.k (D5.k q17)), (D7.k (D5.k (D4.k q13))), (D7.k (D5.k (D4.k (D3.k q10)))), by omega, hA2, rfl⟩
  ·
   have hfl : fstP E c = true := (fst_all (fun k hk => hA k oM))
   refine wp_exit (tx (tx (bx (tn (wp_seq ?_)))))
   refine gI a5 s3 ok4 (gC (Ty.bool true) (gE ok4 fun a10 s8 ok9 D8 => ?_)); refine tn (wp_ret ?_)
   exact retL1 rfl ok9 (F4.step0 D8.stp) (cvb (by (rw [hfl])) (D8.m 0 rfl))


set_option maxHeartbeats 4000000 in
set_option maxRecDepth 100000 in
theorem pattE_fn (n : Nat) (gens : List (List Int)) (C : Nat) (σ : GW) (hlow : Low [] σ) (v0 v1 v2 : Value) (hv0 : Ty.has (Ty.nat n) σ v0) (hv1 : Ty.has (Ty.lst Ty.ints gens) σ v1) (hv2 : Ty.has (Ty.nat C) σ v2)  (hC : C ≤ 8) (hG0 : gensMay (n : Int) gens = 0) (hL : szTo n (fun y => y ∈ gens) n ≤ 5040) (hP : C ^ n ≤ 5040) :
    FnL Tryz.prog 37 #[v0, v1, v2] σ [] (fun v τ => ∃ (L : (List (List Int))), (Ty.has (Ty.tup2 (Ty.lst Ty.ints L) (Ty.int (0 : Int))) τ v) ∧ (∃ E, EltsOk n gens E ∧ L = (colsL n C).filter (fstP E))) := by
 obtain ⟨hn, hGl, hG⟩ := may_nat hG0
 have hGl2 : gens.length ≤ 1000000 := oM
 have hGl3 : gens.length ≤ 1000 := oM
 refine fn_introL hlow Tryz.func37 rfl Tryz.ntmps37 (Nat.le_of_ble_eq_true rfl) (fun a0 F0 ok0 hargs => ?_)
 have p0 := pB (hargs 0 _ rfl) hv0
 have p1 := pB (hargs 1 _ rfl) hv1
 have b1 := sl_le p1
 have p2 := pB (hargs 2 _ rfl) hv2
 clear hargs; refine wp_seq ?_
 refine gI a0 σ ok0 (gC (Ty.val (Value.slice none 0 0)) (gC (Ty.int (0 : Int)) (gE ok0 fun a1 s1 ok1 D1 => ?_))); have q3 := D1.k p2; refine tn (wp_seq (wp_seq ?_))
 refine gI a1 s1 ok1 (gM q3 (gS rfl (fun A B G H I d0 => rP (y_lss (eI d0) rfl)) (gS rfl (fun A B G H I d0 => rP (y_move (eI d0))) (gS rfl (fun A B G H I d0 => gu H (eI d0) fun hg => y_move (kp (I 2 rfl) G q3)) (gS rfl (fun A B G H I d0 d1 => gu H (eI d1) fun hg => y_gtr ((ef d0 rfl).1 hg) rfl) (gS rfl (fun A B G H I d0 d1 => rP (y_pick_or (eI d0) rfl (eI d1))) (gE ok1 fun a2 s2 ok2 D2 => ?_))))))); have q4 := D2.k (D1.k p0); refine tn ?_
 refine cond_t (D2.m 5 rfl) (fun c1 => ?_) (fun c1 => ?_)
 ·
  exfalso
  simp only [Bool.or_eq_true, decide_eq_true_eq] at c1; omega
 ·
  obtain ⟨d1, d2⟩ := Bool.or_eq_false_iff.mp c1
  replace d1 := of_decide_eq_false d1
  replace d2 := of_decide_eq_false d2
  refine wp_skip (tn (wp_seq ?_))
  refine gI a2 s2 ok2 (gM q4 (gM (D2.k (D1.k p1)) (gE2 ok2 fun a3 s3 ok3 D3 => ?_)))
  refine tL ok3 (y_callL (L := []) [] [(41, 41), (42, 42), (43, 43)] _ rfl dE Tryz.func24 rfl rfl my2 (gMake_fn (n) (gens) _ lW _ _ (uL (D3.m 0 rfl)) (uL (D3.m 1 rfl))  oX oX oX)) fun a4 s4 hs1 ok4 r1 sm1 => ?_
  obtain ⟨t1, ⟨g1, g2, x1, x2, x3, hT1, o1, o2, o3, hp1⟩, B1⟩ := r1
  have q14 : At (Ty.tup2 (Ty.val x1) (Ty.int (0 : Int))) s4 a4 (.tmp 26) := Ty.up _ B1.le hT1
  have o4 : OwnP s4 41 x1 [(Ty.nat n), (Ty.val x3), (Ty.val x2)] := OwnP.ren o1 (B1.ren dE rfl)
  have o5 : ChnU s4 42 22 82 x2 n (g1) (g2) := ChnU.ren o2 (B1.ren dE rfl)
  have o6 : Own s4 43 22 1 x3 (List.length gens) (List.map Ty.ints gens) := Own.ren o3 (B1.ren dE rfl)
  refine tL ok4 (Yld.toL (y_mv q14)) fun a5 s5 hs2 ok5 r2 sm2 => ?_
  have q17 : At (Ty.tup2 (Ty.val x1) (Ty.int (0 : Int))) s5 a5 (.tmp 23) := r2
  clear r2
  refine tL (R := (fun v τ => Pr.has (Ty.pr (Ty.val x1)) τ v)) ok5 (Yld.toL (y_ext2_0 q17)) fun a6 s6 hs3 ok6 r3 sm3 => ?_
  have q21 : At (Ty.val x1) s6 a6 (.tmp 27) := r3
  clear r3
  refine tL (R := (fun v τ => Pr.has (Ty.pr (Ty.int (0 : Int))) τ v)) ok6 (Yld.toL (y_ext2_1 (kq hs3 sm3 23 q17))) fun a7 s7 hs4 ok7 r4 sm4 => ?_
  have q25 : At (Ty.int (0 : Int)) s7 a7 (.tmp 28) := r4
  clear r4
  refine tL ok7 (Yld.toL (y_as (kq hs4 sm4 27 q21))) fun a8 s8 hs5 ok8 r5 sm5 => ?_
  have q29 : At (Ty.val x1) s8 a8 (.tmp 8) := r5
  clear r5
  refine tL ok8 (Yld.toL (y_as (kq hs5 sm5 28 q25))) fun a9 s9 hs6 ok9 r6 sm6 => ?_
  have q33 : At (Ty.int (0 : Int)) s9 a9 (.tmp 9) := r6
  clear r6; refine wpList_nil (tn (wp_seq (wp_seq ?_)))
  refine gI a9 s9 ok9 (gM q33 (gT (Ty.bool false) rfl (fun A B G H I d0 => rP ((y_neq (eI d0) rfl).mono (fun τ _ h => cvb (σ := τ) dE h))) (gE ok9 fun a10 s10 ok10 D4 => ?_))); have o22 := OwnP.k0 (OwnP.kl (OwnP.kl (OwnP.kl (OwnP.kl (OwnP.kl o4 hs2) hs3) hs4) hs5) hs6) D4.stp; have o23 := ChnU.k0 (ChnU.kl (ChnU.kl (ChnU.kl (ChnU.kl (ChnU.kl o5 hs2) hs3) hs4) hs5) hs6) D4.stp; have o24 := Own.k0 (Own.kl (Own.kl (Own.kl (Own.kl (Own.kl o6 hs2) hs3) hs4) hs5) hs6) D4.stp; refine tn ?_
  refine cond_t (D4.m 1 rfl) (fun c2 => (by cases c2)) (fun _ => ?_)
  refine wp_skip (tn (wp_seq ?_))
  refine gI a10 s10 ok10 (gM (D4.k (kq hs6 sm6 8 q29)) (gE2 ok10 fun a11 s11 ok11 D5 => ?_)); have o25 := OwnP.k0 o22 D5.stp; have o26 := ChnU.k0 o23 D5.stp; have o27 := Own.k0 o24 D5.stp
  have q42 : At (Ty.val x1) s11 a11 (.tmp 33) := D5.done 0 dE
  refine tL ok11 (y_callL (L := [41, 42, 43]) [(41, 41), (42, 42), (43, 43)] [(41, 41), (42, 42), (43, 43)] #[a11.eval (.tmp 33)] rfl dE Tryz.func25 rfl rfl my1 (gElts_fn (x1) (x3) (x2) ((g2)) (n) ((g1)) (gens) _ lW _ (uL q42) (OwnP.ren o25 (GW.ren_lend _ _ dE rfl)) (ChnU.ren (cvch (by (rfl)) o26) (GW.ren_lend _ _ dE rfl)) (Own.ren o27 (GW.ren_lend _ _ dE rfl)) oX oX)) fun a12 s12 hs7 ok12 r7 sm7 => ?_
  obtain ⟨t2, ⟨g3, hT2, o28, o29, o30, hp2⟩, B2⟩ := r7
  have q46 : At (Ty.tup2 (Ty.lst Ty.ints (g3)) (Ty.int (eltE n gens))) s12 a12 (.tmp 34) := Ty.up _ B2.le hT2
  have o31 : OwnP s12 41 x1 [(Ty.nat n), (Ty.val x3), (Ty.val x2)] := OwnP.ren o28 (B2.ren dE rfl)
  have o32 : ChnU s12 42 22 82 x2 n ((g1)) ((g2)) := ChnU.ren o29 (B2.ren dE rfl)
  have o33 : Own s12 43 22 1 x3 (List.length gens) (List.map Ty.ints gens) := Own.ren o30 (B2.ren dE rfl)
  refine tL ok12 (Yld.toL (y_mv q46)) fun a13 s13 hs8 ok13 r8 sm8 => ?_
  have q50 : At (Ty.tup2 (Ty.lst Ty.ints (g3)) (Ty.int (eltE n gens))) s13 a13 (.tmp 32) := r8
  clear r8
  refine tL (R := (fun v τ => Pr.has (Ty.pr (Ty.lst Ty.ints (g3))) τ v)) ok13 (Yld.toL (y_ext2_0 q50)) fun a14 s14 hs9 ok14 r9 sm9 => ?_
  have q55 : At (Ty.lst Ty.ints (g3)) s14 a14 (.tmp 35) := r9
  clear r9
  refine tL (R := (fun v τ => Pr.has (Ty.pr (Ty.int (eltE n gens))) τ v)) ok14 (Yld.toL (y_ext2_1 (kq hs9 sm9 32 q50))) fun a15 s15 hs10 ok15 r10 sm10 => ?_
  have q60 : At (Ty.int (eltE n gens)) s15 a15 (.tmp 36) := r10
  clear r10
  refine tL ok15 (Yld.toL (y_as (kq hs10 sm10 35 q55))) fun a16 s16 hs11 ok16 r11 sm11 => ?_
  have q63 := kq hs11 sm11 9 (kq hs10 sm10 9 (kq hs9 sm9 9 (kq hs8 sm8 9 (kq hs7 sm7 9 (D5.k (D4.k q33))))))
  have q65 : At (Ty.lst Ty.ints (g3)) s16 a16 (.tmp 10) := r11
  clear r11
  refine tL ok16 (Yld.toL (y_as (kq hs11 sm11 36 q60))) fun a17 s17 hs12 ok17 r12 sm12 => ?_
  have q69 : At (Ty.int (eltE n gens)) s17 a17 (.tmp 9) := r12
  clear r12; refine wpList_nil (tn (wp_seq (wp_seq ?_)))
  have hE0 : eltE n gens = 0 := (by unfold eltE; rw [if_pos hL])
  have hEO := hp2.ok hL
  have hEl := hEO.len
  have hEr : ∀ r ∈ g3, RowN n r := fun r hr => ((hEO.mem r).1 hr).row hn hG
  refine gI a17 s17 ok17 (gM q69 (gS rfl (fun A B G H I d0 => rP (y_neq (eI d0) rfl)) (gE ok17 fun a18 s18 ok18 D6 => ?_))); have o49 := OwnP.k0 (OwnP.kl (OwnP.kl (OwnP.kl (OwnP.kl (OwnP.kl o31 hs8) hs9) hs10) hs11) hs12) D6.stp; have o50 := ChnU.k0 (ChnU.kl (ChnU.kl (ChnU.kl (ChnU.kl (ChnU.kl o32 hs8) hs9) hs10) hs11) hs12) D6.stp; have o51 := Own.k0 (Own.kl (Own.kl (Own.kl (Own.kl (Own.kl o33 hs8) hs9) hs10) hs11) hs12) D6.stp; refine tn ?_
  refine cond_p (p := ((eltE n gens) ≠ (0 : Int))) (D6.m 1 rfl) (fun c3 => ?_) (fun c3 => ?_)
  ·
   exfalso
   (rw [hE0] at c3; exact c3 rfl)
  ·
   refine wp_skip (tn (wp_seq ?_))
   refine gI a18 s18 ok18 (gC (Ty.int (1 : Int)) (gE ok18 fun a19 s19 ok19 D7 => ?_)); have q75 := D7.k (D6.k (kq hs12 sm12 0 (kq hs11 sm11 0 (kq hs10 sm10 0 (kq hs9 sm9 0 (kq hs8 sm8 0 (kq hs7 sm7 0 (D5.k (D4.k (kq hs6 sm6 0 (kq hs5 sm5 0 (kq hs4 sm4 0 (kq hs3 sm3 0 (kq hs2 sm2 0 (kq hs1 sm1 0 (D3.k q4)))))))))))))))); have o52 := OwnP.k0 o49 D7.stp; have o53 := ChnU.k0 o50 D7.stp; have o54 := Own.k0 o51 D7.stp; refine tn (wp_seq (wp_seq ?_))
   refine gI a19 s19 ok19 (gM q75 (gT (Ty.int (0 : Int)) rfl (fun A B G H I => rP (y_move rfl)) (gE ok19 fun a20 s20 ok20 D8 => ?_))); have o55 := OwnP.k0 o52 D8.stp; have o56 := ChnU.k0 o53 D8.stp; have o57 := Own.k0 o54 D8.stp; refine tn (wp_block ?_)
   refine loop (fun n1 a21 w1 => ∃ (t3 : GW) (i : Nat), t3.w = w1 ∧ FromL [] σ t3 ∧ Ok 80 [] a21 ∧ At (Ty.nat i) t3 a21 (.tmp 41) ∧ At (Ty.nat (C ^ i)) t3 a21 (.tmp 11) ∧ At (Ty.nat n) t3 a21 (.tmp 0) ∧ At (Ty.nat C) t3 a21 (.tmp 2) ∧ At (Ty.lst Ty.ints (g3)) t3 a21 (.tmp 10) ∧ At (Ty.nat n) t3 a21 (.tmp 40) ∧ OwnP t3 41 x1 [(Ty.nat n), (Ty.val x3), (Ty.val x2)] ∧ ChnU t3 42 22 82 x2 n ((g1)) ((g2)) ∧ Own t3 43 22 1 x3 (List.length gens) (List.map Ty.ints gens) ∧ (i ≤ n) ∧ n1 = n - i) (n - (0)) ?_ ?_
   ·
    exact ⟨s20, 0, rfl, ((((((((((((((((((((F0.step0 D1.stp).step0 D2.stp).step0 D3.stp).sl hs1).sl hs2).sl hs3).sl hs4).sl hs5).sl hs6).step0 D4.stp).step0 D5.stp).sl hs7).sl hs8).sl hs9).sl hs10).sl hs11).sl hs12).step0 D6.stp).step0 D7.stp).step0 D8.stp), ok20, (cJ (D8.m 1 rfl)), (cvi (by (simp)) (D8.k (D7.m 0 rfl))), (D8.k q75), (D8.k (D7.k (D6.k (kq hs12 sm12 2 (kq hs11 sm11 2 (kq hs10 sm10 2 (kq hs9 sm9 2 (kq hs8 sm8 2 (kq hs7 sm7 2 (D5.k (D4.k (kq hs6 sm6 2 (kq hs5 sm5 2 (kq hs4 sm4 2 (kq hs3 sm3 2 (kq hs2 sm2 2 (kq hs1 sm1 2 (D3.k (D2.k q3))))))))))))))))))), (D8.k (D7.k (D6.k (kq hs12 sm12 10 q65)))), (D8.m 0 rfl), o55, o56, o57, by omega, rfl⟩
   ·
    rintro n2 a22 w2 ⟨t4, i, rfl, F21, ok21, q85, q86, q87, q88, q89, q90, o58, o59, o60, hi, rfl⟩
    have hpb := pow_bd hC (show i ≤ 12 by omega)
    refine wp_seq ?_
    refine gI a22 t4 ok21 (gS rfl (fun A B G H I => rP (y_lss (kp (I 41 rfl) G q85) (kp (I 40 rfl) G q90))) (gE ok21 fun a23 s21 ok22 D9 => ?_)); have F22 := F21.step0 D9.stp; have q92 := D9.k q86; have q93 := D9.k q87; have q94 := D9.k q88; have q95 := D9.k q89; have o61 := OwnP.k0 o58 D9.stp; have o62 := ChnU.k0 o59 D9.stp; have o63 := Own.k0 o60 D9.stp; refine tn (wp_seq ?_)
    refine cond_p (p := (((i : Nat) : Int) < ((n : Nat) : Int))) (D9.m 0 rfl) (fun c4 => ?_) (fun c4 => ?_)
    ·
     have hpb2 := pow_bd (e := i + 1) hC oM; rw [Nat.pow_succ] at hpb2; have hpm : C ^ (i + 1) ≤ 5040 := pow_le_c hP oM; rw [Nat.pow_succ] at hpm
     refine wp_skip (tn (wp_seq (wp_block (wp_seq ?_))))
     refine gI a23 s21 ok22 (gM q92 (gM q94 (gT (Ty.nat ((C ^ i) * C)) rfl (fun A B G H I d0 d1 => rP ((y_mul (eI d0) (eI d1) wX).mono (fun τ _ h => cN (σ := τ) h))) (gB 0 (gE ok22 fun a24 s22 ok23 D10 => ?_))))); have o64 := OwnP.k0 o61 D10.stp; have o65 := ChnU.k0 o62 D10.stp; have o66 := Own.k0 o63 D10.stp; have q103 := D10.m 3 rfl; refine tn (wp_seq ?_)
     refine gI a24 s22 ok23 (gM q103 (gS rfl (fun A B G H I d0 => rP (y_gtr (eI d0) rfl)) (gE ok23 fun a25 s23 ok24 D11 => ?_))); have o67 := OwnP.k0 o64 D11.stp; have o68 := ChnU.k0 o65 D11.stp; have o69 := Own.k0 o66 D11.stp; refine tn ?_
     refine cond_p (p := ((5040 : Int) < ((((C ^ i) * C) : Nat) : Int))) (D11.m 1 rfl) (fun c5 => ?_) (fun c5 => ?_)
     ·
      exfalso
      omega
     ·
      refine wp_skip (bn (tn ?_))
      refine gI a25 s23 ok24 (gT (Ty.nat (i + 1)) rfl (fun A B G H I => rP ((y_add (kp (I 41 rfl) G (D11.k (D10.k (D9.k q85)))) rfl wX).mono (fun τ _ h => cN (σ := τ) h))) (gS rfl (fun A B G H I d0 => rP (y_move (eI d0))) (gE ok24 fun a26 s24 ok25 D12 => ?_))); have o70 := OwnP.k0 o67 D12.stp; have o71 := ChnU.k0 o68 D12.stp; have o72 := Own.k0 o69 D12.stp
      exact tn ⟨n - ((i+1)), by omega, s24, (i+1), rfl, (((F22.step0 D10.stp).step0 D11.stp).step0 D12.stp), ok25, (cJ (D12.m 1 rfl)), (cvi (by (rw [Nat.pow_succ])) (D12.k (D11.k q103))), (D12.k (D11.k (D10.k q93))), (D12.k (D11.k (D10.k q94))), (D12.k (D11.k (D10.k q95))), (D12.k (D11.k (D10.k (D9.k q90)))), o70, o71, o72, by omega, rfl⟩
    ·
     have ei : i = n := oM
     refine wp_exit (tx (tx (bx (tn (wp_seq ?_)))))
     refine gI a23 s21 ok22 (gC (Ty.val (Value.slice none 0 0)) (gE ok22 fun a27 s25 ok26 D13 => ?_)); have o73 := OwnP.k0 o61 D13.stp; have o74 := ChnU.k0 o62 D13.stp; have o75 := Own.k0 o63 D13.stp
     have q122 : At (Ty.nat (C ^ n)) s25 a27 (.tmp 11) := (cvi (by (rw [ei])) (D13.k q92))
     refine tn (wp_seq (wp_seq ?_))
     refine gI a27 s25 ok26 (gM q122 (gT (Ty.int (0 : Int)) rfl (fun A B G H I => rP (y_move rfl)) (gE ok26 fun a28 s26 ok27 D14 => ?_))); have o76 := OwnP.k0 o73 D14.stp; have o77 := ChnU.k0 o74 D14.stp; have o78 := Own.k0 o75 D14.stp; refine tn (wp_block ?_)
     have o79 : Own s26 24 22 1 (Value.slice none 0 0) 0 (List.map Ty.ints ([] : List (List Int))) := Own.nil _ _ _ _
     refine loop (fun n3 a29 w3 => ∃ (t5 : GW) (k : Nat) (x12_1 : Value), t5.w = w3 ∧ FromL [] σ t5 ∧ Ok 80 [] a29 ∧ At (Ty.nat k) t5 a29 (.tmp 50) ∧ At (Ty.val x12_1) t5 a29 (.tmp 12) ∧ At (Ty.nat n) t5 a29 (.tmp 0) ∧ At (Ty.nat C) t5 a29 (.tmp 2) ∧ At (Ty.lst Ty.ints (g3)) t5 a29 (.tmp 10) ∧ At (Ty.nat (C ^ n)) t5 a29 (.tmp 49) ∧ Own t5 24 22 1 x12_1 (List.length (pattT n C g3 k)) (List.map Ty.ints (pattT n C g3 k)) ∧ OwnP t5 41 x1 [(Ty.nat n), (Ty.val x3), (Ty.val x2)] ∧ ChnU t5 42 22 82 x2 n ((g1)) ((g2)) ∧ Own t5 43 22 1 x3 (List.length gens) (List.map Ty.ints gens) ∧ (k ≤ (C ^ n)) ∧ n3 = (C ^ n) - k) ((C ^ n) - (0)) ?_ ?_
     ·
      exact ⟨s26, 0, (Value.slice none 0 0), rfl, ((F22.step0 D13.stp).step0 D14.stp), ok27, (cJ (D14.m 1 rfl)), (D14.k (D13.m 0 rfl)), (D14.k (D13.k q93)), (D14.k (D13.k q94)), (D14.k (D13.k q95)), (D14.m 0 rfl), (cvo (by (first | rfl | simp [pattT])) (by (first | rfl | simp [pattT])) o79), o76, o77, o78, by omega, rfl⟩
     ·
      rintro n4 a30 w4 ⟨t6, k, x12_1, rfl, F28, ok28, q129, q130, q131, q132, q133, q134, o80, o81, o82, o83, hk, rfl⟩
      have hptl := pattT_len (n := n) (C := C) (E := g3) (k := k)
      have hC0 := pow_pos_c (C := C) (n := n) hn.1
      refine wp_seq ?_
      refine gI a30 t6 ok28 (gS rfl (fun A B G H I => rP (y_lss (kp (I 50 rfl) G q129) (kp (I 49 rfl) G q134))) (gE ok28 fun a31 s27 ok29 D15 => ?_)); have F29 := F28.step0 D15.stp; have q135 := D15.k q129; have q136 := D15.k q130; have o84 := Own.k0 o80 D15.stp; have o85 := OwnP.k0 o81 D15.stp; have o86 := ChnU.k0 o82 D15.stp; have o87 := Own.k0 o83 D15.stp; refine tn (wp_seq ?_)
      refine cond_p (p := (((k : Nat) : Int) < (((C ^ n) : Nat) : Int))) (D15.m 0 rfl) (fun c6 => ?_) (fun c6 => ?_)
      ·
       have hkC : 0 < C := hC0 oM
       refine wp_skip (tn (wp_seq (wp_block (wp_seq ?_))))
       refine gI a31 s27 ok29 (gM q135 (gB 0 (gE ok29 fun a32 s28 ok30 D16 => ?_))); have q144 := D16.k (D15.k q131); have o88 := Own.k0 o84 D16.stp; have o89 := OwnP.k0 o85 D16.stp; have o90 := ChnU.k0 o86 D16.stp; have o91 := Own.k0 o87 D16.stp; refine tn (wp_seq ?_)
       refine gI a32 s28 ok30 (gM q144 (gR (Pr.own 23 3 1 n (List.map Ty.int (List.replicate n 0))) rfl (by intro A B G H I d0 d1; have e0 := ed d0 rfl rfl rfl; exact rP ((y_make (k := 23) (T := Ty.int 0) (n := n) Tryz.underlying22 Tryz.inf3 rfl (fun _ => rfl) e0 e0 oM oM).mono (fun _ _ h => cvo (by simp) (by simp) h))) (gE2 ok30 fun a33 s29 ok31 D17 => ?_))); have o92 := Own.k0 o88 D17.stp; have o93 := OwnP.k0 o89 D17.stp; have o94 := ChnU.k0 o90 D17.stp; have o95 := Own.k0 o91 D17.stp
       obtain ⟨x4, hx1⟩ : ∃ x, a33.eval (.tmp 54) = x := ⟨_, rfl⟩
       have q156 : At (Ty.val x4) s29 a33 (.tmp 54) := hx1
       have o96 := al2 (R := (Pr.own 23 3 1 n (List.map Ty.int (List.replicate n 0)))) hx1 (D17.done 1 dE)
       refine tL ok31 (Yld.toL (y_as q156)) fun a34 s30 hs13 ok32 r13 sm13 => ?_
       have q159 := kq hs13 sm13 0 (D17.k q144)
       have q164 : At (Ty.val x4) s30 a34 (.tmp 14) := r13
       clear r13; refine wpList_nil (tn (wp_seq (wp_seq ?_)))
       refine gI a34 s30 ok32 (gM q159 (gT (Ty.nat (n - 1)) rfl (fun A B G H I d0 => rP ((y_sub (eI d0) rfl wX).mono (fun τ _ h => cvi (σ := τ) oM h))) (gM (kq hs13 sm13 13 (D17.k (D16.m 1 rfl))) (gB 0 (gB 0 (gE ok32 fun a35 s31 ok33 D18 => ?_)))))); have o102 := Own.k0 (Own.kl o92 hs13) D18.stp; have o103 := OwnP.k0 (OwnP.kl o93 hs13) D18.stp; have o104 := ChnU.k0 (ChnU.kl o94 hs13) D18.stp; have o105 := Own.k0 (Own.kl o95 hs13) D18.stp; have o106 := Own.k0 (Own.kl o96 hs13) D18.stp; refine tn (wp_block ?_)
       refine loop (fun n5 a36 w5 => ∃ (t7 : GW) (j : Nat) (x14_2 : Value), t7.w = w5 ∧ FromL [] σ t7 ∧ Ok 80 [] a36 ∧ At (Ty.int ((n : Int) - 1 - (j : Int))) t7 a36 (.tmp 15) ∧ At (Ty.val x14_2) t7 a36 (.tmp 14) ∧ At (Ty.nat (k / C ^ j)) t7 a36 (.tmp 16) ∧ At (Ty.nat k) t7 a36 (.tmp 50) ∧ At (Ty.val x12_1) t7 a36 (.tmp 12) ∧ At (Ty.nat n) t7 a36 (.tmp 0) ∧ At (Ty.nat C) t7 a36 (.tmp 2) ∧ At (Ty.lst Ty.ints (g3)) t7 a36 (.tmp 10) ∧ At (Ty.nat (C ^ n)) t7 a36 (.tmp 49) ∧ Own t7 23 3 1 x14_2 (List.length (colT n C k j)) (List.map Ty.int (colT n C k j)) ∧ Own t7 24 22 1 x12_1 (List.length (pattT n C g3 k)) (List.map Ty.ints (pattT n C g3 k)) ∧ OwnP t7 41 x1 [(Ty.nat n), (Ty.val x3), (Ty.val x2)] ∧ ChnU t7 42 22 82 x2 n ((g1)) ((g2)) ∧ Own t7 43 22 1 x3 (List.length gens) (List.map Ty.ints gens) ∧ (j ≤ n) ∧ n5 = n - j) (n - (0)) ?_ ?_
       ·
        exact ⟨s31, 0, x4, rfl, ((((F29.step0 D16.stp).step0 D17.stp).sl hs13).step0 D18.stp), ok33, (cvi (by (omega)) (D18.m 3 rfl)), (D18.k q164), (cvi (by (simp)) (D18.m 4 rfl)), (D18.k (kq hs13 sm13 50 (D17.k (D16.k q135)))), (D18.k (kq hs13 sm13 12 (D17.k (D16.k q136)))), (D18.k q159), (D18.k (kq hs13 sm13 2 (D17.k (D16.k (D15.k q132))))), (D18.k (kq hs13 sm13 10 (D17.k (D16.k (D15.k q133))))), (D18.k (kq hs13 sm13 49 (D17.k (D16.k (D15.k q134))))), (cvo (by (first | rfl | (rw [colT_zero]; done) | simp [colT_zero])) (by (first | rfl | (rw [colT_zero]; done) | simp [colT_zero])) o106), o102, o103, o104, o105, by omega, rfl⟩
       ·
        rintro n6 a37 w6 ⟨t8, j, x14_2, rfl, F34, ok34, q174, q175, q176, q177, q178, q179, q180, q181, q182, o107, o108, o109, o110, o111, hj, rfl⟩
        have hcl := colT_len (n := n) (C := C) (k := k) (j := j)
        have hkd := Nat.div_le_self k (C ^ j)
        refine wp_seq (wp_seq ?_)
        refine gI a37 t8 ok34 (gM q174 (gS rfl (fun A B G H I d0 => rP (y_geq (eI d0) rfl)) (gE ok34 fun a38 s32 ok35 D19 => ?_))); have F35 := F34.step0 D19.stp; have q183 := D19.k q174; have q184 := D19.k q175; have q185 := D19.k q176; have q186 := D19.k q177; have q187 := D19.k q178; have q188 := D19.k q179; have q189 := D19.k q180; have q190 := D19.k q181; have q191 := D19.k q182; have o112 := Own.k0 o107 D19.stp; have o113 := Own.k0 o108 D19.stp; have o114 := OwnP.k0 o109 D19.stp; have o115 := ChnU.k0 o110 D19.stp; have o116 := Own.k0 o111 D19.stp; have q192 := D19.m 1 rfl; refine tn ?_
        refine cond_p (p := ((0 : Int) ≤ ((n : Int) - 1 - (j : Int)))) q192 (fun c7 => ?_) (fun c7 => ?_)
        ·
         have hix : ((n : Int) - 1 - (j : Int)).toNat = n - 1 - j := oM
         refine wp_skip (tn (wp_seq (wp_block ?_)))
         refine gI a38 s32 ok35 (gM q184 (gM q183 (gM q185 (gM q189 (gT (Ty.nat ((k / C ^ j) % C)) rfl (fun A B G H I d0 d1 => rP (y_remN (eI d0) (eI d1) oM)) (gT (Ty.val (cellPtr x14_2 (((n : Int) - 1 - (j : Int))).toNat)) rfl (fun A B G H I d0 d1 d2 d3 d4 d5 d6 => rP (own_index1 (i := ((n : Int) - 1 - (j : Int))) Tryz.underlying22 Tryz.inf3 (Own.k0 o112 G) (eI d0) (eI d1) oM oM)) (gE2 ok35 fun a39 s33 ok36 D20 => ?_))))))); have o117 := Own.k0 o112 D20.stp; have o118 := Own.k0 o113 D20.stp; have o119 := OwnP.k0 o114 D20.stp; have o120 := ChnU.k0 o115 D20.stp; have o121 := Own.k0 o116 D20.stp
         refine tailL0 (L := [23]) (R := (fun _ τ => Own τ 23 3 1 x14_2 (List.length (colT n C k j)) ((List.map Ty.int (colT n C k j)).set (((n : Int) - 1 - (j : Int))).toNat (Ty.nat ((k / C ^ j) % C))))) rfl rfl (YldM.toL (m_store Tryz.inf3 dE o117 (D20.m 5 rfl) (by simp only [List.length_map, List.length_set]; omega) (D20.m 4 rfl) (one_val rfl))) (fun v1 s34 hs14 r14 => ?_)
         have q204 := kpL hs14 dE rfl (D20.k q183); have q205 := kpL hs14 dE rfl (D20.k q184); have q206 := kpL hs14 dE rfl (D20.k q185); have q207 := kpL hs14 dE rfl (D20.k q186); have q208 := kpL hs14 dE rfl (D20.k q187); have q209 := kpL hs14 dE rfl (D20.k q188); have q210 := kpL hs14 dE rfl (D20.k q189); have q211 := kpL hs14 dE rfl (D20.k q190); have q212 := kpL hs14 dE rfl (D20.k q191)
         have o122 : Own s34 23 3 1 x14_2 (List.length ((colT n C k j).set (((n : Int) - 1 - (j : Int))).toNat ((((k / C ^ j) % C) : Nat) : Int))) (List.map Ty.int ((colT n C k j).set (((n : Int) - 1 - (j : Int))).toNat ((((k / C ^ j) % C) : Nat) : Int))) := (cvo (by simp) (by first | (simp; done) | (rw [List.map_set]; done) | (rw [List.map_set]; rfl)) r14)
         clear r14; refine wpList_nil (bn (tn ?_))
         refine gI a39 s34 ok36 (gM q204 (gT (Ty.int (((n : Int) - 1 - (j : Int)) - (1 : Int))) rfl (fun A B G H I d0 => rP (y_sub (eI d0) rfl wX)) (gM q206 (gM q210 (gT (Ty.nat ((k / C ^ j) / C)) rfl (fun A B G H I d0 d1 d2 => rP (y_quoN (eI d0) (eI d1) oM oM)) (gB 0 (gB 0 (gE ok36 fun a40 s35 ok37 D21 => ?_)))))))); have o127 := Own.k0 (Own.kl o118 hs14) D21.stp; have o128 := OwnP.k0 (OwnP.kl o119 hs14) D21.stp; have o129 := ChnU.k0 (ChnU.kl o120 hs14) D21.stp; have o130 := Own.k0 (Own.kl o121 hs14) D21.stp; have o131 := Own.k0 o122 D21.stp
         exact tn ⟨n - ((j + 1)), by omega, s35, (j + 1), x14_2, rfl, (((F35.step0 D20.stp).sl hs14).step0 D21.stp), ok37, (cvi (by (omega)) (D21.m 5 rfl)), (D21.k q205), (cvi (by (rw [Nat.div_div_eq_div_mul, ← Nat.pow_succ])) (D21.m 6 rfl)), (D21.k q207), (D21.k q208), (D21.k q209), (D21.k q210), (D21.k q211), (D21.k q212), (cvo (by (first | rfl | (rw [← colT_step oM, hix]; done) | (rw [← colT_step oM, hix]; rfl))) (by (first | rfl | (rw [← colT_step oM, hix]; done) | (rw [← colT_step oM, hix]; rfl))) o131), o127, o128, o129, o130, by omega, rfl⟩
        ·
         have ej : j = n := oM; have hcA : colT n C k j = colAt n C k := (by rw [ej]; rfl); have hErc : ∀ x ∈ g3, RowN (colT n C k j).length x := (by rw [colT_len]; exact hEr)
         refine wp_exit (tx (tx (bx (tn (wp_seq ?_)))))
         obtain ⟨t9, e1, h1, q223⟩ := Own.seal o112 dE
         rw [← e1]
         have F39 := F35.step h1 dE; have o132 := Own.keepL o113 (h1.toL (L := [23]) (by simp)) dE dE; have o133 := OwnP.keepL o114 (h1.toL (L := [23]) (by simp)) dE dE; have o134 := ChnU.keepL o115 (h1.toL (L := [23]) (by simp)) dE dE; have o135 := Own.keepL o116 (h1.toL (L := [23]) (by simp)) dE dE; have q224 := Ty.up (Ty.int ((n : Int) - 1 - (j : Int))) (h1.le dE) q183
         have q225 : At (Ty.lst Ty.int (colT n C k j)) t9 a38 (.tmp 14) := by have e : a38.eval (.tmp 14) = x14_2 := q184; show Ty.has _ _ _; rw [e]; exact q223
         have q226 := Ty.up (Ty.nat (k / C ^ j)) (h1.le dE) q185; have q227 := Ty.up (Ty.nat k) (h1.le dE) q186; have q228 := Ty.up (Ty.val x12_1) (h1.le dE) q187; have q229 := Ty.up (Ty.nat n) (h1.le dE) q188; have q230 := Ty.up (Ty.nat C) (h1.le dE) q189; have q231 := Ty.up (Ty.lst Ty.ints (g3)) (h1.le dE) q190; have q232 := Ty.up (Ty.nat (C ^ n)) (h1.le dE) q191; have q233 := Ty.up (Ty.bool (decide ((0 : Int) ≤ ((n : Int) - 1 - (j : Int))))) (h1.le dE) q192
         refine gI a38 t9 ok35 (gM q225 (gM q231 (gS rfl (fun A B G H I d0 d1 => rP (y_call _ Tryz.func55 rfl rfl my2 (first1_fn ((colT n C k j)) ((g3)) _ _ _ (eI d0) (eI d1) oX oX oX))) (gE ok35 fun a41 s36 ok38 D22 => ?_)))); have F40 := F39.step0 D22.stp; have q235 := D22.k q227; have q236 := D22.k q228; have q237 := D22.k q229; have q238 := D22.k q230; have q239 := D22.k q231; have q240 := D22.k q232; have o136 := Own.k0 o132 D22.stp; have o137 := OwnP.k0 o133 D22.stp; have o138 := ChnU.k0 o134 D22.stp; have o139 := Own.k0 o135 D22.stp; refine tn ?_
         refine cond_t (D22.m 2 rfl) (fun c8 => ?_) (fun c8 => ?_)
         ·
          have hfk : fstP g3 (colAt n C k) = true := (hcA ▸ c8)
          refine gI a41 s36 ok38 (gM q236 (gM (D22.k q225) (gT (Ty.sl 1 1 [(Ty.lst Ty.int (colT n C k j))]) rfl (fun A B G H I d0 => rP (y_build1o Tryz.underlying25 Tryz.inf22 rfl (one_sl) (eI d0))) (gE2 ok38 fun a42 s37 ok39 D23 => ?_)))); have o140 := Own.k0 o136 D23.stp; have o141 := OwnP.k0 o137 D23.stp; have o142 := ChnU.k0 o138 D23.stp; have o143 := Own.k0 o139 D23.stp
          have q248 : At (Ty.val x12_1) s37 a42 (.tmp 74) := D23.done 0 dE
          have q249 := D23.m 2 rfl
          have b2 := sl_le q249
          refine tL ok39 (YldM.toL (m_append Tryz.underlying25 Tryz.inf22 dE rfl dE (al (R := (Pr.own 24 22 1 (List.length (pattT n C g3 k)) (List.map Ty.ints (pattT n C g3 k)))) q248 o140) q249 (by intro U hU; simp at hU; subst hU; exact one_sl) oM oM)) fun a43 s38 hs15 ok40 r15 sm14 => ?_
          have q251 := kq hs15 sm14 12 (D23.k q236)
          obtain ⟨x5, hx2⟩ : ∃ x, a43.eval (.tmp 77) = x := ⟨_, rfl⟩
          have q256 : At (Ty.val x5) s38 a43 (.tmp 77) := hx2
          have o144 := al2 (R := (Pr.own 24 22 1 (List.length ((pattT n C g3 k) ++ [(colT n C k j)])) (List.map Ty.ints ((pattT n C g3 k) ++ [(colT n C k j)])))) hx2 (cvo (by simp) (by first | (rw [List.map_append]; rfl) | simp) r15)
          clear r15
          refine tL ok40 (Yld.toL (y_as q256)) fun a44 s39 hs16 ok41 r16 sm15 => ?_
          have q262 : At (Ty.val x5) s39 a44 (.tmp 12) := r16
          clear r16; refine wpList_nil (bn (tn ?_))
          refine gI a44 s39 ok41 (gT (Ty.nat (k + 1)) rfl (fun A B G H I => rP ((y_add (kp (I 50 rfl) G (kq hs16 sm15 50 (kq hs15 sm14 50 (D23.k q235)))) rfl wX).mono (fun τ _ h => cN (σ := τ) h))) (gS rfl (fun A B G H I d0 => rP (y_move (eI d0))) (gE ok41 fun a45 s40 ok42 D24 => ?_))); have o152 := OwnP.k0 (OwnP.kl (OwnP.kl o141 hs15) hs16) D24.stp; have o153 := ChnU.k0 (ChnU.kl (ChnU.kl o142 hs15) hs16) D24.stp; have o154 := Own.k0 (Own.kl (Own.kl o143 hs15) hs16) D24.stp; have o155 := Own.k0 (Own.kl o144 hs16) D24.stp
          exact tn ⟨(C ^ n) - ((k+1)), by omega, s40, (k+1), x5, rfl, ((((F40.step0 D23.stp).sl hs15).sl hs16).step0 D24.stp), ok42, (cJ (D24.m 1 rfl)), (D24.k q262), (D24.k (kq hs16 sm15 0 (kq hs15 sm14 0 (D23.k q237)))), (D24.k (kq hs16 sm15 2 (kq hs15 sm14 2 (D23.k q238)))), (D24.k (kq hs16 sm15 10 (kq hs15 sm14 10 (D23.k q239)))), (D24.k (kq hs16 sm15 49 (kq hs15 sm14 49 (D23.k q240)))), (cvo (by (rw [pattT_yes hfk, hcA])) (by (rw [pattT_yes hfk, hcA])) o155), o152, o153, o154, by omega, rfl⟩
         ·
          have hfk : fstP g3 (colAt n C k) = false := (hcA ▸ c8)
          refine wp_skip (bn (tn ?_))
          refine gI a41 s36 ok38 (gT (Ty.nat (k + 1)) rfl (fun A B G H I => rP ((y_add (kp (I 50 rfl) G q235) rfl wX).mono (fun τ _ h => cN (σ := τ) h))) (gS rfl (fun A B G H I d0 => rP (y_move (eI d0))) (gE ok38 fun a46 s41 ok43 D25 => ?_))); have o156 := Own.k0 o136 D25.stp; have o157 := OwnP.k0 o137 D25.stp; have o158 := ChnU.k0 o138 D25.stp; have o159 := Own.k0 o139 D25.stp
          exact tn ⟨(C ^ n) - ((k+1)), by omega, s41, (k+1), x12_1, rfl, (F40.step0 D25.stp), ok43, (cJ (D25.m 1 rfl)), (D25.k q236), (D25.k q237), (D25.k q238), (D25.k q239), (D25.k q240), (cvo (by (rw [pattT_no hfk])) (by (rw [pattT_no hfk])) o156), o157, o158, o159, by omega, rfl⟩
      ·
       have ek : k = C ^ n := oM
       refine wp_exit (tx (tx (bx (tn (wp_seq ?_)))))
       refine gI a31 s27 ok29 (gM q136 (gB 0 (gC (Ty.int (0 : Int)) (gE ok29 fun a47 s42 ok44 D26 => ?_)))); have o160 := Own.k0 o84 D26.stp; have o161 := OwnP.k0 o85 D26.stp; have o162 := ChnU.k0 o86 D26.stp; have o163 := Own.k0 o87 D26.stp
       have q275 : At (Ty.val x12_1) s42 a47 (.tmp 6) := D26.done 1
       refine tn (wp_ret ?_)
       obtain ⟨t10, e2, h2, q277⟩ := Own.seal o160 dE
       rw [← e2]
       have F47 := (F29.step0 D26.stp).step h2 dE; have o164 := OwnP.keepL o161 (h2.toL (L := [24]) (by simp)) dE dE; have o165 := ChnU.keepL o162 (h2.toL (L := [24]) (by simp)) dE dE; have o166 := Own.keepL o163 (h2.toL (L := [24]) (by simp)) dE dE
       have q278 : At (Ty.lst Ty.ints (pattT n C g3 k)) t10 a47 (.tmp 6) := by have e : a47.eval (.tmp 6) = x12_1 := q275; show Ty.has _ _ _; rw [e]; exact q277
       have q279 := Ty.up (Ty.int (0 : Int)) (h2.le dE) (D26.m 2 rfl)
       exact retL2 rfl ok44 F47 ⟨((colsL n C).filter (fstP g3)), (hasT2 (cvt (by ((rw [ek]; rfl))) q278) q279), (by exact ⟨g3, hEO, rfl⟩)⟩


set_option maxHeartbeats 4000000 in
set_option maxRecDepth 100000 in
theorem colAt_fn (n : Nat) (C : Nat) (k : Nat) (σ : GW)  (v0 v1 v2 : Value) (hv0 : Ty.has (Ty.nat n) σ v0) (hv1 : Ty.has (Ty.nat C) σ v1) (hv2 : Ty.has (Ty.nat k) σ v2)  (hn : 1 ≤ n ∧ n ≤ 12) (hC : 1 ≤ C ∧ C ≤ 8) (hk : k ≤ 68719476736) :
    FnC Tryz.prog 38 #[v0, v1, v2] σ (Ty.lst Ty.int (colAt n C k)) := by
 refine fn_intro0 Tryz.func38 rfl Tryz.ntmps38 (Nat.le_of_ble_eq_true rfl) (fun s0 a0 hle F0 ok0 hargs => ?_)
 have p0 := pA hle (hargs 0 _ rfl) hv0
 have p1 := pA hle (hargs 1 _ rfl) hv1
 have p2 := pA hle (hargs 2 _ rfl) hv2
 clear hargs; refine wp_seq ?_
 refine gI a0 s0 ok0 (gC (Ty.val (Value.slice none 0 0)) (gE ok0 fun a1 s1 ok1 D1 => ?_)); have q1 := D1.k p0; refine tn (wp_seq ?_)
 refine gI a1 s1 ok1 (gM q1 (gR (Pr.own 20 3 1 n (List.map Ty.int (List.replicate n 0))) rfl (by intro A B G H I d0 d1; have e0 := ed d0 rfl rfl rfl; exact rP ((y_make (k := 20) (T := Ty.int 0) (n := n) Tryz.underlying22 Tryz.inf3 rfl (fun _ => rfl) e0 e0 oM oM).mono (fun _ _ h => cvo (by simp) (by simp) h))) (gE2 ok1 fun a2 s2 ok2 D2 => ?_)))
 obtain ⟨x1, hx1⟩ : ∃ x, a2.eval (.tmp 10) = x := ⟨_, rfl⟩
 have q7 : At (Ty.val x1) s2 a2 (.tmp 10) := hx1
 have o1 := al2 (R := (Pr.own 20 3 1 n (List.map Ty.int (List.replicate n 0)))) hx1 (D2.done 1 dE)
 refine tL ok2 (Yld.toL (y_as q7)) fun a3 s3 hs1 ok3 r1 sm1 => ?_
 have q11 : At (Ty.val x1) s3 a3 (.tmp 7) := r1
 clear r1; refine wpList_nil (tn (wp_seq (wp_seq ?_)))
 refine gI a3 s3 ok3 (gM (kq hs1 sm1 0 (D2.k q1)) (gT (Ty.nat (n - 1)) rfl (fun A B G H I d0 => rP ((y_sub (eI d0) rfl wX).mono (fun τ _ h => cvi (σ := τ) oM h))) (gB 0 (gE ok3 fun a4 s4 ok4 D3 => ?_)))); have o3 := Own.k0 (Own.kl o1 hs1) D3.stp; refine tn (wp_block ?_)
 refine loop (fun n1 a5 w1 => ∃ (t1 : GW) (j : Nat) (x7_0 : Value), t1.w = w1 ∧ FromL [] s0 t1 ∧ Ok 27 [] a5 ∧ At (Ty.int ((n : Int) - 1 - (j : Int))) t1 a5 (.tmp 8) ∧ At (Ty.val x7_0) t1 a5 (.tmp 7) ∧ At (Ty.nat (k / C ^ j)) t1 a5 (.tmp 2) ∧ At (Ty.nat C) t1 a5 (.tmp 1) ∧ Own t1 20 3 1 x7_0 (List.length (colT n C k j)) (List.map Ty.int (colT n C k j)) ∧ (j ≤ n) ∧ n1 = n - j) (n - (0)) ?_ ?_
 ·
  exact ⟨s4, 0, x1, rfl, ((((F0.step0 D1.stp).step0 D2.stp).sl hs1).step0 D3.stp), ok4, (cvi (by (omega)) (D3.m 2 rfl)), (D3.k q11), (cvi (by (simp)) (D3.k (kq hs1 sm1 2 (D2.k (D1.k p2))))), (D3.k (kq hs1 sm1 1 (D2.k (D1.k p1)))), (cvo (by (first | rfl | (rw [colT_zero]; done) | simp [colT_zero])) (by (first | rfl | (rw [colT_zero]; done) | simp [colT_zero])) o3), by omega, rfl⟩
 ·
  rintro n2 a6 w2 ⟨t2, j, x7_0, rfl, F5, ok5, q16, q17, q18, q19, o4, hj, rfl⟩
  have hcl := colT_len (n := n) (C := C) (k := k) (j := j)
  have hkd := Nat.div_le_self k (C ^ j)
  refine wp_seq (wp_seq ?_)
  refine gI a6 t2 ok5 (gM q16 (gS rfl (fun A B G H I d0 => rP (y_geq (eI d0) rfl)) (gE ok5 fun a7 s5 ok6 D4 => ?_))); have F6 := F5.step0 D4.stp; have q20 := D4.k q16; have q21 := D4.k q17; have q22 := D4.k q18; have q23 := D4.k q19; have o5 := Own.k0 o4 D4.stp; refine tn ?_
  refine cond_p (p := ((0 : Int) ≤ ((n : Int) - 1 - (j : Int)))) (D4.m 1 rfl) (fun c1 => ?_) (fun c1 => ?_)
  ·
   have hix : ((n : Int) - 1 - (j : Int)).toNat = n - 1 - j := oM
   refine wp_skip (tn (wp_seq (wp_block (wp_seq ?_))))
   refine gI a7 s5 ok6 (gM q21 (gM q20 (gM q22 (gM q23 (gT (Ty.nat ((k / C ^ j) % C)) rfl (fun A B G H I d0 d1 => rP (y_remN (eI d0) (eI d1) oM)) (gT (Ty.val (cellPtr x7_0 (((n : Int) - 1 - (j : Int))).toNat)) rfl (fun A B G H I d0 d1 d2 d3 d4 d5 d6 => rP (own_index1 (i := ((n : Int) - 1 - (j : Int))) Tryz.underlying22 Tryz.inf3 (Own.k0 o5 G) (eI d0) (eI d1) oM oM)) (gE2 ok6 fun a8 s6 ok7 D5 => ?_))))))); have o6 := Own.k0 o5 D5.stp
   refine tailL0 (L := [20]) (R := (fun _ τ => Own τ 20 3 1 x7_0 (List.length (colT n C k j)) ((List.map Ty.int (colT n C k j)).set (((n : Int) - 1 - (j : Int))).toNat (Ty.nat ((k / C ^ j) % C))))) rfl rfl (YldM.toL (m_store Tryz.inf3 dE o6 (D5.m 5 rfl) (by simp only [List.length_map, List.length_set]; omega) (D5.m 4 rfl) (one_val rfl))) (fun v1 s7 hs2 r2 => ?_)
   have q31 := kpL hs2 dE rfl (D5.k q20); have q32 := kpL hs2 dE rfl (D5.k q21); have q33 := kpL hs2 dE rfl (D5.k q22); have q34 := kpL hs2 dE rfl (D5.k q23)
   have o7 : Own s7 20 3 1 x7_0 (List.length ((colT n C k j).set (((n : Int) - 1 - (j : Int))).toNat ((((k / C ^ j) % C) : Nat) : Int))) (List.map Ty.int ((colT n C k j).set (((n : Int) - 1 - (j : Int))).toNat ((((k / C ^ j) % C) : Nat) : Int))) := (cvo (by simp) (by first | (simp; done) | (rw [List.map_set]; done) | (rw [List.map_set]; rfl)) r2)
   clear r2; refine wpList_nil (tn ?_)
   refine gI a8 s7 ok7 (gM q33 (gM q34 (gT (Ty.nat ((k / C ^ j) / C)) rfl (fun A B G H I d0 d1 => rP (y_quoN (eI d0) (eI d1) oM oM)) (gB 0 (gE ok7 fun a9 s8 ok8 D6 => ?_))))); have o8 := Own.k0 o7 D6.stp; refine bn (tn ?_)
   refine gI a9 s8 ok8 (gM (D6.k q31) (gT (Ty.int (((n : Int) - 1 - (j : Int)) - (1 : Int))) rfl (fun A B G H I d0 => rP (y_sub (eI d0) rfl wX)) (gB 0 (gE ok8 fun a10 s9 ok9 D7 => ?_)))); have o9 := Own.k0 o8 D7.stp
   exact tn ⟨n - ((j + 1)), by omega, s9, (j + 1), x7_0, rfl, ((((F6.step0 D5.stp).sl hs2).step0 D6.stp).step0 D7.stp), ok9, (cvi (by (omega)) (D7.m 2 rfl)), (D7.k (D6.k q32)), (cvi (by (rw [Nat.div_div_eq_div_mul, ← Nat.pow_succ])) (D7.k (D6.m 3 rfl))), (D7.k (D6.k q34)), (cvo (by (first | rfl | (rw [← colT_step oM, hix]; done) | (rw [← colT_step oM, hix]; rfl))) (by (first | rfl | (rw [← colT_step oM, hix]; done) | (rw [← colT_step oM, hix]; rfl))) o9), by omega, rfl⟩
  ·
   have ej : j = n := oM
   refine wp_exit (tx (tx (bx (tn (wp_seq ?_)))))
   refine gI a7 s5 ok6 (gM q21 (gB 0 (gE ok6 fun a11 s10 ok10 D8 => ?_))); have o10 := Own.k0 o5 D8.stp
   have q44 : At (Ty.val x7_0) s10 a11 (.tmp 6) := D8.done 1
   refine tn (wp_ret ?_)
   obtain ⟨t3, e1, h1, q45⟩ := Own.seal o10 dE
   rw [← e1]
   have F12 := (F6.step0 D8.stp).step h1 dE
   have q46 : At (Ty.lst Ty.int (colT n C k j)) t3 a11 (.tmp 6) := by have e : a11.eval (.tmp 6) = x7_0 := q44; show Ty.has _ _ _; rw [e]; exact q45
   exact retL1 rfl ok10 F12 (cvt (by (rw [ej]; rfl)) q46)


set_option maxHeartbeats 4000000 in
set_option maxRecDepth 100000 in
theorem isFirst_fn (c : List Int) (E : List (List Int)) (σ : GW)  (v0 v1 : Value) (hv0 : Ty.has (Ty.lst Ty.int c) σ v0) (hv1 : Ty.has (Ty.lst Ty.ints E) σ v1)  (hE : ∀ x ∈ E, RowN c.length x) (hc : c.length ≤ 12) (hl : E.length ≤ 5040) :
    FnC Tryz.prog 39 #[v0, v1] σ (Ty.bool (fstP E c)) := by
 refine fn_intro0 Tryz.func39 rfl Tryz.ntmps39 (Nat.le_of_ble_eq_true rfl) (fun s0 a0 hle F0 ok0 hargs => ?_)
 have p0 := pA hle (hargs 0 _ rfl) hv0
 have b1 := sl_le p0
 have p1 := pA hle (hargs 1 _ rfl) hv1
 have b2 := sl_le p1
 clear hargs; refine wp_seq ?_
 refine gI a0 s0 ok0 (gC (Ty.bool false) (gE ok0 fun a1 s1 ok1 D1 => ?_)); refine tn (wp_seq (wp_seq ?_))
 refine gI a1 s1 ok1 (gC (Ty.int (0 : Int)) (gE ok1 fun a2 s2 ok2 D2 => ?_)); refine tn (wp_block ?_)
 refine loop (fun n1 a3 w1 => ∃ (t1 : GW) (i : Nat), t1.w = w1 ∧ FromL [] s0 t1 ∧ Ok 22 [] a3 ∧ At (Ty.nat i) t1 a3 (.tmp 5) ∧ At (Ty.lst Ty.int c) t1 a3 (.tmp 0) ∧ At (Ty.lst Ty.ints E) t1 a3 (.tmp 1) ∧ (i ≤ E.length) ∧ (∀ k, k < i → belowL (byL c (E.getD k [])) c = false) ∧ n1 = E.length - i) (E.length - (0)) ?_ ?_
 ·
  exact ⟨s2, 0, rfl, ((F0.step0 D1.stp).step0 D2.stp), ok2, (cJ (D2.m 0 rfl)), (D2.k (D1.k p0)), (D2.k (D1.k p1)), by omega, fun k h => by omega, rfl⟩
 ·
  rintro n2 a4 w2 ⟨t2, i, rfl, F3, ok3, q6, q7, q8, hi, hA, rfl⟩
  refine wp_seq (wp_seq ?_)
  refine gI a4 t2 ok3 (gM q6 (gM q8 (gS rfl (fun A B G H I d0 => rP (y_len Tryz.underlying25 (eI d0))) (gS rfl (fun A B G H I d0 d1 => rP (y_lss (eI d0) (eI d1))) (gE ok3 fun a5 s3 ok4 D3 => ?_))))); have F4 := F3.step0 D3.stp; have q9 := D3.k q6; have q10 := D3.k q7; have q11 := D3.k q8; refine tn ?_
  refine cond_p (p := (((i : Nat) : Int) < (((List.length E) : Nat) : Int))) (D3.m 3 rfl) (fun c1 => ?_) (fun c1 => ?_)
  ·
   have hri := hE _ (mem_atD [] (show i < E.length by omega)); have hrl := hri.len; have hrb := hri.bd
   refine wp_skip (tn (wp_seq (wp_block (wp_seq ?_))))
   refine gI a5 s3 ok4 (gM q10 (gM q11 (gM q9 (gT (Ty.ref [(Ty.lst Ty.int (E.getD i []))]) rfl (fun A B G H I d0 d1 => rP (y_index1 Tryz.underlying25 Tryz.inf22 (eI d0) (eI d1) oM (lst_get Ty.ints E [] i oM))) (gS rfl (fun A B G H I d0 => rP (y_load Tryz.underlying22 rfl (eI d0) rfl)) (gS rfl (fun A B G H I d0 d1 => rP (y_call _ Tryz.func21 rfl rfl my2 (rBy_fn (c) ((E.getD i [])) _ _ _ (eI d0) (eI d1) (by first | assumption | omega) (by first | assumption | omega)))) (gB 0 (gE ok4 fun a6 s4 ok5 D4 => ?_)))))))); have q14 := D4.k q10; refine tn (wp_seq ?_)
   refine gI a6 s4 ok5 (gM (D4.m 6 rfl) (gM q14 (gS rfl (fun A B G H I d0 d1 => rP (y_call _ Tryz.func54 rfl rfl my2 (rBelow_fn ((byL (c) ((E.getD i [])))) (c) _ _ _ (eI d0) (eI d1) ))) (gE ok5 fun a7 s5 ok6 D5 => ?_)))); have F6 := (F4.step0 D4.stp).step0 D5.stp; refine tn ?_
   refine cond_t (D5.m 2 rfl) (fun c2 => ?_) (fun c2 => ?_)
   ·
    have hfl : fstP E c = false := fst_no (i := i) oM c2
    refine wp_seq ?_
    refine gI a7 s5 ok6 (gC (Ty.bool false) (gE ok6 fun a8 s6 ok7 D6 => ?_)); refine tn (wp_ret (br (tr (tr (br (tr ?_))))))
    exact retL1 rfl ok7 (F6.step0 D6.stp) (cvb (by (rw [hfl])) (D6.m 0 rfl))
   ·
    have hA2 : ∀ k, k < i + 1 → belowL (byL c (E.getD k [])) c = false := fst_put hA c2
    refine wp_skip (bn (tn ?_))
    refine gI a7 s5 ok6 (gM (D5.k (D4.k q9)) (gT (Ty.nat (i + 1)) rfl (fun A B G H I d0 => rP ((y_add (eI d0) rfl wX).mono (fun τ _ h => cN (σ := τ) h))) (gB 0 (gE ok6 fun a9 s7 ok8 D7 => ?_))))
    exact tn ⟨E.length - ((i+1)), by omega, s7, (i+1), rfl, (F6.step0 D7.stp), ok8, (cJ (D7.m 2 rfl)), (D7.k (D5.k q14)), (D7.k (D5.k (D4.k q11))), by omega, hA2, rfl⟩
  ·
   have hfl : fstP E c = true := (fst_all (fun k hk => hA k oM))
   refine wp_exit (tx (tx (bx (tn (wp_seq ?_)))))
   refine gI a5 s3 ok4 (gC (Ty.bool true) (gE ok4 fun a10 s8 ok9 D8 => ?_)); refine tn (wp_ret ?_)
   exact retL1 rfl ok9 (F4.step0 D8.stp) (cvb (by (rw [hfl])) (D8.m 0 rfl))


end Go.Proofs.YtkjifbgofckfeaaGreat
