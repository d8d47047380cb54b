/- The functions that the law GroupNormal reaches, each by its contract. Part 5. -/
import Derived.Test.YtkjifbgofckfeaaGroupNormalW4
namespace Go.Proofs.Ytkjifbgofckfeaa
open Go.KL

set_option maxHeartbeats 4000000 in
set_option maxRecDepth 100000 in
theorem groupNormal_fn (raw : List Int) (n : Int) (many : Int) (few : Int) (apart : Bool) (σ : GW)  (v0 v1 v2 v3 v4 : Value) (hv0 : Ty.has (Ty.lst Ty.int raw) σ v0) (hv1 : Ty.has (Ty.int n) σ v1) (hv2 : Ty.has (Ty.int many) σ v2) (hv3 : Ty.has (Ty.int few) σ v3) (hv4 : Ty.has (Ty.bool apart) σ v4)  (hraw : ∀ x ∈ raw, -9223372036854775808 ≤ x ∧ x ≤ 9223372036854775807) (hn : -9223372036854775808 ≤ n ∧ n ≤ 9223372036854775807) (hmany : -9223372036854775808 ≤ many ∧ many ≤ 9223372036854775807) (hfew : -9223372036854775808 ≤ few ∧ few ≤ 9223372036854775807) :
    FnC Try.prog 3 #[v0, v1, v2, v3, v4] σ (Ty.bool true) := by
 have hp_n := pick_lt n (n := 5) (by omega)
 have hp_many := pick_lt many (n := 4) (by omega)
 have hp_few := pick_lt few (n := 3) (by omega)
 obtain ⟨N, hN⟩ : ∃ N, N = 1 + pick n 5 := ⟨_, rfl⟩
 have hN12 : 1 ≤ N ∧ N ≤ 12 := (by omega)
 obtain ⟨GS, hGS⟩ : ∃ GS, GS = rowsOf raw 0 N (pick many 4) := ⟨_, rfl⟩
 have hGr : ∀ x ∈ GS, RowN N x := by (rw [hGS]; exact rowsOf_row hN12)
 have hGl : GS.length ≤ 8 := by (rw [hGS, rowsOf_len]; omega)
 obtain ⟨M2, hM2⟩ : ∃ M2, M2 = if apart = true then 1 + N % 5 else N := ⟨_, rfl⟩
 have hM12 : 1 ≤ M2 ∧ M2 ≤ 12 := by (rw [hM2]; split <;> omega)
 have hMN : M2 = N ∨ apart = true := by (cases apart; exact .inl hM2; exact .inr rfl)
 obtain ⟨SS, hSS⟩ : ∃ SS, SS = if apart = true then rowsOf raw 5 M2 1 else rowsOf raw 5 M2 (pick few 3) := ⟨_, rfl⟩
 have hSr : ∀ x ∈ SS, RowN M2 x := by (rw [hSS]; split <;> exact rowsOf_row hM12)
 have hSl : SS.length ≤ 8 := by (rw [hSS]; split <;> (rw [rowsOf_len]; omega))
 have hf5 := fct_mono (show N ≤ 5 by omega)
 have hf120 : fct 5 = 120 := rfl
 refine fn_intro0 Try.func3 rfl Try.ntmps3 (Nat.le_of_ble_eq_true rfl) (fun s0 a0 hle F0 ok0 hargs => ?_)
 have p0 := pA hle (hargs 0 _ rfl) hv0
 have b1 := sl_le p0
 have p1 := pA hle (hargs 1 _ rfl) hv1
 have p2 := pA hle (hargs 2 _ rfl) hv2
 have p3 := pA hle (hargs 3 _ rfl) hv3
 have p4 := pA hle (hargs 4 _ rfl) hv4
 clear hargs; refine wp_seq ?_
 refine gI a0 s0 ok0 (gC (Ty.bool false) (gE ok0 fun a1 s1 ok1 D1 => ?_)); have q1 := D1.kt p0 rfl; refine tn (wp_seq (wp_seq ?_))
 refine gI a1 s1 ok1 (gM q1 (gS rfl (fun A B E G H d0 => rP (y_len Try.underlying22 (ed d0 rfl rfl rfl))) (gS rfl (fun A B E G H d0 => rP (y_gtr (ed d0 rfl rfl rfl) rfl)) (gE ok1 fun a2 s2 ok2 D2 => ?_)))); have F2 := (F0.step0 D1.stp).step0 D2.stp; refine tn ?_
 refine cond_p (p := ((256 : Int) < (((List.length raw) : Nat) : Int))) (D2.dn 2 rfl rfl) (fun c1 => ?_) (fun c1 => ?_)
 ·
  refine wp_seq ?_
  refine gI a2 s2 ok2 (gC (Ty.bool true) (gE ok2 fun a3 s3 ok3 D3 => ?_)); refine tn (wp_ret (tr ?_))
  exact retL1 rfl ok3 (F2.step0 D3.stp) (D3.dn 0 rfl rfl)
 ·
  refine wp_skip (tn (wp_seq ?_))
  refine gI a2 s2 ok2 (gM (D2.kt (D1.kt p1 rfl) rfl) (gS rfl (fun A B E G H d0 => rP (y_call #[A.eval (.tmp 32), A.eval ((Operand.const (Value.int IntKind.i64 5)))] Try.func15 rfl rfl my2 (pick_fn (n) (5) _ _ _ (cvi (σ := B) (by omega) (ed d0 rfl rfl rfl)) (cvi (σ := B) (by omega) rfl) (by omega) (by omega)))) (gT (Ty.nat (1 + (pick (n) (5)))) rfl (fun A B E G H d0 => rP ((y_add rfl (ed d0 rfl rfl rfl) (w64 (by omega) (by omega))).mono (fun τ _ h => cvi (σ := τ) (by first | omega | exact (Int.natCast_mul _ _).symm) h))) (gB 0 (gE ok2 fun a4 s4 ok4 D4 => ?_))))); have q13 := D4.kt (D2.kt q1 rfl) rfl
  have q18 : At (Ty.nat N) s4 a4 (.tmp 1) := (cvi (by (rw [hN])) (D4.dn 3 rfl rfl))
  refine tn (wp_seq ?_)
  refine gI a4 s4 ok4 (gM q13 (gM q18 (gM (D4.kt (D2.kt (D1.kt p2 rfl) rfl) rfl) (gS rfl (fun A B E G H d0 => rP (y_call #[A.eval (.tmp 37), A.eval ((Operand.const (Value.int IntKind.i64 4)))] Try.func15 rfl rfl my2 (pick_fn (many) (4) _ _ _ (cvi (σ := B) (by omega) (ed d0 rfl rfl rfl)) (cvi (σ := B) (by omega) rfl) (by omega) (by omega)))) (gS rfl (fun A B E G H d0 d1 d2 d3 => rP (y_call #[A.eval (.tmp 35), A.eval ((Operand.const (Value.int IntKind.i64 0))), A.eval (.tmp 36), A.eval (.tmp 38)] Try.func16 rfl rfl my4 (rRowsOf_fn (raw) (0) (N) ((pick (many) (4))) _ _ _ _ _ (ed d0 rfl rfl rfl) (cvi (σ := B) (by first | omega | exact wr64_bd _ | assumption) rfl) (cvi (σ := B) (by first | omega | exact wr64_bd _ | assumption) (ed d1 rfl rfl rfl)) (cvi (σ := B) (by first | omega | exact wr64_bd _ | assumption) (ed d2 rfl rfl rfl)) (by first | omega | exact wr64_bd _ | assumption) (by first | omega | exact wr64_bd _ | assumption) (by first | omega | exact wr64_bd _ | assumption)))) (gB 0 (gE ok4 fun a5 s5 ok5 D5 => ?_))))))); have q19 := D5.kt q13 rfl; have q22 := D5.kt q18 rfl
  have q24 : At (Ty.lst Ty.ints GS) s5 a5 (.tmp 11) := (cvt (by (rw [hGS])) (D5.dn 5 rfl rfl))
  refine tn (wp_seq ?_)
  refine gI a5 s5 ok5 (gM q19 (gM q22 (gM (D5.kt (D4.kt (D2.kt (D1.kt p3 rfl) rfl) rfl) rfl) (gS rfl (fun A B E G H d0 => rP (y_call #[A.eval (.tmp 42), A.eval ((Operand.const (Value.int IntKind.i64 3)))] Try.func15 rfl rfl my2 (pick_fn (few) (3) _ _ _ (cvi (σ := B) (by omega) (ed d0 rfl rfl rfl)) (cvi (σ := B) (by omega) rfl) (by omega) (by omega)))) (gS rfl (fun A B E G H d0 d1 d2 d3 => rP (y_call #[A.eval (.tmp 40), A.eval ((Operand.const (Value.int IntKind.i64 5))), A.eval (.tmp 41), A.eval (.tmp 43)] Try.func16 rfl rfl my4 (rRowsOf_fn (raw) (5) (N) ((pick (few) (3))) _ _ _ _ _ (ed d0 rfl rfl rfl) (cvi (σ := B) (by first | omega | exact wr64_bd _ | assumption) rfl) (cvi (σ := B) (by first | omega | exact wr64_bd _ | assumption) (ed d1 rfl rfl rfl)) (cvi (σ := B) (by first | omega | exact wr64_bd _ | assumption) (ed d2 rfl rfl rfl)) (by first | omega | exact wr64_bd _ | assumption) (by first | omega | exact wr64_bd _ | assumption) (by first | omega | exact wr64_bd _ | assumption)))) (gB 0 (gE ok5 fun a6 s6 ok6 D6 => ?_))))))); have q27 := D6.kt q22 rfl; have q28 := D6.kt q24 rfl; refine tn (wp_seq ?_)
  refine gI a6 s6 ok6 (gM q27 (gM q28 (gE2 ok6 fun a7 s7 ok7 D7 => ?_)))
  refine tL ok7 (y_callL (L := []) [] [(41, 41), (42, 42), (43, 43)] _ rfl (by decide) Try.func17 rfl rfl my2 (gMake_fn (N) (GS) _ (GW.low_lend _ (by decide)) _ _ (Ty.up _ (GW.le_lend _ _) (cvi (σ := s7) (by first | omega | assumption) (D7.dn 0 (by decide) rfl rfl))) (Ty.up _ (GW.le_lend _ _) (D7.dn 1 (by decide) rfl rfl))  (by first | omega | assumption) (by first | omega | assumption) (by first | omega | assumption))) fun a8 s8 hs1 ok8 r1 sm1 => ?_
  have F8 := ((((F2.step0 D4.stp).step0 D5.stp).step0 D6.stp).step0 D7.stp).stepL hs1 (by decide); have q37 := kpL hs1 (by decide) (sm1 0 (by decide)) (D7.kt (D6.kt q19 rfl) rfl); have q38 := kpL hs1 (by decide) (sm1 4 (by decide)) (D7.kt (D6.kt (D5.kt (D4.kt (D2.kt (D1.kt p4 rfl) rfl) rfl) rfl) rfl) rfl); have q39 := kpL hs1 (by decide) (sm1 1 (by decide)) (D7.kt q27 rfl); have q40 := kpL hs1 (by decide) (sm1 11 (by decide)) (D7.kt q28 rfl); have q41 := kpL hs1 (by decide) (sm1 12 (by decide)) (D7.kt (D6.dn 5 rfl rfl) rfl)
  obtain ⟨t1, ⟨g1, g2, x1, x2, x3, hT1, o1, o2, o3, hp1⟩, B1⟩ := r1
  have q42 : At (Ty.tup2 (Ty.val x1) (Ty.int (0 : Int))) s8 a8 (.tmp 48) := Ty.up _ B1.le hT1
  have o4 : OwnP s8 41 x1 [(Ty.nat (N)), (Ty.val x3), (Ty.val x2)] := OwnP.ren o1 (B1.ren (by decide) rfl)
  have o5 : ChnU s8 42 22 108 x2 (N) (g1) (g2) := ChnU.ren o2 (B1.ren (by decide) rfl)
  have o6 : Own s8 43 22 1 x3 (List.length (GS)) (List.map Ty.ints (GS)) := Own.ren o3 (B1.ren (by decide) rfl)
  refine tL ok8 (Yld.toL (y_mv q42)) fun a9 s9 hs2 ok9 r2 sm2 => ?_
  have F9 := F8.stepL hs2 (by decide); have q43 := kpL hs2 (by decide) (sm2 0 (by decide)) q37; have q44 := kpL hs2 (by decide) (sm2 4 (by decide)) q38; have q45 := kpL hs2 (by decide) (sm2 1 (by decide)) q39; have q46 := kpL hs2 (by decide) (sm2 11 (by decide)) q40; have q47 := kpL hs2 (by decide) (sm2 12 (by decide)) q41; have o7 := OwnP.keepL o4 hs2 (by decide) (by decide); have o8 := ChnU.keepL o5 hs2 (by decide) (by decide); have o9 := Own.keepL o6 hs2 (by decide) (by decide)
  have q48 : At (Ty.tup2 (Ty.val x1) (Ty.int (0 : Int))) s9 a9 (.tmp 45) := r2
  clear r2
  refine tL (R := (fun v τ => Pr.has (Ty.pr (Ty.val x1)) τ v)) ok9 (Yld.toL (y_ext2_0 q48)) fun a10 s10 hs3 ok10 r3 sm3 => ?_
  have F10 := F9.stepL hs3 (by decide); have q49 := kpL hs3 (by decide) (sm3 0 (by decide)) q43; have q50 := kpL hs3 (by decide) (sm3 4 (by decide)) q44; have q51 := kpL hs3 (by decide) (sm3 1 (by decide)) q45; have q52 := kpL hs3 (by decide) (sm3 11 (by decide)) q46; have q53 := kpL hs3 (by decide) (sm3 12 (by decide)) q47; have q54 := kpL hs3 (by decide) (sm3 45 (by decide)) q48; have o10 := OwnP.keepL o7 hs3 (by decide) (by decide); have o11 := ChnU.keepL o8 hs3 (by decide) (by decide); have o12 := Own.keepL o9 hs3 (by decide) (by decide)
  have q55 : At (Ty.val x1) s10 a10 (.tmp 49) := r3
  clear r3
  refine tL (R := (fun v τ => Pr.has (Ty.pr (Ty.int (0 : Int))) τ v)) ok10 (Yld.toL (y_ext2_1 q54)) fun a11 s11 hs4 ok11 r4 sm4 => ?_
  have F11 := F10.stepL hs4 (by decide); have q56 := kpL hs4 (by decide) (sm4 0 (by decide)) q49; have q57 := kpL hs4 (by decide) (sm4 4 (by decide)) q50; have q58 := kpL hs4 (by decide) (sm4 1 (by decide)) q51; have q59 := kpL hs4 (by decide) (sm4 11 (by decide)) q52; have q60 := kpL hs4 (by decide) (sm4 12 (by decide)) q53; have q61 := kpL hs4 (by decide) (sm4 49 (by decide)) q55; have o13 := OwnP.keepL o10 hs4 (by decide) (by decide); have o14 := ChnU.keepL o11 hs4 (by decide) (by decide); have o15 := Own.keepL o12 hs4 (by decide) (by decide)
  have q62 : At (Ty.int (0 : Int)) s11 a11 (.tmp 50) := r4
  clear r4
  refine tL ok11 (Yld.toL (y_as q61)) fun a12 s12 hs5 ok12 r5 sm5 => ?_
  have F12 := F11.stepL hs5 (by decide); have q63 := kpL hs5 (by decide) (sm5 0 (by decide)) q56; have q64 := kpL hs5 (by decide) (sm5 4 (by decide)) q57; have q65 := kpL hs5 (by decide) (sm5 1 (by decide)) q58; have q66 := kpL hs5 (by decide) (sm5 11 (by decide)) q59; have q67 := kpL hs5 (by decide) (sm5 12 (by decide)) q60; have q68 := kpL hs5 (by decide) (sm5 50 (by decide)) q62; have o16 := OwnP.keepL o13 hs5 (by decide) (by decide); have o17 := ChnU.keepL o14 hs5 (by decide) (by decide); have o18 := Own.keepL o15 hs5 (by decide) (by decide)
  have q69 : At (Ty.val x1) s12 a12 (.tmp 13) := r5
  clear r5
  refine tL ok12 (Yld.toL (y_as q68)) fun a13 s13 hs6 ok13 r6 sm6 => ?_
  have F13 := F12.stepL hs6 (by decide); have q70 := kpL hs6 (by decide) (sm6 0 (by decide)) q63; have q71 := kpL hs6 (by decide) (sm6 4 (by decide)) q64; have q72 := kpL hs6 (by decide) (sm6 1 (by decide)) q65; have q73 := kpL hs6 (by decide) (sm6 11 (by decide)) q66; have q74 := kpL hs6 (by decide) (sm6 12 (by decide)) q67; have q75 := kpL hs6 (by decide) (sm6 13 (by decide)) q69; have o19 := OwnP.keepL o16 hs6 (by decide) (by decide); have o20 := ChnU.keepL o17 hs6 (by decide) (by decide); have o21 := Own.keepL o18 hs6 (by decide) (by decide)
  have q76 : At (Ty.int (0 : Int)) s13 a13 (.tmp 14) := r6
  clear r6; refine wpList_nil (tn (wp_seq ?_))
  refine gI a13 s13 ok13 (gM q72 (gB 0 (gE ok13 fun a14 s14 ok14 D8 => ?_))); have o22 := OwnP.k0 o19 D8.stp; have o23 := ChnU.k0 o20 D8.stp; have o24 := Own.k0 o21 D8.stp; refine tn (wp_seq (wp_seq ?_))
  refine gI a14 s14 ok14 (gM (D8.kt q71 rfl) (gE ok14 fun a15 s15 ok15 D9 => ?_)); have F15 := (F13.step0 D8.stp).step0 D9.stp; have q86 := D9.kt (D8.kt q72 rfl) rfl; have q87 := D9.kt (D8.kt q73 rfl) rfl; have q89 := D9.kt (D8.kt q75 rfl) rfl; have q90 := D9.kt (D8.kt q76 rfl) rfl; have o25 := OwnP.k0 o22 D9.stp; have o26 := ChnU.k0 o23 D9.stp; have o27 := Own.k0 o24 D9.stp; refine tn ?_
  refine Go.KL.join_then (Q' := fun a16 w1 => ∃ (t2 : GW), t2.w = w1 ∧ FromL [] s0 t2 ∧ Ok 177 [] a16 ∧ At (Ty.nat M2) t2 a16 (.tmp 15) ∧ At (Ty.lst Ty.ints SS) t2 a16 (.tmp 12) ∧ At (Ty.nat N) t2 a16 (.tmp 1) ∧ At (Ty.lst Ty.ints GS) t2 a16 (.tmp 11) ∧ At (Ty.val x1) t2 a16 (.tmp 13) ∧ At (Ty.int (0 : Int)) t2 a16 (.tmp 14) ∧ OwnP t2 41 x1 [(Ty.nat (N)), (Ty.val x3), (Ty.val x2)] ∧ ChnU t2 42 22 108 x2 (N) (g1) (g2) ∧ Own t2 43 22 1 x3 (List.length (GS)) (List.map Ty.ints (GS)) ∧ True) ?_ ?_
  ·
   refine cond_t (D9.dn 0 rfl rfl) (fun c2 => ?_) (fun c2 => ?_)
   ·
    refine wp_seq ?_
    refine gI a15 s15 ok15 (gM q86 (gT (Ty.nat (N % 5)) rfl (fun A B E G H d0 => rP (y_remN (ed d0 rfl rfl rfl) (toN (σ := B) rfl (by omega)) (by omega))) (gT (Ty.nat (1 + (N % 5))) rfl (fun A B E G H d0 => rP ((y_add rfl (ed d0 rfl rfl rfl) (w64 (by omega) (by omega))).mono (fun τ _ h => cvi (σ := τ) (by first | omega | exact (Int.natCast_mul _ _).symm) h))) (gB 0 (gE ok15 fun a17 s16 ok16 D10 => ?_))))); have o28 := OwnP.k0 o25 D10.stp; have o29 := ChnU.k0 o26 D10.stp; have o30 := Own.k0 o27 D10.stp; have q98 := D10.dn 3 rfl rfl; refine tn ?_
    refine gI a17 s16 ok16 (gM (D10.kt (D9.kt (D8.kt q70 rfl) rfl) rfl) (gM q98 (gS rfl (fun A B E G H d0 d1 => rP (y_call #[A.eval (.tmp 56), A.eval ((Operand.const (Value.int IntKind.i64 5))), A.eval (.tmp 57), A.eval ((Operand.const (Value.int IntKind.i64 1)))] Try.func16 rfl rfl my4 (rRowsOf_fn (raw) (5) ((1 + (N % 5))) (1) _ _ _ _ _ (ed d0 rfl rfl rfl) (cvi (σ := B) (by first | omega | exact wr64_bd _ | assumption) rfl) (cvi (σ := B) (by first | omega | exact wr64_bd _ | assumption) (ed d1 rfl rfl rfl)) (cvi (σ := B) (by first | omega | exact wr64_bd _ | assumption) rfl) (by first | omega | exact wr64_bd _ | assumption) (by first | omega | exact wr64_bd _ | assumption) (by first | omega | exact wr64_bd _ | assumption)))) (gB 0 (gE ok16 fun a18 s17 ok17 D11 => ?_))))); have o31 := OwnP.k0 o28 D11.stp; have o32 := ChnU.k0 o29 D11.stp; have o33 := Own.k0 o30 D11.stp
    exact tn ⟨s17, rfl, ((F15.step0 D10.stp).step0 D11.stp), ok17, (cvi (by (rw [hM2, if_pos c2])) (D11.kt q98 rfl)), (cvt (by (rw [hSS, if_pos c2, hM2, if_pos c2])) (D11.dn 3 rfl rfl)), (D11.kt (D10.kt q86 rfl) rfl), (D11.kt (D10.kt q87 rfl) rfl), (D11.kt (D10.kt q89 rfl) rfl), (D11.kt (D10.kt q90 rfl) rfl), o31, o32, o33, trivial⟩
   ·
    refine wp_skip ?_
    exact tn ⟨s15, rfl, F15, ok15, (cvi (by (rw [hM2, if_neg (by rw [c2]; decide)])) (D9.kt (D8.dn 1 rfl rfl) rfl)), (cvt (by (rw [hSS, if_neg (by rw [c2]; decide), hM2, if_neg (by rw [c2]; decide)])) (D9.kt (D8.kt q74 rfl) rfl)), q86, q87, q89, q90, o25, o26, o27, trivial⟩
  ·
   rintro a19 w2 ⟨t3, rfl, F18, ok18, q105, q106, q107, q108, q109, q110, o34, o35, o36, -⟩
   refine wp_seq ?_
   refine gI a19 t3 ok18 (gM q105 (gM q106 (gE2 ok18 fun a20 s18 ok19 D12 => ?_))); have o37 := OwnP.k0 o34 D12.stp; have o38 := ChnU.k0 o35 D12.stp; have o39 := Own.k0 o36 D12.stp
   refine tL ok19 (y_callL (L := []) [] [(41, 44), (42, 45), (43, 46)] _ rfl (by decide) Try.func17 rfl rfl my2 (gMake_fn (M2) (SS) _ (GW.low_lend _ (by decide)) _ _ (Ty.up _ (GW.le_lend _ _) (cvi (σ := s18) (by first | omega | assumption) (D12.dn 0 (by decide) rfl rfl))) (Ty.up _ (GW.le_lend _ _) (D12.dn 1 (by decide) rfl rfl))  (by first | omega | assumption) (by first | omega | assumption) (by first | omega | assumption))) fun a21 s19 hs7 ok20 r7 sm7 => ?_
   have F20 := (F18.step0 D12.stp).stepL hs7 (by decide); have q119 := kpL hs7 (by decide) (sm7 15 (by decide)) (D12.kt q105 rfl); have q120 := kpL hs7 (by decide) (sm7 12 (by decide)) (D12.kt q106 rfl); have q121 := kpL hs7 (by decide) (sm7 1 (by decide)) (D12.kt q107 rfl); have q122 := kpL hs7 (by decide) (sm7 11 (by decide)) (D12.kt q108 rfl); have q123 := kpL hs7 (by decide) (sm7 13 (by decide)) (D12.kt q109 rfl); have q124 := kpL hs7 (by decide) (sm7 14 (by decide)) (D12.kt q110 rfl); have o46 := OwnP.keepL o37 hs7 (by decide) (by decide); have o47 := ChnU.keepL o38 hs7 (by decide) (by decide); have o48 := Own.keepL o39 hs7 (by decide) (by decide)
   obtain ⟨t4, ⟨g3, g4, x4, x5, x6, hT2, o40, o41, o42, hp2⟩, B2⟩ := r7
   have q125 : At (Ty.tup2 (Ty.val x4) (Ty.int (0 : Int))) s19 a21 (.tmp 62) := Ty.up _ B2.le hT2
   have o43 : OwnP s19 44 x4 [(Ty.nat (M2)), (Ty.val x6), (Ty.val x5)] := OwnP.ren o40 (B2.ren (by decide) rfl)
   have o44 : ChnU s19 45 22 108 x5 (M2) (g3) (g4) := ChnU.ren o41 (B2.ren (by decide) rfl)
   have o45 : Own s19 46 22 1 x6 (List.length (SS)) (List.map Ty.ints (SS)) := Own.ren o42 (B2.ren (by decide) rfl)
   refine tL ok20 (Yld.toL (y_mv q125)) fun a22 s20 hs8 ok21 r8 sm8 => ?_
   have F21 := F20.stepL hs8 (by decide); have q126 := kpL hs8 (by decide) (sm8 15 (by decide)) q119; have q127 := kpL hs8 (by decide) (sm8 12 (by decide)) q120; have q128 := kpL hs8 (by decide) (sm8 1 (by decide)) q121; have q129 := kpL hs8 (by decide) (sm8 11 (by decide)) q122; have q130 := kpL hs8 (by decide) (sm8 13 (by decide)) q123; have q131 := kpL hs8 (by decide) (sm8 14 (by decide)) q124; have o49 := OwnP.keepL o46 hs8 (by decide) (by decide); have o50 := ChnU.keepL o47 hs8 (by decide) (by decide); have o51 := Own.keepL o48 hs8 (by decide) (by decide); have o52 := OwnP.keepL o43 hs8 (by decide) (by decide); have o53 := ChnU.keepL o44 hs8 (by decide) (by decide); have o54 := Own.keepL o45 hs8 (by decide) (by decide)
   have q132 : At (Ty.tup2 (Ty.val x4) (Ty.int (0 : Int))) s20 a22 (.tmp 59) := r8
   clear r8
   refine tL (R := (fun v τ => Pr.has (Ty.pr (Ty.val x4)) τ v)) ok21 (Yld.toL (y_ext2_0 q132)) fun a23 s21 hs9 ok22 r9 sm9 => ?_
   have F22 := F21.stepL hs9 (by decide); have q133 := kpL hs9 (by decide) (sm9 15 (by decide)) q126; have q134 := kpL hs9 (by decide) (sm9 12 (by decide)) q127; have q135 := kpL hs9 (by decide) (sm9 1 (by decide)) q128; have q136 := kpL hs9 (by decide) (sm9 11 (by decide)) q129; have q137 := kpL hs9 (by decide) (sm9 13 (by decide)) q130; have q138 := kpL hs9 (by decide) (sm9 14 (by decide)) q131; have q139 := kpL hs9 (by decide) (sm9 59 (by decide)) q132; have o55 := OwnP.keepL o49 hs9 (by decide) (by decide); have o56 := ChnU.keepL o50 hs9 (by decide) (by decide); have o57 := Own.keepL o51 hs9 (by decide) (by decide); have o58 := OwnP.keepL o52 hs9 (by decide) (by decide); have o59 := ChnU.keepL o53 hs9 (by decide) (by decide); have o60 := Own.keepL o54 hs9 (by decide) (by decide)
   have q140 : At (Ty.val x4) s21 a23 (.tmp 63) := r9
   clear r9
   refine tL (R := (fun v τ => Pr.has (Ty.pr (Ty.int (0 : Int))) τ v)) ok22 (Yld.toL (y_ext2_1 q139)) fun a24 s22 hs10 ok23 r10 sm10 => ?_
   have F23 := F22.stepL hs10 (by decide); have q141 := kpL hs10 (by decide) (sm10 15 (by decide)) q133; have q142 := kpL hs10 (by decide) (sm10 12 (by decide)) q134; have q143 := kpL hs10 (by decide) (sm10 1 (by decide)) q135; have q144 := kpL hs10 (by decide) (sm10 11 (by decide)) q136; have q145 := kpL hs10 (by decide) (sm10 13 (by decide)) q137; have q146 := kpL hs10 (by decide) (sm10 14 (by decide)) q138; have q147 := kpL hs10 (by decide) (sm10 63 (by decide)) q140; have o61 := OwnP.keepL o55 hs10 (by decide) (by decide); have o62 := ChnU.keepL o56 hs10 (by decide) (by decide); have o63 := Own.keepL o57 hs10 (by decide) (by decide); have o64 := OwnP.keepL o58 hs10 (by decide) (by decide); have o65 := ChnU.keepL o59 hs10 (by decide) (by decide); have o66 := Own.keepL o60 hs10 (by decide) (by decide)
   have q148 : At (Ty.int (0 : Int)) s22 a24 (.tmp 64) := r10
   clear r10
   refine tL ok23 (Yld.toL (y_as q147)) fun a25 s23 hs11 ok24 r11 sm11 => ?_
   have F24 := F23.stepL hs11 (by decide); have q149 := kpL hs11 (by decide) (sm11 15 (by decide)) q141; have q150 := kpL hs11 (by decide) (sm11 12 (by decide)) q142; have q151 := kpL hs11 (by decide) (sm11 1 (by decide)) q143; have q152 := kpL hs11 (by decide) (sm11 11 (by decide)) q144; have q153 := kpL hs11 (by decide) (sm11 13 (by decide)) q145; have q154 := kpL hs11 (by decide) (sm11 14 (by decide)) q146; have q155 := kpL hs11 (by decide) (sm11 64 (by decide)) q148; have o67 := OwnP.keepL o61 hs11 (by decide) (by decide); have o68 := ChnU.keepL o62 hs11 (by decide) (by decide); have o69 := Own.keepL o63 hs11 (by decide) (by decide); have o70 := OwnP.keepL o64 hs11 (by decide) (by decide); have o71 := ChnU.keepL o65 hs11 (by decide) (by decide); have o72 := Own.keepL o66 hs11 (by decide) (by decide)
   have q156 : At (Ty.val x4) s23 a25 (.tmp 16) := r11
   clear r11
   refine tL ok24 (Yld.toL (y_as q155)) fun a26 s24 hs12 ok25 r12 sm12 => ?_
   have F25 := F24.stepL hs12 (by decide); have q157 := kpL hs12 (by decide) (sm12 15 (by decide)) q149; have q158 := kpL hs12 (by decide) (sm12 12 (by decide)) q150; have q159 := kpL hs12 (by decide) (sm12 1 (by decide)) q151; have q160 := kpL hs12 (by decide) (sm12 11 (by decide)) q152; have q161 := kpL hs12 (by decide) (sm12 13 (by decide)) q153; have q162 := kpL hs12 (by decide) (sm12 14 (by decide)) q154; have q163 := kpL hs12 (by decide) (sm12 16 (by decide)) q156; have o73 := OwnP.keepL o67 hs12 (by decide) (by decide); have o74 := ChnU.keepL o68 hs12 (by decide) (by decide); have o75 := Own.keepL o69 hs12 (by decide) (by decide); have o76 := OwnP.keepL o70 hs12 (by decide) (by decide); have o77 := ChnU.keepL o71 hs12 (by decide) (by decide); have o78 := Own.keepL o72 hs12 (by decide) (by decide)
   have q164 : At (Ty.int (0 : Int)) s24 a26 (.tmp 17) := r12
   clear r12; refine wpList_nil (tn (wp_seq (wp_seq ?_)))
   refine gI a26 s24 ok25 (gM q162 (gT (Ty.bool false) rfl (fun A B E G H d0 => rP ((y_neq (ed d0 rfl rfl rfl) rfl).mono (fun τ _ h => cvb (σ := τ) (by decide) h))) (gS rfl (fun A B E G H d0 => rP (y_move (ed d0 rfl rfl rfl))) (gS rfl (fun A B E G H d0 => gu G (ed d0 rfl rfl rfl) fun hg => y_move (kp (H 17 rfl) E q164)) (gT (Ty.grd (false = false) (Ty.bool false)) rfl (fun A B E G H d0 d1 => gu G (ed d1 rfl rfl rfl) fun hg => (y_neq ((ed d0 rfl rfl rfl).1 hg) rfl).mono (fun τ _ h => cvb (σ := τ) (by decide) h)) (gS rfl (fun A B E G H d0 d1 => rP (y_pick_or (ed d0 rfl rfl rfl) rfl (ed d1 rfl rfl rfl))) (gS rfl (fun A B E G H d0 d1 => rP (y_move (ed d0 rfl rfl rfl))) (gT (Ty.grd ((false || false) = false) (Ty.val x1)) rfl (by intro A B E G H d0; refine run_guard G rfl rfl (by decide) (ed d0 rfl rfl rfl) (fun hg => ?_); obtain ⟨d1, d2⟩ := Bool.or_eq_false_iff.mp hg; exact y_move (kp (H 13 rfl) E q161)) (gT (Ty.grd ((false || false) = false) (Ty.bool false)) rfl (by intro A B E G H d0 d1; refine run_guard G rfl rfl (by decide) (ed d1 rfl rfl rfl) (fun hg => ?_); obtain ⟨d3, d4⟩ := Bool.or_eq_false_iff.mp hg; exact y_pnil Try.underlying26 (OwnP.k0 o73 E) ((ed d0 rfl rfl rfl).1 hg) rfl) (gS rfl (fun A B E G H d0 d1 => rP (y_pick_or (ed d0 rfl rfl rfl) rfl (ed d1 rfl rfl rfl))) (gS rfl (fun A B E G H d0 d1 => rP (y_move (ed d0 rfl rfl rfl))) (gT (Ty.grd (((false || false) || false) = false) (Ty.val x4)) rfl (by intro A B E G H d0; refine run_guard G rfl rfl (by decide) (ed d0 rfl rfl rfl) (fun hg => ?_); obtain ⟨d5, d6⟩ := Bool.or_eq_false_iff.mp hg; obtain ⟨d7, d8⟩ := Bool.or_eq_false_iff.mp d5; exact y_move (kp (H 16 rfl) E q163)) ?_))))))))))))
   refine gT (Ty.grd (((false || false) || false) = false) (Ty.bool false)) rfl (by intro A B E G H d0 d1; refine run_guard G rfl rfl (by decide) (ed d1 rfl rfl rfl) (fun hg => ?_); obtain ⟨d9, d10⟩ := Bool.or_eq_false_iff.mp hg; obtain ⟨d11, d12⟩ := Bool.or_eq_false_iff.mp d9; exact y_pnil Try.underlying26 (OwnP.k0 o76 E) ((ed d0 rfl rfl rfl).1 hg) rfl) (gS rfl (fun A B E G H d0 d1 => rP (y_pick_or (ed d0 rfl rfl rfl) rfl (ed d1 rfl rfl rfl))) (gE ok25 fun a27 s25 ok26 D13 => ?_)); have o79 := OwnP.k0 o73 D13.stp; have o80 := ChnU.k0 o74 D13.stp; have o81 := Own.k0 o75 D13.stp; have o82 := OwnP.k0 o76 D13.stp; have o83 := ChnU.k0 o77 D13.stp; have o84 := Own.k0 o78 D13.stp; refine tn ?_
   refine cond_t (D13.dn 13 rfl rfl) (fun c3 => ?_) (fun c3 => ?_)
   ·
    exfalso
    simp at c3
   ·
    obtain ⟨d13, d14⟩ := Bool.or_eq_false_iff.mp c3
    obtain ⟨d15, d16⟩ := Bool.or_eq_false_iff.mp d13
    obtain ⟨d17, d18⟩ := Bool.or_eq_false_iff.mp d15
    have hw1 := hp1.wc; have hw2 := hp2.wc
    refine wp_skip (tn (wp_seq ?_))
    refine gI a27 s25 ok26 (gM (D13.kt q161 rfl) (gM (D13.kt q163 rfl) (gE2 ok26 fun a28 s26 ok27 D14 => ?_))); have o85 := OwnP.k0 o79 D14.stp; have o86 := ChnU.k0 o80 D14.stp; have o87 := Own.k0 o81 D14.stp; have o88 := OwnP.k0 o82 D14.stp; have o89 := ChnU.k0 o83 D14.stp; have o90 := Own.k0 o84 D14.stp
    have q176 : At (Ty.val x1) s26 a28 (.tmp 80) := D14.done 0 (by decide)
    have q177 : At (Ty.val x4) s26 a28 (.tmp 81) := D14.done 1 (by decide)
    refine tL ok27 (y_callL (L := [41, 42, 43, 44, 45, 46]) [(41, 41), (42, 42), (43, 43), (44, 44), (45, 45), (46, 46)] [(41, 41), (42, 42), (43, 43), (44, 44), (45, 45), (46, 46)] #[a28.eval (.tmp 80), a28.eval (.tmp 81)] rfl (by decide) Try.func18 rfl rfl my2 (gNormal_fn (x1) (x3) (x2) ((g2)) ((N)) ((g1)) ((GS)) (x4) (x6) (x5) ((g4)) ((M2)) ((g3)) ((SS)) _ (GW.low_lend _ (by decide)) _ _ (Ty.up _ (GW.le_lend _ _) q176) (Ty.up _ (GW.le_lend _ _) q177) (OwnP.ren (ownp_cell 0 (Ty.nat ((N))) o85 rfl (fun _ _ h => (cvi (by (first | rfl | omega | (simp_all; done) | (simp_all; omega))) h))) (GW.ren_lend _ _ (by decide) rfl)) (ChnU.ren (cvch (by (rfl)) o86) (GW.ren_lend _ _ (by decide) rfl)) (Own.ren (cvo (by (simp)) (by (simp)) o87) (GW.ren_lend _ _ (by decide) rfl)) (OwnP.ren (ownp_cell 0 (Ty.nat ((M2))) o88 rfl (fun _ _ h => (cvi (by (first | rfl | omega | (simp_all; done) | (simp_all; omega))) h))) (GW.ren_lend _ _ (by decide) rfl)) (ChnU.ren (cvch (by (rfl)) o89) (GW.ren_lend _ _ (by decide) rfl)) (Own.ren (cvo (by (simp)) (by (simp)) o90) (GW.ren_lend _ _ (by decide) rfl)) (by first | omega | assumption) (by first | omega | assumption) (by first | omega | assumption) (by first | omega | assumption) (by first | omega | assumption) (by first | omega | assumption))) fun a29 s27 hs13 ok28 r13 sm13 => ?_
    have F28 := ((F25.step0 D13.stp).step0 D14.stp).stepL hs13 (by decide); have q178 := kpL hs13 (by decide) (sm13 15 (by decide)) (D14.kt (D13.kt q157 rfl) rfl); have q179 := kpL hs13 (by decide) (sm13 12 (by decide)) (D14.kt (D13.kt q158 rfl) rfl); have q180 := kpL hs13 (by decide) (sm13 1 (by decide)) (D14.kt (D13.kt q159 rfl) rfl); have q181 := kpL hs13 (by decide) (sm13 11 (by decide)) (D14.kt (D13.kt q160 rfl) rfl)
    obtain ⟨t5, ⟨hT3, o91, o92, o93, o94, o95, o96⟩, B3⟩ := r13
    have q182 : At (Ty.tup2 (Ty.bool (normB ((N)) ((M2)) ((g1)) ((g3)) ((GS)) ((SS)))) (Ty.int (normE ((N)) ((M2)) ((g1)) ((SS))))) s27 a29 (.tmp 82) := Ty.up _ B3.le hT3
    have o97 : OwnP s27 41 x1 [(Ty.nat ((N))), (Ty.val x3), (Ty.val x2)] := OwnP.ren o91 (B3.ren (by decide) rfl)
    have o98 : ChnU s27 42 22 108 x2 ((N)) ((g1)) ((g2)) := ChnU.ren o92 (B3.ren (by decide) rfl)
    have o99 : Own s27 43 22 1 x3 (List.length ((GS))) (List.map Ty.ints ((GS))) := Own.ren o93 (B3.ren (by decide) rfl)
    have o100 : OwnP s27 44 x4 [(Ty.nat ((M2))), (Ty.val x6), (Ty.val x5)] := OwnP.ren o94 (B3.ren (by decide) rfl)
    have o101 : ChnU s27 45 22 108 x5 ((M2)) ((g3)) ((g4)) := ChnU.ren o95 (B3.ren (by decide) rfl)
    have o102 : Own s27 46 22 1 x6 (List.length ((SS))) (List.map Ty.ints ((SS))) := Own.ren o96 (B3.ren (by decide) rfl)
    refine tL ok28 (Yld.toL (y_mv q182)) fun a30 s28 hs14 ok29 r14 sm14 => ?_
    have F29 := F28.stepL hs14 (by decide); have q183 := kpL hs14 (by decide) (sm14 15 (by decide)) q178; have q184 := kpL hs14 (by decide) (sm14 12 (by decide)) q179; have q185 := kpL hs14 (by decide) (sm14 1 (by decide)) q180; have q186 := kpL hs14 (by decide) (sm14 11 (by decide)) q181; have o103 := OwnP.keepL o97 hs14 (by decide) (by decide); have o104 := ChnU.keepL o98 hs14 (by decide) (by decide); have o105 := Own.keepL o99 hs14 (by decide) (by decide); have o106 := OwnP.keepL o100 hs14 (by decide) (by decide); have o107 := ChnU.keepL o101 hs14 (by decide) (by decide); have o108 := Own.keepL o102 hs14 (by decide) (by decide)
    have q187 : At (Ty.tup2 (Ty.bool (normB ((N)) ((M2)) ((g1)) ((g3)) ((GS)) ((SS)))) (Ty.int (normE ((N)) ((M2)) ((g1)) ((SS))))) s28 a30 (.tmp 79) := r14
    clear r14
    refine tL (R := (fun v τ => Pr.has (Ty.pr (Ty.bool (normB ((N)) ((M2)) ((g1)) ((g3)) ((GS)) ((SS))))) τ v)) ok29 (Yld.toL (y_ext2_0 q187)) fun a31 s29 hs15 ok30 r15 sm15 => ?_
    have F30 := F29.stepL hs15 (by decide); have q188 := kpL hs15 (by decide) (sm15 15 (by decide)) q183; have q189 := kpL hs15 (by decide) (sm15 12 (by decide)) q184; have q190 := kpL hs15 (by decide) (sm15 1 (by decide)) q185; have q191 := kpL hs15 (by decide) (sm15 11 (by decide)) q186; have q192 := kpL hs15 (by decide) (sm15 79 (by decide)) q187; have o109 := OwnP.keepL o103 hs15 (by decide) (by decide); have o110 := ChnU.keepL o104 hs15 (by decide) (by decide); have o111 := Own.keepL o105 hs15 (by decide) (by decide); have o112 := OwnP.keepL o106 hs15 (by decide) (by decide); have o113 := ChnU.keepL o107 hs15 (by decide) (by decide); have o114 := Own.keepL o108 hs15 (by decide) (by decide)
    have q193 : At (Ty.bool (normB ((N)) ((M2)) ((g1)) ((g3)) ((GS)) ((SS)))) s29 a31 (.tmp 83) := r15
    clear r15
    refine tL (R := (fun v τ => Pr.has (Ty.pr (Ty.int (normE ((N)) ((M2)) ((g1)) ((SS))))) τ v)) ok30 (Yld.toL (y_ext2_1 q192)) fun a32 s30 hs16 ok31 r16 sm16 => ?_
    have F31 := F30.stepL hs16 (by decide); have q194 := kpL hs16 (by decide) (sm16 15 (by decide)) q188; have q195 := kpL hs16 (by decide) (sm16 12 (by decide)) q189; have q196 := kpL hs16 (by decide) (sm16 1 (by decide)) q190; have q197 := kpL hs16 (by decide) (sm16 11 (by decide)) q191; have q198 := kpL hs16 (by decide) (sm16 83 (by decide)) q193; have o115 := OwnP.keepL o109 hs16 (by decide) (by decide); have o116 := ChnU.keepL o110 hs16 (by decide) (by decide); have o117 := Own.keepL o111 hs16 (by decide) (by decide); have o118 := OwnP.keepL o112 hs16 (by decide) (by decide); have o119 := ChnU.keepL o113 hs16 (by decide) (by decide); have o120 := Own.keepL o114 hs16 (by decide) (by decide)
    have q199 : At (Ty.int (normE ((N)) ((M2)) ((g1)) ((SS)))) s30 a32 (.tmp 84) := r16
    clear r16
    refine tL ok31 (Yld.toL (y_as q198)) fun a33 s31 hs17 ok32 r17 sm17 => ?_
    have F32 := F31.stepL hs17 (by decide); have q200 := kpL hs17 (by decide) (sm17 15 (by decide)) q194; have q201 := kpL hs17 (by decide) (sm17 12 (by decide)) q195; have q202 := kpL hs17 (by decide) (sm17 1 (by decide)) q196; have q203 := kpL hs17 (by decide) (sm17 11 (by decide)) q197; have q204 := kpL hs17 (by decide) (sm17 84 (by decide)) q199; have o121 := OwnP.keepL o115 hs17 (by decide) (by decide); have o122 := ChnU.keepL o116 hs17 (by decide) (by decide); have o123 := Own.keepL o117 hs17 (by decide) (by decide); have o124 := OwnP.keepL o118 hs17 (by decide) (by decide); have o125 := ChnU.keepL o119 hs17 (by decide) (by decide); have o126 := Own.keepL o120 hs17 (by decide) (by decide)
    have q205 : At (Ty.bool (normB ((N)) ((M2)) ((g1)) ((g3)) ((GS)) ((SS)))) s31 a33 (.tmp 18) := r17
    clear r17
    refine tL ok32 (Yld.toL (y_as q204)) fun a34 s32 hs18 ok33 r18 sm18 => ?_
    have F33 := F32.stepL hs18 (by decide); have q206 := kpL hs18 (by decide) (sm18 15 (by decide)) q200; have q207 := kpL hs18 (by decide) (sm18 12 (by decide)) q201; have q208 := kpL hs18 (by decide) (sm18 1 (by decide)) q202; have q209 := kpL hs18 (by decide) (sm18 11 (by decide)) q203; have q210 := kpL hs18 (by decide) (sm18 18 (by decide)) q205; have o127 := OwnP.keepL o121 hs18 (by decide) (by decide); have o128 := ChnU.keepL o122 hs18 (by decide) (by decide); have o129 := Own.keepL o123 hs18 (by decide) (by decide); have o130 := OwnP.keepL o124 hs18 (by decide) (by decide); have o131 := ChnU.keepL o125 hs18 (by decide) (by decide); have o132 := Own.keepL o126 hs18 (by decide) (by decide)
    have q211 : At (Ty.int (normE ((N)) ((M2)) ((g1)) ((SS)))) s32 a34 (.tmp 14) := r18
    clear r18; refine wpList_nil (tn (wp_seq (wp_seq ?_)))
    refine gI a34 s32 ok33 (gM q206 (gM q208 (gS rfl (fun A B E G H d0 d1 => rP (y_neq (ed d0 rfl rfl rfl) (ed d1 rfl rfl rfl))) (gE ok33 fun a35 s33 ok34 D15 => ?_)))); have F34 := F33.step0 D15.stp; have q213 := D15.kt q208 rfl; have q214 := D15.kt q209 rfl; have q215 := D15.kt q210 rfl; have q216 := D15.kt q211 rfl; refine tn ?_
    refine cond_p (p := (((M2 : Nat) : Int) ≠ ((N : Nat) : Int))) (D15.dn 2 rfl rfl) (fun c4 => ?_) (fun c4 => ?_)
    ·
     have hNe : N ≠ M2 := (by omega); have hE := normE_1 (c := g1) (hg := SS) hNe; have hB_ := normB_e (d := g3) (gens := GS) (show normE N M2 g1 SS ≠ 0 by rw [hE]; decide)
     refine wp_seq ?_
     refine gI a35 s33 ok34 (gM q216 (gS rfl (fun A B E G H d0 => rP (y_eql (ed d0 rfl rfl rfl) rfl)) (gS rfl (fun A B E G H d0 => rP (y_move (ed d0 rfl rfl rfl))) (gS rfl (fun A B E G H d0 => gu G (ed d0 rfl rfl rfl) fun hg => y_move (kp (H 18 rfl) E q215)) (gS rfl (fun A B E G H d0 d1 => gu G (ed d1 rfl rfl rfl) fun hg => y_not ((ed d0 rfl rfl rfl).1 hg)) (gS rfl (fun A B E G H d0 d1 => rP (y_pick_and (ed d0 rfl rfl rfl) (ed d1 rfl rfl rfl) rfl)) (gB 0 (gE ok34 fun a36 s34 ok35 D16 => ?_)))))))); refine tn (wp_ret (tr ?_))
     exact retL1 rfl ok35 (F34.step0 D16.stp) (cvb (by (rw [hE, hB_]; rfl)) (D16.dn 6 rfl rfl))
    ·
     have hNM : M2 = N := (by omega); have hSrN : ∀ x ∈ SS, RowN N x := (hNM ▸ hSr); have hGSr : ∀ x ∈ GS ++ SS, RowN N x := (fun x hx => (List.mem_append.1 hx).elim (hGr x) (hSrN x)); have hGSl : (GS ++ SS).length ≤ 1000 := (by (rw [List.length_append]; omega)); have hp2N : ChnOf N SS g3 := (hNM ▸ hp2)
     refine wp_skip (tn (wp_seq ?_))
     refine gI a35 s33 ok34 (gM q213 (gM q214 (gE2 ok34 fun a37 s35 ok36 D17 => ?_)))
     refine tL ok36 (y_callL (L := []) [] [] #[a37.eval (.tmp 95), a37.eval (.tmp 96), a37.eval ((Operand.const (Value.int IntKind.i64 5040)))] rfl (by decide) Try.func19 rfl rfl my3 (rClosed_fn (N) (GS) (5040) _ (GW.low_lend _ (by decide)) _ _ _ (Ty.up _ (GW.le_lend _ _) (cvi (σ := s35) (by first | omega | assumption) (D17.dn 0 (by decide) rfl rfl))) (Ty.up _ (GW.le_lend _ _) (D17.dn 1 (by decide) rfl rfl)) (Ty.up _ (GW.le_lend _ _) (cvi (σ := s35) (by first | omega | assumption) rfl))  (by first | omega | assumption) (by first | omega | assumption) (by first | omega | assumption) (by first | omega | assumption))) fun a38 s36 hs19 ok37 r19 sm19 => ?_
     have F37 := (F34.step0 D17.stp).stepL hs19 (by decide); have q226 := kpL hs19 (by decide) (sm19 12 (by decide)) (D17.kt (D15.kt q207 rfl) rfl); have q227 := kpL hs19 (by decide) (sm19 1 (by decide)) (D17.kt q213 rfl); have q228 := kpL hs19 (by decide) (sm19 11 (by decide)) (D17.kt q214 rfl); have q229 := kpL hs19 (by decide) (sm19 18 (by decide)) (D17.kt q215 rfl); have q230 := kpL hs19 (by decide) (sm19 14 (by decide)) (D17.kt q216 rfl)
     obtain ⟨t6, ⟨g5, g6, hT4, hp3⟩, B4⟩ := r19
     have q231 : At (Ty.tup2 (Ty.lst Ty.ints (g5)) (Ty.lst Ty.ints (g6))) s36 a38 (.tmp 97) := Ty.up _ B4.le hT4
     refine tL ok37 (Yld.toL (y_mv q231)) fun a39 s37 hs20 ok38 r20 sm20 => ?_
     have F38 := F37.stepL hs20 (by decide); have q232 := kpL hs20 (by decide) (sm20 12 (by decide)) q226; have q233 := kpL hs20 (by decide) (sm20 1 (by decide)) q227; have q234 := kpL hs20 (by decide) (sm20 11 (by decide)) q228; have q235 := kpL hs20 (by decide) (sm20 18 (by decide)) q229; have q236 := kpL hs20 (by decide) (sm20 14 (by decide)) q230
     have q237 : At (Ty.tup2 (Ty.lst Ty.ints (g5)) (Ty.lst Ty.ints (g6))) s37 a39 (.tmp 94) := r20
     clear r20
     refine tL (R := (fun v τ => Pr.has (Ty.pr (Ty.lst Ty.ints (g5))) τ v)) ok38 (Yld.toL (y_ext2_0 q237)) fun a40 s38 hs21 ok39 r21 sm21 => ?_
     have F39 := F38.stepL hs21 (by decide); have q238 := kpL hs21 (by decide) (sm21 12 (by decide)) q232; have q239 := kpL hs21 (by decide) (sm21 1 (by decide)) q233; have q240 := kpL hs21 (by decide) (sm21 11 (by decide)) q234; have q241 := kpL hs21 (by decide) (sm21 18 (by decide)) q235; have q242 := kpL hs21 (by decide) (sm21 14 (by decide)) q236; have q243 := kpL hs21 (by decide) (sm21 94 (by decide)) q237
     have q244 : At (Ty.lst Ty.ints (g5)) s38 a40 (.tmp 98) := r21
     clear r21
     refine tL (R := (fun v τ => Pr.has (Ty.pr (Ty.lst Ty.ints (g6))) τ v)) ok39 (Yld.toL (y_ext2_1 q243)) fun a41 s39 hs22 ok40 r22 sm22 => ?_
     have F40 := F39.stepL hs22 (by decide); have q245 := kpL hs22 (by decide) (sm22 12 (by decide)) q238; have q246 := kpL hs22 (by decide) (sm22 1 (by decide)) q239; have q247 := kpL hs22 (by decide) (sm22 11 (by decide)) q240; have q248 := kpL hs22 (by decide) (sm22 18 (by decide)) q241; have q249 := kpL hs22 (by decide) (sm22 14 (by decide)) q242; have q250 := kpL hs22 (by decide) (sm22 98 (by decide)) q244
     have q251 : At (Ty.lst Ty.ints (g6)) s39 a41 (.tmp 99) := r22
     clear r22
     refine tL ok40 (Yld.toL (y_as q250)) fun a42 s40 hs23 ok41 r23 sm23 => ?_
     have F41 := F40.stepL hs23 (by decide); have q252 := kpL hs23 (by decide) (sm23 12 (by decide)) q245; have q253 := kpL hs23 (by decide) (sm23 1 (by decide)) q246; have q254 := kpL hs23 (by decide) (sm23 11 (by decide)) q247; have q255 := kpL hs23 (by decide) (sm23 18 (by decide)) q248; have q256 := kpL hs23 (by decide) (sm23 14 (by decide)) q249; have q257 := kpL hs23 (by decide) (sm23 99 (by decide)) q251
     have q258 : At (Ty.lst Ty.ints (g5)) s40 a42 (.tmp 19) := r23
     clear r23
     refine tL ok41 (Yld.toL (y_as q257)) fun a43 s41 hs24 ok42 r24 sm24 => ?_
     have F42 := F41.stepL hs24 (by decide); have q259 := kpL hs24 (by decide) (sm24 12 (by decide)) q252; have q260 := kpL hs24 (by decide) (sm24 1 (by decide)) q253; have q261 := kpL hs24 (by decide) (sm24 11 (by decide)) q254; have q262 := kpL hs24 (by decide) (sm24 18 (by decide)) q255; have q263 := kpL hs24 (by decide) (sm24 14 (by decide)) q256; have q264 := kpL hs24 (by decide) (sm24 19 (by decide)) q258
     have q265 : At (Ty.lst Ty.ints (g6)) s41 a43 (.tmp 20) := r24
     clear r24; refine wpList_nil (tn (wp_seq ?_))
     refine gI a43 s41 ok42 (gM q260 (gM q259 (gE2 ok42 fun a44 s42 ok43 D18 => ?_)))
     refine tL ok43 (y_callL (L := []) [] [] #[a44.eval (.tmp 101), a44.eval (.tmp 102), a44.eval ((Operand.const (Value.int IntKind.i64 5040)))] rfl (by decide) Try.func19 rfl rfl my3 (rClosed_fn (N) (SS) (5040) _ (GW.low_lend _ (by decide)) _ _ _ (Ty.up _ (GW.le_lend _ _) (cvi (σ := s42) (by first | omega | assumption) (D18.dn 0 (by decide) rfl rfl))) (Ty.up _ (GW.le_lend _ _) (D18.dn 1 (by decide) rfl rfl)) (Ty.up _ (GW.le_lend _ _) (cvi (σ := s42) (by first | omega | assumption) rfl))  (by first | omega | assumption) (by first | omega | assumption) (by first | omega | assumption) (by first | omega | assumption))) fun a45 s43 hs25 ok44 r25 sm25 => ?_
     have F44 := (F42.step0 D18.stp).stepL hs25 (by decide); have q274 := kpL hs25 (by decide) (sm25 12 (by decide)) (D18.kt q259 rfl); have q275 := kpL hs25 (by decide) (sm25 1 (by decide)) (D18.kt q260 rfl); have q276 := kpL hs25 (by decide) (sm25 11 (by decide)) (D18.kt q261 rfl); have q277 := kpL hs25 (by decide) (sm25 18 (by decide)) (D18.kt q262 rfl); have q278 := kpL hs25 (by decide) (sm25 14 (by decide)) (D18.kt q263 rfl); have q279 := kpL hs25 (by decide) (sm25 19 (by decide)) (D18.kt q264 rfl)
     obtain ⟨t7, ⟨g7, g8, hT5, hp4⟩, B5⟩ := r25
     have q280 : At (Ty.tup2 (Ty.lst Ty.ints (g7)) (Ty.lst Ty.ints (g8))) s43 a45 (.tmp 103) := Ty.up _ B5.le hT5
     refine tL ok44 (Yld.toL (y_mv q280)) fun a46 s44 hs26 ok45 r26 sm26 => ?_
     have F45 := F44.stepL hs26 (by decide); have q281 := kpL hs26 (by decide) (sm26 12 (by decide)) q274; have q282 := kpL hs26 (by decide) (sm26 1 (by decide)) q275; have q283 := kpL hs26 (by decide) (sm26 11 (by decide)) q276; have q284 := kpL hs26 (by decide) (sm26 18 (by decide)) q277; have q285 := kpL hs26 (by decide) (sm26 14 (by decide)) q278; have q286 := kpL hs26 (by decide) (sm26 19 (by decide)) q279
     have q287 : At (Ty.tup2 (Ty.lst Ty.ints (g7)) (Ty.lst Ty.ints (g8))) s44 a46 (.tmp 100) := r26
     clear r26
     refine tL (R := (fun v τ => Pr.has (Ty.pr (Ty.lst Ty.ints (g7))) τ v)) ok45 (Yld.toL (y_ext2_0 q287)) fun a47 s45 hs27 ok46 r27 sm27 => ?_
     have F46 := F45.stepL hs27 (by decide); have q288 := kpL hs27 (by decide) (sm27 12 (by decide)) q281; have q289 := kpL hs27 (by decide) (sm27 1 (by decide)) q282; have q290 := kpL hs27 (by decide) (sm27 11 (by decide)) q283; have q291 := kpL hs27 (by decide) (sm27 18 (by decide)) q284; have q292 := kpL hs27 (by decide) (sm27 14 (by decide)) q285; have q293 := kpL hs27 (by decide) (sm27 19 (by decide)) q286; have q294 := kpL hs27 (by decide) (sm27 100 (by decide)) q287
     have q295 : At (Ty.lst Ty.ints (g7)) s45 a47 (.tmp 104) := r27
     clear r27
     refine tL (R := (fun v τ => Pr.has (Ty.pr (Ty.lst Ty.ints (g8))) τ v)) ok46 (Yld.toL (y_ext2_1 q294)) fun a48 s46 hs28 ok47 r28 sm28 => ?_
     have F47 := F46.stepL hs28 (by decide); have q296 := kpL hs28 (by decide) (sm28 12 (by decide)) q288; have q297 := kpL hs28 (by decide) (sm28 1 (by decide)) q289; have q298 := kpL hs28 (by decide) (sm28 11 (by decide)) q290; have q299 := kpL hs28 (by decide) (sm28 18 (by decide)) q291; have q300 := kpL hs28 (by decide) (sm28 14 (by decide)) q292; have q301 := kpL hs28 (by decide) (sm28 19 (by decide)) q293; have q302 := kpL hs28 (by decide) (sm28 104 (by decide)) q295
     have q303 : At (Ty.lst Ty.ints (g8)) s46 a48 (.tmp 105) := r28
     clear r28
     refine tL ok47 (Yld.toL (y_as q302)) fun a49 s47 hs29 ok48 r29 sm29 => ?_
     have F48 := F47.stepL hs29 (by decide); have q304 := kpL hs29 (by decide) (sm29 12 (by decide)) q296; have q305 := kpL hs29 (by decide) (sm29 1 (by decide)) q297; have q306 := kpL hs29 (by decide) (sm29 11 (by decide)) q298; have q307 := kpL hs29 (by decide) (sm29 18 (by decide)) q299; have q308 := kpL hs29 (by decide) (sm29 14 (by decide)) q300; have q309 := kpL hs29 (by decide) (sm29 19 (by decide)) q301; have q310 := kpL hs29 (by decide) (sm29 105 (by decide)) q303
     have q311 : At (Ty.lst Ty.ints (g7)) s47 a49 (.tmp 21) := r29
     clear r29
     refine tL ok48 (Yld.toL (y_as q310)) fun a50 s48 hs30 ok49 r30 sm30 => ?_
     have F49 := F48.stepL hs30 (by decide); have q312 := kpL hs30 (by decide) (sm30 12 (by decide)) q304; have q313 := kpL hs30 (by decide) (sm30 1 (by decide)) q305; have q314 := kpL hs30 (by decide) (sm30 11 (by decide)) q306; have q315 := kpL hs30 (by decide) (sm30 18 (by decide)) q307; have q316 := kpL hs30 (by decide) (sm30 14 (by decide)) q308; have q317 := kpL hs30 (by decide) (sm30 19 (by decide)) q309; have q318 := kpL hs30 (by decide) (sm30 21 (by decide)) q311
     have q319 : At (Ty.lst Ty.ints (g8)) s48 a50 (.tmp 22) := r30
     clear r30; refine wpList_nil (tn (wp_seq ?_))
     refine gI a50 s48 ok49 (gM q313 (gM q314 (gS rfl (fun A B E G H d0 d1 => rP (y_call _ Try.func20 rfl rfl my2 (rSizes_fn (N) (GS) _ _ _ (cvi (σ := B) (by first | omega | assumption | exact hst1) (ed d0 rfl rfl rfl)) (ed d1 rfl rfl rfl) (by first | omega | assumption | exact hst1) (by first | omega | assumption | exact hst1) (by first | omega | assumption | exact hst1)))) (gB 0 (gE ok49 fun a51 s49 ok50 D19 => ?_))))); refine tn (wp_seq (wp_seq ?_))
     refine gI a51 s49 ok50 (gM (D19.kt q313 rfl) (gR (Pr.own 30 22 1 0 (List.map Ty.ints ([] : List (List Int)))) rfl (by intro A B E G H; exact rP ((y_lit0 (k := 30) Try.underlying24 Try.inf22).mono (fun _ _ h => cvo (by simp) (by simp) h))) (gM (D19.kt q314 rfl) (gE2 ok50 fun a52 s50 ok51 D20 => ?_))))
     obtain ⟨x7, hx1⟩ : ∃ x, a52.eval (.tmp 110) = x := ⟨_, rfl⟩
     have q335 : At (Ty.val x7) s50 a52 (.tmp 110) := hx1
     have o133 := al2 (R := (Pr.own 30 22 1 0 (List.map Ty.ints ([] : List (List Int))))) hx1 (D20.done 1 (by decide))
     refine tL ok51 (YldM.toL (m_append Try.underlying24 Try.inf22 (by decide) rfl (by decide) (al (R := (Pr.own 30 22 1 0 (List.map Ty.ints ([] : List (List Int))))) q335 o133) (D20.dn 2 (by decide) rfl rfl) (one_map (fun _ => one_sl)) (by omega) (by omega))) fun a53 s51 hs31 ok52 r31 sm31 => ?_
     have F52 := ((F49.step0 D19.stp).step0 D20.stp).stepL hs31 (by decide); have q337 := kpL hs31 (by decide) (sm31 12 (by decide)) (D20.kt (D19.kt q312 rfl) rfl); have q338 := kpL hs31 (by decide) (sm31 18 (by decide)) (D20.kt (D19.kt q315 rfl) rfl); have q339 := kpL hs31 (by decide) (sm31 14 (by decide)) (D20.kt (D19.kt q316 rfl) rfl); have q340 := kpL hs31 (by decide) (sm31 19 (by decide)) (D20.kt (D19.kt q317 rfl) rfl); have q341 := kpL hs31 (by decide) (sm31 21 (by decide)) (D20.kt (D19.kt q318 rfl) rfl); have q342 := kpL hs31 (by decide) (sm31 23 (by decide)) (D20.kt (D19.dn 3 rfl rfl) rfl); have q343 := kpL hs31 (by decide) (sm31 109 (by decide)) (D20.dn 0 (by decide) rfl rfl)
     obtain ⟨x8, hx2⟩ : ∃ x, a53.eval (.tmp 112) = x := ⟨_, rfl⟩
     have q344 : At (Ty.val x8) s51 a53 (.tmp 112) := hx2
     have o134 := al2 (R := (Pr.own 30 22 1 (List.length GS) (List.map Ty.ints GS))) hx2 (cvo (by simp) (by first | (rw [List.map_append]; rfl) | simp) r31)
     clear r31
     refine tL ok52 (Yld.toL (y_mv q337)) fun a54 s52 hs32 ok53 r32 sm32 => ?_
     have F53 := F52.stepL hs32 (by decide); have q345 := kpL hs32 (by decide) (sm32 18 (by decide)) q338; have q346 := kpL hs32 (by decide) (sm32 14 (by decide)) q339; have q347 := kpL hs32 (by decide) (sm32 19 (by decide)) q340; have q348 := kpL hs32 (by decide) (sm32 21 (by decide)) q341; have q349 := kpL hs32 (by decide) (sm32 23 (by decide)) q342; have q350 := kpL hs32 (by decide) (sm32 109 (by decide)) q343; have q351 := kpL hs32 (by decide) (sm32 112 (by decide)) q344; have o135 := Own.keepL o134 hs32 (by decide) (by decide)
     have q352 : At (Ty.lst Ty.ints SS) s52 a54 (.tmp 113) := r32
     clear r32
     refine tL ok53 (YldM.toL (m_append Try.underlying24 Try.inf22 (by decide) rfl (by decide) (al (R := (Pr.own 30 22 1 (List.length GS) (List.map Ty.ints GS))) q351 o135) q352 (one_map (fun _ => one_sl)) (by omega) (by omega))) fun a55 s53 hs33 ok54 r33 sm33 => ?_
     have F54 := F53.stepL hs33 (by decide); have q353 := kpL hs33 (by decide) (sm33 18 (by decide)) q345; have q354 := kpL hs33 (by decide) (sm33 14 (by decide)) q346; have q355 := kpL hs33 (by decide) (sm33 19 (by decide)) q347; have q356 := kpL hs33 (by decide) (sm33 21 (by decide)) q348; have q357 := kpL hs33 (by decide) (sm33 23 (by decide)) q349; have q358 := kpL hs33 (by decide) (sm33 109 (by decide)) q350
     obtain ⟨x9, hx3⟩ : ∃ x, a55.eval (.tmp 114) = x := ⟨_, rfl⟩
     have q359 : At (Ty.val x9) s53 a55 (.tmp 114) := hx3
     have o136 := al2 (R := (Pr.own 30 22 1 (List.length (GS ++ SS)) (List.map Ty.ints (GS ++ SS)))) hx3 (cvo (by simp) (by first | (rw [List.map_append]; rfl) | simp) r33)
     clear r33
     obtain ⟨t8, e1, h1, q360⟩ := Own.seal o136 (by decide)
     rw [← e1]
     have F55 := F54.step h1 (by decide); have q361 := Ty.up (Ty.bool (normB ((N)) ((M2)) ((g1)) ((g3)) ((GS)) ((SS)))) (h1.le (by decide)) q353; have q362 := Ty.up (Ty.int (normE ((N)) ((M2)) ((g1)) ((SS)))) (h1.le (by decide)) q354; have q363 := Ty.up (Ty.lst Ty.ints (g5)) (h1.le (by decide)) q355; have q364 := Ty.up (Ty.lst Ty.ints (g7)) (h1.le (by decide)) q356; have q365 := Ty.up (Ty.nat (szTo (N) (fun y => y ∈ (GS)) (N))) (h1.le (by decide)) q357; have q366 := Ty.up (Ty.nat N) (h1.le (by decide)) q358
     have q367 : At (Ty.lst Ty.ints (GS ++ SS)) t8 a55 (.tmp 114) := by have e : a55.eval (.tmp 114) = x9 := q359; show Ty.has _ _ _; rw [e]; exact q360
     refine tL (R := (fun v τ => Pr.has (Ty.pr (Ty.nat (szTo (N) (fun y => y ∈ ((GS ++ SS))) (N)))) τ v)) ok54 (Yld.toL (y_call _ Try.func20 rfl rfl my2 (rSizes_fn (N) ((GS ++ SS)) _ _ _ (cvi (σ := t8) (by first | omega | assumption | exact hst1) q366) q367 (by first | omega | assumption | exact hst1) (by first | omega | assumption | exact hst1) (by first | omega | assumption | exact hst1)))) fun a56 s54 hs34 ok55 r34 sm34 => ?_
     have F56 := F55.stepL hs34 (by decide); have q368 := kpL hs34 (by decide) (sm34 18 (by decide)) q361; have q369 := kpL hs34 (by decide) (sm34 14 (by decide)) q362; have q370 := kpL hs34 (by decide) (sm34 19 (by decide)) q363; have q371 := kpL hs34 (by decide) (sm34 21 (by decide)) q364; have q372 := kpL hs34 (by decide) (sm34 23 (by decide)) q365
     have q373 : At (Ty.nat (szTo (N) (fun y => y ∈ ((GS ++ SS))) (N))) s54 a56 (.tmp 115) := r34
     clear r34
     refine tL ok55 (Yld.toL (y_mv q372)) fun a57 s55 hs35 ok56 r35 sm35 => ?_
     have F57 := F56.stepL hs35 (by decide); have q374 := kpL hs35 (by decide) (sm35 18 (by decide)) q368; have q375 := kpL hs35 (by decide) (sm35 14 (by decide)) q369; have q376 := kpL hs35 (by decide) (sm35 19 (by decide)) q370; have q377 := kpL hs35 (by decide) (sm35 21 (by decide)) q371; have q378 := kpL hs35 (by decide) (sm35 115 (by decide)) q373
     have q379 : At (Ty.nat (szTo (N) (fun y => y ∈ (GS)) (N))) s55 a57 (.tmp 116) := r35
     clear r35
     refine tL (R := (fun v τ => Pr.has (Ty.pr (Ty.bool (decide ((((szTo (N) (fun y => y ∈ ((GS ++ SS))) (N)) : Nat) : Int) ≠ (((szTo (N) (fun y => y ∈ (GS)) (N)) : Nat) : Int))))) τ v)) ok56 (Yld.toL (y_neq q378 q379)) fun a58 s56 hs36 ok57 r36 sm36 => ?_
     have F58 := F57.stepL hs36 (by decide); have q380 := kpL hs36 (by decide) (sm36 18 (by decide)) q374; have q381 := kpL hs36 (by decide) (sm36 14 (by decide)) q375; have q382 := kpL hs36 (by decide) (sm36 19 (by decide)) q376; have q383 := kpL hs36 (by decide) (sm36 21 (by decide)) q377
     have q384 : At (Ty.bool (decide ((((szTo (N) (fun y => y ∈ ((GS ++ SS))) (N)) : Nat) : Int) ≠ (((szTo (N) (fun y => y ∈ (GS)) (N)) : Nat) : Int)))) s56 a58 (.tmp 117) := r36
     clear r36; refine wpList_nil (tn ?_)
     refine cond_p (p := ((((szTo (N) (fun y => y ∈ ((GS ++ SS))) (N)) : Nat) : Int) ≠ (((szTo (N) (fun y => y ∈ (GS)) (N)) : Nat) : Int))) q384 (fun c5 => ?_) (fun c5 => ?_)
     ·
      have hne : szTo N (fun y => y ∈ GS ++ SS) N ≠ szTo N (fun y => y ∈ GS) N := (by omega); obtain ⟨hE0, hB0⟩ := norm_out (d := g3) hN12 hp1 hGr hSrN hne; have hE2 : normE N M2 g1 SS = 14 := (by rw [hNM]; exact hE0); have hB2 : normB N M2 g1 g3 GS SS = false := (by rw [hNM]; exact hB0)
      refine wp_seq ?_
      refine gI a58 s56 ok57 (gM q381 (gS rfl (fun A B E G H d0 => rP (y_eql (ed d0 rfl rfl rfl) rfl)) (gS rfl (fun A B E G H d0 => rP (y_move (ed d0 rfl rfl rfl))) (gS rfl (fun A B E G H d0 => gu G (ed d0 rfl rfl rfl) fun hg => y_move (kp (H 18 rfl) E q380)) (gS rfl (fun A B E G H d0 d1 => gu G (ed d1 rfl rfl rfl) fun hg => y_not ((ed d0 rfl rfl rfl).1 hg)) (gS rfl (fun A B E G H d0 d1 => rP (y_pick_and (ed d0 rfl rfl rfl) (ed d1 rfl rfl rfl) rfl)) (gB 0 (gE ok57 fun a59 s57 ok58 D21 => ?_)))))))); refine tn (wp_ret (tr ?_))
      exact retL1 rfl ok58 (F58.step0 D21.stp) (cvb (by (rw [hE2, hB2]; rfl)) (D21.dn 6 rfl rfl))
     ·
      have heq : szTo N (fun y => y ∈ GS ++ SS) N = szTo N (fun y => y ∈ GS) N := (by omega); obtain ⟨hAn, hA⟩ := ClosedP.few hN12 hGr hp3 (by omega); obtain ⟨hBn, hBm⟩ := ClosedP.few hN12 hSrN hp4 (by omega); have hAl := few_rows hAn (fun x hx => ((hA x).1 hx).row hN12 hGr); have hBl := few_rows hBn (fun x hx => ((hBm x).1 hx).row hN12 hSrN); obtain ⟨hE0, hB0⟩ := norm_is hN12 hp1 hp2N hGr hSrN heq hA hBm; have hE2 : normE N M2 g1 SS = 0 := (by rw [hNM]; exact hE0); have hB2 : normB N M2 g1 g3 GS SS = nrmO g5 g7 g5.length := (by rw [hNM]; exact hB0)
      refine wp_skip (tn (wp_seq ?_))
      refine gI a58 s56 ok57 (gC (Ty.bool true) (gE ok57 fun a60 s58 ok59 D22 => ?_)); refine tn (wp_seq ?_)
      refine gI a60 s58 ok59 (gR (Pr.ownm Ty.bool kI 31 (fun _ => none : Int → Option Bool)) rfl (by intro A B E G H; exact rP (y_makemap 31)) (gE2 ok59 fun a61 s59 ok60 D23 => ?_))
      obtain ⟨x10, hx4⟩ : ∃ x, a61.eval (.tmp 124) = x := ⟨_, rfl⟩
      have q396 : At (Ty.val x10) s59 a61 (.tmp 124) := hx4
      have o137 := al2 (R := (Pr.ownm Ty.bool kI 31 (fun _ => none : Int → Option Bool))) hx4 (D23.done 0 (by decide))
      refine tL ok60 (Yld.toL (y_as q396)) fun a62 s60 hs37 ok61 r37 sm37 => ?_
      have F62 := ((F58.step0 D22.stp).step0 D23.stp).stepL hs37 (by decide); have q397 := kpL hs37 (by decide) (sm37 18 (by decide)) (D23.kt (D22.kt q380 rfl) rfl); have q398 := kpL hs37 (by decide) (sm37 14 (by decide)) (D23.kt (D22.kt q381 rfl) rfl); have q399 := kpL hs37 (by decide) (sm37 19 (by decide)) (D23.kt (D22.kt q382 rfl) rfl); have q400 := kpL hs37 (by decide) (sm37 21 (by decide)) (D23.kt (D22.kt q383 rfl) rfl); have q401 := kpL hs37 (by decide) (sm37 24 (by decide)) (D23.kt (D22.dn 0 rfl rfl) rfl); have o138 := OwnM.keepL o137 hs37 (by decide) (by decide)
      have q402 : At (Ty.val x10) s60 a62 (.tmp 25) := r37
      clear r37; refine wpList_nil (tn (wp_seq (wp_seq ?_)))
      refine gI a62 s60 ok61 (gC (Ty.int (0 : Int)) (gE ok61 fun a63 s61 ok62 D24 => ?_)); have o139 := OwnM.k0 o138 D24.stp; refine tn (wp_block ?_)
      refine loop (fun n1 a64 w3 => ∃ (t9 : GW) (i : Nat) (f : (Int → Option Bool)), t9.w = w3 ∧ FromL [] s0 t9 ∧ Ok 177 [] a64 ∧ At (Ty.nat i) t9 a64 (.tmp 26) ∧ At (Ty.bool (normB ((N)) ((M2)) ((g1)) ((g3)) ((GS)) ((SS)))) t9 a64 (.tmp 18) ∧ At (Ty.int (normE ((N)) ((M2)) ((g1)) ((SS)))) t9 a64 (.tmp 14) ∧ At (Ty.lst Ty.ints (g5)) t9 a64 (.tmp 19) ∧ At (Ty.lst Ty.ints (g7)) t9 a64 (.tmp 21) ∧ At (Ty.bool true) t9 a64 (.tmp 24) ∧ At (Ty.val x10) t9 a64 (.tmp 25) ∧ OwnM Ty.bool kI t9 31 x10 f ∧ (i ≤ g7.length) ∧ (SeenB N (g7.take i) f) ∧ n1 = g7.length - i) (g7.length - (0)) ?_ ?_
      ·
       exact ⟨s61, 0, (fun _ => none), rfl, (F62.step0 D24.stp), ok62, (cvi (by (first | rfl | omega | (simp_all; done) | (simp_all; omega))) (D24.dn 0 rfl rfl)), (D24.kt q397 rfl), (D24.kt q398 rfl), (D24.kt q399 rfl), (D24.kt q400 rfl), (D24.kt q401 rfl), (D24.kt q402 rfl), (cvm (by (rfl)) o139), by omega, fun x _ _ => by simp, rfl⟩
      ·
       rintro n2 a65 w4 ⟨t10, i, f, rfl, F64, ok63, q410, q411, q412, q413, q414, q415, q416, o140, hi, hsn, rfl⟩
       refine wp_seq (wp_seq ?_)
       refine gI a65 t10 ok63 (gM q410 (gM q414 (gS rfl (fun A B E G H d0 => rP (y_len Try.underlying24 (ed d0 rfl rfl rfl))) (gS rfl (fun A B E G H d0 d1 => rP (y_lss (ed d0 rfl rfl rfl) (ed d1 rfl rfl rfl))) (gE ok63 fun a66 s62 ok64 D25 => ?_))))); have F65 := F64.step0 D25.stp; have q417 := D25.kt q410 rfl; have q418 := D25.kt q411 rfl; have q419 := D25.kt q412 rfl; have q420 := D25.kt q413 rfl; have q421 := D25.kt q414 rfl; have q422 := D25.kt q415 rfl; have q423 := D25.kt q416 rfl; have o141 := OwnM.k0 o140 D25.stp; refine tn ?_
       refine cond_p (p := (((i : Nat) : Int) < (((List.length (g7)) : Nat) : Int))) (D25.dn 3 rfl rfl) (fun c6 => ?_) (fun c6 => ?_)
       ·
        have hbr := ((hBm _).1 (mem_atD [] (show i < g7.length by omega))).row hN12 hSrN; have hbr1 := hbr.row; have hsn5 := hsn.put hbr.row hbr.len; rw [← take_snoc g7 [] i (by omega)] at hsn5
        refine wp_skip (tn (wp_seq (wp_block ?_)))
        refine gI a66 s62 ok64 (gM q423 (gM q421 (gM q417 (gT (Ty.ref [(Ty.lst Ty.int ((g7).getD i []))]) rfl (fun A B E G H d0 d1 => rP (y_index1 Try.underlying24 Try.inf22 (ed d0 rfl rfl rfl) (ed d1 rfl rfl rfl) (by omega) (lst_get Ty.ints (g7) [] i (by omega)))) (gS rfl (fun A B E G H d0 => rP (y_load Try.underlying22 rfl (ed d0 rfl rfl rfl) rfl)) (gS rfl (fun A B E G H d0 => rP (y_call _ Try.func21 rfl rfl my1 (rRank_fn (((g7).getD i [])) _ _ (ed d0 rfl rfl rfl) (by first | omega | assumption)))) (gE2 ok64 fun a67 s63 ok65 D26 => ?_))))))); have o142 := OwnM.k0 o141 D26.stp
        have q432 : At (Ty.val x10) s63 a67 (.tmp 131) := D26.done 0 (by decide)
        refine tailL0 (L := [31]) (R := (fun _ τ => OwnM Ty.bool kI τ 31 x10 (fun x_ => if x_ = (((rankL (((g7).getD i []))) : Nat) : Int) then some true else f x_))) rfl rfl (YldM.toL (m_mapset (i := (((rankL (((g7).getD i []))) : Nat) : Int)) Try.underlying35 (keyInt Try.underlying3) (by decide) o142 q432 (D26.dn 5 (by decide) rfl rfl) rfl)) (fun v1 s64 hs38 r38 => ?_)
        have F67 := (F65.step0 D26.stp).stepL hs38 (by decide); have q434 := kpL hs38 (by decide) rfl (D26.kt q417 rfl); have q435 := kpL hs38 (by decide) rfl (D26.kt q418 rfl); have q436 := kpL hs38 (by decide) rfl (D26.kt q419 rfl); have q437 := kpL hs38 (by decide) rfl (D26.kt q420 rfl); have q438 := kpL hs38 (by decide) rfl (D26.kt q421 rfl); have q439 := kpL hs38 (by decide) rfl (D26.kt q422 rfl); have q440 := kpL hs38 (by decide) rfl (D26.kt q423 rfl)
        have o143 : OwnM Ty.bool kI s64 31 x10 (fun x_ => if x_ = (((rankL (((g7).getD i []))) : Nat) : Int) then some true else f x_) := r38
        clear r38; refine wpList_nil (bn (tn ?_))
        refine gI a67 s64 ok65 (gM q434 (gT (Ty.nat (i + 1)) rfl (fun A B E G H d0 => rP ((y_add (ed d0 rfl rfl rfl) rfl (w64 (by omega) (by omega))).mono (fun τ _ h => cvi (σ := τ) (by first | omega | exact (Int.natCast_mul _ _).symm) h))) (gB 0 (gE ok65 fun a68 s65 ok66 D27 => ?_)))); have o144 := OwnM.k0 o143 D27.stp
        exact tn ⟨g7.length - ((i+1)), by omega, s65, (i+1), (fun p => if p = ((rankL (g7.getD i []) : Nat) : Int) then some true else f p), rfl, (F67.step0 D27.stp), ok66, (cvi (by (first | rfl | omega | (simp_all; done) | (simp_all; omega))) (D27.dn 2 rfl rfl)), (D27.kt q435 rfl), (D27.kt q436 rfl), (D27.kt q437 rfl), (D27.kt q438 rfl), (D27.kt q439 rfl), (D27.kt q440 rfl), (cvm (by (rfl)) o144), by omega, hsn5, rfl⟩
       ·
        have ei : i = g7.length := (by omega); rw [ei, List.take_length] at hsn
        refine wp_exit (tx (tx (bx (tn (wp_seq (wp_seq ?_))))))
        refine gI a66 s62 ok64 (gC (Ty.int (0 : Int)) (gE ok64 fun a69 s66 ok67 D28 => ?_)); have o145 := OwnM.k0 o141 D28.stp; refine tn (wp_block ?_)
        refine loop (fun n3 a70 w5 => ∃ (t11 : GW) (a : Nat), t11.w = w5 ∧ FromL [] s0 t11 ∧ Ok 177 [] a70 ∧ At (Ty.nat a) t11 a70 (.tmp 27) ∧ At (Ty.bool (nrmO g5 g7 a)) t11 a70 (.tmp 24) ∧ At (Ty.bool (normB ((N)) ((M2)) ((g1)) ((g3)) ((GS)) ((SS)))) t11 a70 (.tmp 18) ∧ At (Ty.int (normE ((N)) ((M2)) ((g1)) ((SS)))) t11 a70 (.tmp 14) ∧ At (Ty.lst Ty.ints (g5)) t11 a70 (.tmp 19) ∧ At (Ty.lst Ty.ints (g7)) t11 a70 (.tmp 21) ∧ At (Ty.val x10) t11 a70 (.tmp 25) ∧ OwnM Ty.bool kI t11 31 x10 f ∧ (a ≤ g5.length) ∧ n3 = g5.length - a) (g5.length - (0)) ?_ ?_
        ·
         exact ⟨s66, 0, rfl, (F65.step0 D28.stp), ok67, (cvi (by (first | rfl | omega | (simp_all; done) | (simp_all; omega))) (D28.dn 0 rfl rfl)), (cvb (by (rfl)) (D28.kt q422 rfl)), (D28.kt q418 rfl), (D28.kt q419 rfl), (D28.kt q420 rfl), (D28.kt q421 rfl), (D28.kt q423 rfl), o145, by omega, rfl⟩
        ·
         rintro n4 a71 w6 ⟨t12, a, rfl, F70, ok68, q456, q457, q458, q459, q460, q461, q462, o146, ha, rfl⟩
         refine wp_seq (wp_seq ?_)
         refine gI a71 t12 ok68 (gM q456 (gM q460 (gS rfl (fun A B E G H d0 => rP (y_len Try.underlying24 (ed d0 rfl rfl rfl))) (gS rfl (fun A B E G H d0 d1 => rP (y_lss (ed d0 rfl rfl rfl) (ed d1 rfl rfl rfl))) (gE ok68 fun a72 s67 ok69 D29 => ?_))))); have F71 := F70.step0 D29.stp; have q464 := D29.kt q457 rfl; have q465 := D29.kt q458 rfl; have q466 := D29.kt q459 rfl; have o147 := OwnM.k0 o146 D29.stp; refine tn ?_
         refine cond_p (p := (((a : Nat) : Int) < (((List.length (g5)) : Nat) : Int))) (D29.dn 3 rfl rfl) (fun c7 => ?_) (fun c7 => ?_)
         ·
          refine wp_skip (tn (wp_seq (wp_block (wp_seq ?_))))
          refine gI a72 s67 ok69 (gC (Ty.int (0 : Int)) (gE ok69 fun a73 s68 ok70 D30 => ?_)); have o148 := OwnM.k0 o147 D30.stp; refine tn (wp_block ?_)
          refine loop (fun n5 a74 w7 => ∃ (t13 : GW) (b : Nat), t13.w = w7 ∧ FromL [] s0 t13 ∧ Ok 177 [] a74 ∧ At (Ty.nat b) t13 a74 (.tmp 28) ∧ At (Ty.bool (nrmO g5 g7 a && nrmJ g5 g7 a b)) t13 a74 (.tmp 24) ∧ At (Ty.nat a) t13 a74 (.tmp 27) ∧ At (Ty.bool (normB ((N)) ((M2)) ((g1)) ((g3)) ((GS)) ((SS)))) t13 a74 (.tmp 18) ∧ At (Ty.int (normE ((N)) ((M2)) ((g1)) ((SS)))) t13 a74 (.tmp 14) ∧ At (Ty.lst Ty.ints (g5)) t13 a74 (.tmp 19) ∧ At (Ty.lst Ty.ints (g7)) t13 a74 (.tmp 21) ∧ At (Ty.val x10) t13 a74 (.tmp 25) ∧ OwnM Ty.bool kI t13 31 x10 f ∧ (b ≤ g7.length) ∧ n5 = g7.length - b) (g7.length - (0)) ?_ ?_
          ·
           exact ⟨s68, 0, rfl, (F71.step0 D30.stp), ok70, (cvi (by (first | rfl | omega | (simp_all; done) | (simp_all; omega))) (D30.dn 0 rfl rfl)), (cvb (by (simp [nrmJ])) (D30.kt q464 rfl)), (D30.kt (D29.kt q456 rfl) rfl), (D30.kt q465 rfl), (D30.kt q466 rfl), (D30.kt (D29.kt q460 rfl) rfl), (D30.kt (D29.kt q461 rfl) rfl), (D30.kt (D29.kt q462 rfl) rfl), o148, by omega, rfl⟩
          ·
           rintro n6 a75 w8 ⟨t14, b, rfl, F73, ok71, q479, q480, q481, q482, q483, q484, q485, q486, o149, hb, rfl⟩
           refine wp_seq (wp_seq ?_)
           refine gI a75 t14 ok71 (gM q479 (gM q485 (gS rfl (fun A B E G H d0 => rP (y_len Try.underlying24 (ed d0 rfl rfl rfl))) (gS rfl (fun A B E G H d0 d1 => rP (y_lss (ed d0 rfl rfl rfl) (ed d1 rfl rfl rfl))) (gE ok71 fun a76 s69 ok72 D31 => ?_))))); have F74 := F73.step0 D31.stp; have q487 := D31.kt q479 rfl; have q488 := D31.kt q480 rfl; have q489 := D31.kt q481 rfl; have q490 := D31.kt q482 rfl; have q491 := D31.kt q483 rfl; have q492 := D31.kt q484 rfl; have q493 := D31.kt q485 rfl; have q494 := D31.kt q486 rfl; have o150 := OwnM.k0 o149 D31.stp; refine tn ?_
           refine cond_p (p := (((b : Nat) : Int) < (((List.length (g7)) : Nat) : Int))) (D31.dn 3 rfl rfl) (fun c8 => ?_) (fun c8 => ?_)
           ·
            have har := ((hA _).1 (mem_atD [] (show a < g5.length by omega))).row hN12 hGr; have hbr := ((hBm _).1 (mem_atD [] (show b < g7.length by omega))).row hN12 hSrN; obtain ⟨hf1, hf2, hf3, hf4, hf5, hf6, hf7⟩ := conjR_fit har hbr; have hlk := hsn _ hf6 hf7
            refine wp_skip (tn (wp_seq (wp_block ?_)))
            refine gI a76 s69 ok72 (gM q488 (gS rfl (fun A B E G H d0 => rP (y_move (ed d0 rfl rfl rfl))) (gS rfl (fun A B E G H d0 => gu G (ed d0 rfl rfl rfl) fun hg => y_move (kp (H 25 rfl) E q494)) (gS rfl (fun A B E G H d0 => gu G (ed d0 rfl rfl rfl) fun hg => y_move (kp (H 19 rfl) E q492)) (gS rfl (fun A B E G H d0 => gu G (ed d0 rfl rfl rfl) fun hg => y_move (kp (H 27 rfl) E q489)) (gT (Ty.grd ((nrmO g5 g7 a && nrmJ g5 g7 a b) = true) (Ty.ref [(Ty.lst Ty.int ((g5).getD a []))])) rfl (fun A B E G H d0 d1 d2 => gu G (ed d2 rfl rfl rfl) fun hg => y_index1 Try.underlying24 Try.inf22 ((ed d0 rfl rfl rfl).1 hg) ((ed d1 rfl rfl rfl).1 hg) (by omega) (lst_get Ty.ints (g5) [] a (by omega))) (gS rfl (fun A B E G H d0 d1 => gu G (ed d1 rfl rfl rfl) fun hg => y_load Try.underlying22 rfl ((ed d0 rfl rfl rfl).1 hg) rfl) (gS rfl (fun A B E G H d0 => gu G (ed d0 rfl rfl rfl) fun hg => y_move (kp (H 21 rfl) E q493)) (gS rfl (fun A B E G H d0 => gu G (ed d0 rfl rfl rfl) fun hg => y_move (kp (H 28 rfl) E q487)) (gT (Ty.grd ((nrmO g5 g7 a && nrmJ g5 g7 a b) = true) (Ty.ref [(Ty.lst Ty.int ((g7).getD b []))])) rfl (fun A B E G H d0 d1 d2 => gu G (ed d2 rfl rfl rfl) fun hg => y_index1 Try.underlying24 Try.inf22 ((ed d0 rfl rfl rfl).1 hg) ((ed d1 rfl rfl rfl).1 hg) (by omega) (lst_get Ty.ints (g7) [] b (by omega))) (gS rfl (fun A B E G H d0 d1 => gu G (ed d1 rfl rfl rfl) fun hg => y_load Try.underlying22 rfl ((ed d0 rfl rfl rfl).1 hg) rfl) (gS rfl (fun A B E G H d0 d1 d2 d3 => gu G (ed d2 rfl rfl rfl) fun hg => y_call _ Try.func22 rfl rfl my2 (rBy_fn (((g5).getD a [])) (((g7).getD b [])) _ _ _ ((ed d0 rfl rfl rfl).1 hg) ((ed d1 rfl rfl rfl).1 hg) (by first | assumption | omega) (by first | assumption | omega))) ?_))))))))))))
            refine gS rfl (fun A B E G H d0 => gu G (ed d0 rfl rfl rfl) fun hg => y_move (kp (H 19 rfl) E q492)) (gS rfl (fun A B E G H d0 => gu G (ed d0 rfl rfl rfl) fun hg => y_move (kp (H 27 rfl) E q489)) (gT (Ty.grd ((nrmO g5 g7 a && nrmJ g5 g7 a b) = true) (Ty.ref [(Ty.lst Ty.int ((g5).getD a []))])) rfl (fun A B E G H d0 d1 d2 => gu G (ed d2 rfl rfl rfl) fun hg => y_index1 Try.underlying24 Try.inf22 ((ed d0 rfl rfl rfl).1 hg) ((ed d1 rfl rfl rfl).1 hg) (by omega) (lst_get Ty.ints (g5) [] a (by omega))) (gS rfl (fun A B E G H d0 d1 => gu G (ed d1 rfl rfl rfl) fun hg => y_load Try.underlying22 rfl ((ed d0 rfl rfl rfl).1 hg) rfl) (gS rfl (fun A B E G H d0 d1 d2 => gu G (ed d2 rfl rfl rfl) fun hg => y_call _ Try.func23 rfl rfl my1 (rUndo_fn (((g5).getD a [])) _ _ ((ed d0 rfl rfl rfl).1 hg) (by assumption))) (gS rfl (fun A B E G H d0 d1 d2 d3 => gu G (ed d3 rfl rfl rfl) fun hg => y_call _ Try.func22 rfl rfl my2 (rBy_fn ((byL (((g5).getD a [])) (((g7).getD b [])))) ((undoL (((g5).getD a [])))) _ _ _ ((ed d0 rfl rfl rfl).1 hg) ((ed d1 rfl rfl rfl).1 hg) (by first | assumption | omega) (by first | assumption | omega))) (gS rfl (fun A B E G H d0 d1 d2 => gu G (ed d2 rfl rfl rfl) fun hg => y_call _ Try.func21 rfl rfl my1 (rRank_fn ((byL ((byL (((g5).getD a [])) (((g7).getD b [])))) ((undoL (((g5).getD a [])))))) _ _ ((ed d0 rfl rfl rfl).1 hg) (by first | omega | assumption))) ?_))))))
            refine gT (Ty.grd ((nrmO g5 g7 a && nrmJ g5 g7 a b) = true) (Ty.bool ((f (((rankL ((byL ((byL (((g5).getD a [])) (((g7).getD b [])))) ((undoL (((g5).getD a []))))))) : Nat) : Int)).getD false))) rfl (fun A B E G H d0 d1 d2 => gu G (ed d2 rfl rfl rfl) fun hg => y_lookup (i := (((rankL ((byL ((byL (((g5).getD a [])) (((g7).getD b [])))) ((undoL (((g5).getD a []))))))) : Nat) : Int)) (z := false) Try.underlying35 (keyInt Try.underlying3) Try.inf4 (fun _ => rfl) (OwnM.k0 o150 E) ((ed d0 rfl rfl rfl).1 hg) ((ed d1 rfl rfl rfl).1 hg)) (gS rfl (fun A B E G H d0 d1 => rP (y_pick_and (ed d0 rfl rfl rfl) (ed d1 rfl rfl rfl) rfl)) (gB 0 (gE ok72 fun a77 s70 ok73 D32 => ?_))); have o151 := OwnM.k0 o150 D32.stp; refine bn (tn ?_)
            refine gI a77 s70 ok73 (gM (D32.kt q487 rfl) (gT (Ty.nat (b + 1)) rfl (fun A B E G H d0 => rP ((y_add (ed d0 rfl rfl rfl) rfl (w64 (by omega) (by omega))).mono (fun τ _ h => cvi (σ := τ) (by first | omega | exact (Int.natCast_mul _ _).symm) h))) (gB 0 (gE ok73 fun a78 s71 ok74 D33 => ?_)))); have o152 := OwnM.k0 o151 D33.stp
            exact tn ⟨g7.length - ((b+1)), by omega, s71, (b+1), rfl, ((F74.step0 D32.stp).step0 D33.stp), ok74, (cvi (by (first | rfl | omega | (simp_all; done) | (simp_all; omega))) (D33.dn 2 rfl rfl)), (cvb (by (rw [nrmJ_succ (by omega), ← Bool.and_assoc, ← hlk]; rfl)) (D33.kt (D32.dn 21 rfl rfl) rfl)), (D33.kt (D32.kt q489 rfl) rfl), (D33.kt (D32.kt q490 rfl) rfl), (D33.kt (D32.kt q491 rfl) rfl), (D33.kt (D32.kt q492 rfl) rfl), (D33.kt (D32.kt q493 rfl) rfl), (D33.kt (D32.kt q494 rfl) rfl), o152, by omega, rfl⟩
           ·
            refine wp_exit (tx (tx (bx (bn (tn ?_)))))
            refine gI a76 s69 ok72 (gM q489 (gT (Ty.nat (a + 1)) rfl (fun A B E G H d0 => rP ((y_add (ed d0 rfl rfl rfl) rfl (w64 (by omega) (by omega))).mono (fun τ _ h => cvi (σ := τ) (by first | omega | exact (Int.natCast_mul _ _).symm) h))) (gB 0 (gE ok72 fun a79 s72 ok75 D34 => ?_)))); have o153 := OwnM.k0 o150 D34.stp
            exact tn ⟨g5.length - ((a+1)), by omega, s72, (a+1), rfl, (F74.step0 D34.stp), ok75, (cvi (by (first | rfl | omega | (simp_all; done) | (simp_all; omega))) (D34.dn 2 rfl rfl)), (cvb (by (rw [nrmO_succ (by omega), show b = g7.length by omega])) (D34.kt q488 rfl)), (D34.kt q490 rfl), (D34.kt q491 rfl), (D34.kt q492 rfl), (D34.kt q493 rfl), (D34.kt q494 rfl), o153, by omega, rfl⟩
         ·
          refine wp_exit (tx (tx (bx (tn (wp_seq ?_)))))
          refine gI a72 s67 ok69 (gM q466 (gS rfl (fun A B E G H d0 => rP (y_eql (ed d0 rfl rfl rfl) rfl)) (gS rfl (fun A B E G H d0 => rP (y_move (ed d0 rfl rfl rfl))) (gS rfl (fun A B E G H d0 => gu G (ed d0 rfl rfl rfl) fun hg => y_move (kp (H 18 rfl) E q465)) (gS rfl (fun A B E G H d0 => gu G (ed d0 rfl rfl rfl) fun hg => y_move (kp (H 24 rfl) E q464)) (gT (Ty.grd ((decide ((normE ((N)) ((M2)) ((g1)) ((SS))) = (0 : Int))) = true) (Ty.bool ((normB ((N)) ((M2)) ((g1)) ((g3)) ((GS)) ((SS))) == (nrmO g5 g7 a)))) rfl (fun A B E G H d0 d1 d2 => gu G (ed d2 rfl rfl rfl) fun hg => y_eqlB Try.underlying4 ((ed d0 rfl rfl rfl).1 hg) ((ed d1 rfl rfl rfl).1 hg)) (gS rfl (fun A B E G H d0 d1 => rP (y_pick_and (ed d0 rfl rfl rfl) (ed d1 rfl rfl rfl) rfl)) (gB 0 (gE ok69 fun a80 s73 ok76 D35 => ?_))))))))); have o154 := OwnM.k0 o147 D35.stp; refine tn (wp_ret ?_)
          exact retL1 rfl ok76 (F71.step0 D35.stp) (cvb (by (rw [hE2, hB2, show a = g5.length by omega]; simp)) (D35.dn 7 rfl rfl))


end Go.Proofs.Ytkjifbgofckfeaa
