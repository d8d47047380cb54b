/- The functions that the law TopGroup reaches, each by its contract. Part 7. -/
import Derived.Test.YtkjifbgofckfeaaTopGroupW6
namespace Go.Proofs.Ytkjifbgofckfeaa
open Go.KL

set_option maxHeartbeats 4000000 in
set_option maxRecDepth 100000 in
theorem topGroup_fn (raw : List Int) (n : Int) (many : Int) (a : List Int) (b : List Int) (bell : Int) (σ : GW)  (v0 v1 v2 v3 v4 v5 : Value) (hv0 : Ty.has (Ty.lst Ty.int raw) σ v0) (hv1 : Ty.has (Ty.int n) σ v1) (hv2 : Ty.has (Ty.int many) σ v2) (hv3 : Ty.has (Ty.lst Ty.int a) σ v3) (hv4 : Ty.has (Ty.lst Ty.int b) σ v4) (hv5 : Ty.has (Ty.int bell) σ v5)  (hraw : ∀ x ∈ raw, -9223372036854775808 ≤ x ∧ x ≤ 9223372036854775807) (hn : -9223372036854775808 ≤ n ∧ n ≤ 9223372036854775807) (hmany : -9223372036854775808 ≤ many ∧ many ≤ 9223372036854775807) (ha : ∀ x ∈ a, -9223372036854775808 ≤ x ∧ x ≤ 9223372036854775807) (hb : ∀ x ∈ b, -9223372036854775808 ≤ x ∧ x ≤ 9223372036854775807) (hbell : -9223372036854775808 ≤ bell ∧ bell ≤ 9223372036854775807) (hlr : raw.length ≤ 140737488355328) (hla : a.length ≤ 140737488355328) (hlb : b.length ≤ 140737488355328) :
    FnC Try.prog 13 #[v0, v1, v2, v3, v4, v5] σ (Ty.bool true) := by
 have hp_n := pick_lt n (n := 9) oM
 have hp_many := pick_lt many (n := 4) oM
 obtain ⟨N, hN⟩ : ∃ N, N = 1 + pick n 9 := ⟨_, rfl⟩
 have hN12 : 1 ≤ N ∧ N ≤ 12 := oM
 obtain ⟨GS, hGS⟩ : ∃ GS, GS = rowsOf raw 0 N (pick many 4) := ⟨_, rfl⟩
 have hGr : ∀ x ∈ GS, RowN N x := by (rw [hGS]; exact rowsOf_row hN12)
 have hGl : GS.length ≤ 8 := by (rw [hGS, rowsOf_len]; omega)
 have hai := getD_i64 ha
 have hbi := getD_i64 hb
 have hf9 := fct_mono (show N ≤ 9 by omega)
 have hfv : fct 9 = 362880 := rfl
 refine fn_intro0 Try.func13 rfl Try.ntmps13 (Nat.le_of_ble_eq_true rfl) (fun s0 a0 hle F0 ok0 hargs => ?_)
 have p0 := pA hle (hargs 0 _ rfl) hv0
 have b1 := sl_le p0
 have p1 := pA hle (hargs 1 _ rfl) hv1
 have p2 := pA hle (hargs 2 _ rfl) hv2
 have p3 := pA hle (hargs 3 _ rfl) hv3
 have b2 := sl_le p3
 have p4 := pA hle (hargs 4 _ rfl) hv4
 have b3 := sl_le p4
 have p5 := pA hle (hargs 5 _ rfl) hv5
 clear hargs; refine wp_seq ?_
 refine gI a0 s0 ok0 (gC (Ty.bool false) (gE ok0 fun a1 s1 ok1 D1 => ?_)); have F1 := F0.step0 D1.stp; have q1 := D1.k p0; have q4 := D1.k p3; have q5 := D1.k p4; refine tn (wp_seq (wp_seq ?_))
 refine gI a1 s1 ok1 (gM q1 (gS rfl (fun A H I J O d0 => rP (y_len Try.underlying22 (eI d0))) (gM q4 (gS rfl (fun A H I J O d0 => rP (y_len Try.underlying22 (eI d0))) (gT (Ty.nat ((List.length raw) + (List.length a))) rfl (fun A H I J O d0 d1 => rP ((y_add (eI d0) (eI d1) wX).mono (fun τ _ h => cN (σ := τ) h))) (gM q5 (gS rfl (fun A H I J O d0 => rP (y_len Try.underlying22 (eI d0))) (gT (Ty.nat (((List.length raw) + (List.length a)) + (List.length b))) rfl (fun A H I J O d0 d1 => rP ((y_add (eI d0) (eI d1) wX).mono (fun τ _ h => cN (σ := τ) h))) (gS rfl (fun A H I J O d0 => rP (y_gtr (eI d0) rfl)) (gE ok1 fun a2 s2 ok2 D2 => ?_)))))))))); have F2 := F1.step0 D2.stp; refine tn ?_
 refine cond_p (p := ((400 : Int) < (((((List.length raw) + (List.length a)) + (List.length b)) : Nat) : Int))) (D2.m 8 rfl) (fun c1 => ?_) (fun c1 => ?_)
 ·
  refine wp_seq ?_
  refine gI a2 s2 ok2 (gC (Ty.bool true) (gE ok2 fun a3 s3 ok3 D3 => ?_)); refine tn (wp_ret (tr ?_))
  exact retL1 rfl ok3 (F2.step0 D3.stp) (D3.m 0 rfl)
 ·
  refine wp_skip (tn (wp_seq ?_))
  refine gI a2 s2 ok2 (gM (D2.k (D1.k p1)) (gS rfl (fun A H I J O d0 => rP (y_call #[A.eval (.tmp 42), A.eval ((Operand.const (Value.int IntKind.i64 9)))] Try.func15 rfl rfl my2 (pick_fn (n) (9) _ _ _ (cvi (σ := H) oM (ef d0 rfl)) (cvi (σ := H) oM rfl) oM oM))) (gT (Ty.nat (1 + (pick (n) (9)))) rfl (fun A H I J O d0 => rP ((y_add rfl (eI d0) wX).mono (fun τ _ h => cN (σ := τ) h))) (gB 0 (gE ok2 fun a4 s4 ok4 D4 => ?_)))))
  have q21 : At (Ty.nat N) s4 a4 (.tmp 1) := (cvi (by (rw [hN])) (D4.m 3 rfl))
  refine tn (wp_seq ?_)
  refine gI a4 s4 ok4 (gM (D4.k (D2.k q1)) (gM q21 (gM (D4.k (D2.k (D1.k p2))) (gS rfl (fun A H I J O d0 => rP (y_call #[A.eval (.tmp 47), A.eval ((Operand.const (Value.int IntKind.i64 4)))] Try.func15 rfl rfl my2 (pick_fn (many) (4) _ _ _ (cvi (σ := H) oM (ef d0 rfl)) (cvi (σ := H) oM rfl) oM oM))) (gS rfl (fun A H I J O d0 d1 d2 d3 => rP (y_call #[A.eval (.tmp 45), A.eval ((Operand.const (Value.int IntKind.i64 0))), A.eval (.tmp 46), A.eval (.tmp 48)] Try.func16 rfl rfl my4 (rRowsOf_fn (raw) (0) (N) ((pick (many) (4))) _ _ _ _ _ (eI d0) (cvi (σ := H) (by first | omega | exact wr64_bd _ | assumption) rfl) (cvi (σ := H) (by first | omega | exact wr64_bd _ | assumption) (ef d1 rfl)) (cvi (σ := H) (by first | omega | exact wr64_bd _ | assumption) (ef d2 rfl)) (by first | omega | exact wr64_bd _ | assumption) (by first | omega | exact wr64_bd _ | assumption) (by first | omega | exact wr64_bd _ | assumption)))) (gB 0 (gE ok4 fun a5 s5 ok5 D5 => ?_))))))); have q25 := D5.k q21
  have q27 : At (Ty.lst Ty.ints GS) s5 a5 (.tmp 13) := (cvt (by (rw [hGS])) (D5.m 5 rfl))
  refine tn (wp_seq ?_)
  refine gI a5 s5 ok5 (gM q25 (gM q27 (gE2 ok5 fun a6 s6 ok6 D6 => ?_)))
  refine tL ok6 (y_callL (L := []) [] [(41, 61), (42, 62), (43, 63)] _ rfl dE Try.func17 rfl rfl my2 (gMake_fn (N) (GS) _ lW _ _ (uL (cvi (σ := s6) oX (D6.m 0 rfl))) (uL (D6.m 1 rfl))  oX oX oX)) fun a7 s7 hs1 ok7 r1 sm1 => ?_
  obtain ⟨t1, ⟨g1, g2, x1, x2, x3, hT1, o1, o2, o3, hp1⟩, B1⟩ := r1
  have q40 : At (Ty.tup2 (Ty.val x1) (Ty.int (0 : Int))) s7 a7 (.tmp 53) := Ty.up _ B1.le hT1
  have o4 : OwnP s7 61 x1 [(Ty.nat (N)), (Ty.val x3), (Ty.val x2)] := OwnP.ren o1 (B1.ren dE rfl)
  have o5 : ChnU s7 62 22 108 x2 (N) (g1) (g2) := ChnU.ren o2 (B1.ren dE rfl)
  have o6 : Own s7 63 22 1 x3 (List.length (GS)) (List.map Ty.ints (GS)) := Own.ren o3 (B1.ren dE rfl)
  refine tL ok7 (Yld.toL (y_mv q40)) fun a8 s8 hs2 ok8 r2 sm2 => ?_
  have q46 : At (Ty.tup2 (Ty.val x1) (Ty.int (0 : Int))) s8 a8 (.tmp 50) := r2
  clear r2
  refine tL (R := (fun v τ => Pr.has (Ty.pr (Ty.val x1)) τ v)) ok8 (Yld.toL (y_ext2_0 q46)) fun a9 s9 hs3 ok9 r3 sm3 => ?_
  have q53 : At (Ty.val x1) s9 a9 (.tmp 54) := r3
  clear r3
  refine tL (R := (fun v τ => Pr.has (Ty.pr (Ty.int (0 : Int))) τ v)) ok9 (Yld.toL (y_ext2_1 (kq hs3 sm3 50 q46))) fun a10 s10 hs4 ok10 r4 sm4 => ?_
  have q60 : At (Ty.int (0 : Int)) s10 a10 (.tmp 55) := r4
  clear r4
  refine tL ok10 (Yld.toL (y_as (kq hs4 sm4 54 q53))) fun a11 s11 hs5 ok11 r5 sm5 => ?_
  have q67 : At (Ty.val x1) s11 a11 (.tmp 14) := r5
  clear r5
  refine tL ok11 (Yld.toL (y_as (kq hs5 sm5 55 q60))) fun a12 s12 hs6 ok12 r6 sm6 => ?_
  have q73 := kq hs6 sm6 14 q67; have o19 := OwnP.kl (OwnP.kl (OwnP.kl (OwnP.kl (OwnP.kl o4 hs2) hs3) hs4) hs5) hs6
  have q74 : At (Ty.int (0 : Int)) s12 a12 (.tmp 15) := r6
  clear r6; refine wpList_nil (tn (wp_seq (wp_seq ?_)))
  refine gI a12 s12 ok12 (gM q74 (gT (Ty.bool false) rfl (fun A H I J O d0 => rP ((y_neq (eI d0) rfl).mono (fun τ _ h => cvb (σ := τ) dE h))) (gS rfl (fun A H I J O d0 => rP (y_move (eI d0))) (gS rfl (fun A H I J O d0 => gu J (eI d0) fun hg => y_move (kp (O 14 rfl) I q73)) (gT (Ty.grd (false = false) (Ty.bool false)) rfl (fun A H I J O d0 d1 => gu J (eI d1) fun hg => y_pnil Try.underlying26 (OwnP.k0 o19 I) ((ef d0 rfl).1 hg) rfl) (gS rfl (fun A H I J O d0 d1 => rP (y_pick_or (eI d0) rfl (eI d1))) (gE ok12 fun a13 s13 ok13 D7 => ?_))))))); have o22 := OwnP.k0 o19 D7.stp; have o23 := ChnU.k0 (ChnU.kl (ChnU.kl (ChnU.kl (ChnU.kl (ChnU.kl o5 hs2) hs3) hs4) hs5) hs6) D7.stp; have o24 := Own.k0 (Own.kl (Own.kl (Own.kl (Own.kl (Own.kl o6 hs2) hs3) hs4) hs5) hs6) D7.stp; refine tn ?_
  refine cond_t (D7.m 5 rfl) (fun c2 => ?_) (fun c2 => ?_)
  ·
   exfalso
   simp at c2
  ·
   obtain ⟨d1, d2⟩ := Bool.or_eq_false_iff.mp c2
   refine wp_skip (tn (wp_seq ?_))
   refine gI a13 s13 ok13 (gC (Ty.val (Value.slice none 0 0)) (gE ok13 fun a14 s14 ok14 D8 => ?_)); have o25 := OwnP.k0 o22 D8.stp; have o26 := ChnU.k0 o23 D8.stp; have o27 := Own.k0 o24 D8.stp; refine tn (wp_seq ?_)
   refine gI a14 s14 ok14 (gC (Ty.val (Value.slice none 0 0)) (gE ok14 fun a15 s15 ok15 D9 => ?_)); have o28 := OwnP.k0 o25 D9.stp; have o29 := ChnU.k0 o26 D9.stp; have o30 := Own.k0 o27 D9.stp; refine tn (wp_seq (wp_seq ?_))
   refine gI a15 s15 ok15 (gC (Ty.int (0 : Int)) (gE ok15 fun a16 s16 ok16 D10 => ?_)); have o31 := OwnP.k0 o28 D10.stp; have o32 := ChnU.k0 o29 D10.stp; have o33 := Own.k0 o30 D10.stp; refine tn (wp_block ?_)
   have o34 : Own s16 20 3 1 (Value.slice none 0 0) 0 (List.map Ty.int ([] : List Int)) := Own.nil _ _ _ _
   refine loop (fun n1 a17 w1 => ∃ (t2 : GW) (i : Nat) (x16_0 : Value), t2.w = w1 ∧ FromL [] s0 t2 ∧ Ok 251 [] a17 ∧ At (Ty.nat i) t2 a17 (.tmp 18) ∧ At (Ty.val x16_0) t2 a17 (.tmp 16) ∧ At (Ty.lst Ty.int a) t2 a17 (.tmp 3) ∧ At (Ty.lst Ty.int b) t2 a17 (.tmp 4) ∧ At (Ty.int bell) t2 a17 (.tmp 5) ∧ At (Ty.nat N) t2 a17 (.tmp 1) ∧ At (Ty.lst Ty.ints GS) t2 a17 (.tmp 13) ∧ At (Ty.val x1) t2 a17 (.tmp 14) ∧ At (Ty.val (Value.slice none 0 0)) t2 a17 (.tmp 17) ∧ Own t2 20 3 1 x16_0 (List.length (upT a GS.length i)) (List.map Ty.int (upT a GS.length i)) ∧ OwnP t2 61 x1 [(Ty.nat (N)), (Ty.val x3), (Ty.val x2)] ∧ ChnU t2 62 22 108 x2 (N) (g1) (g2) ∧ Own t2 63 22 1 x3 (List.length (GS)) (List.map Ty.ints (GS)) ∧ (i ≤ a.length) ∧ (0 < i → 0 < GS.length) ∧ n1 = a.length - i) (a.length - (0)) ?_ ?_
   ·
    exact ⟨s16, 0, (Value.slice none 0 0), rfl, (((((((((((((F2.step0 D4.stp).step0 D5.stp).step0 D6.stp).sl hs1).sl hs2).sl hs3).sl hs4).sl hs5).sl hs6).step0 D7.stp).step0 D8.stp).step0 D9.stp).step0 D10.stp), ok16, (cJ (D10.m 0 rfl)), (D10.k (D9.k (D8.m 0 rfl))), (D10.k (D9.k (D8.k (D7.k (kq hs6 sm6 3 (kq hs5 sm5 3 (kq hs4 sm4 3 (kq hs3 sm3 3 (kq hs2 sm2 3 (kq hs1 sm1 3 (D6.k (D5.k (D4.k (D2.k q4)))))))))))))), (D10.k (D9.k (D8.k (D7.k (kq hs6 sm6 4 (kq hs5 sm5 4 (kq hs4 sm4 4 (kq hs3 sm3 4 (kq hs2 sm2 4 (kq hs1 sm1 4 (D6.k (D5.k (D4.k (D2.k q5)))))))))))))), (D10.k (D9.k (D8.k (D7.k (kq hs6 sm6 5 (kq hs5 sm5 5 (kq hs4 sm4 5 (kq hs3 sm3 5 (kq hs2 sm2 5 (kq hs1 sm1 5 (D6.k (D5.k (D4.k (D2.k (D1.k p5))))))))))))))), (D10.k (D9.k (D8.k (D7.k (kq hs6 sm6 1 (kq hs5 sm5 1 (kq hs4 sm4 1 (kq hs3 sm3 1 (kq hs2 sm2 1 (kq hs1 sm1 1 (D6.k q25))))))))))), (D10.k (D9.k (D8.k (D7.k (kq hs6 sm6 13 (kq hs5 sm5 13 (kq hs4 sm4 13 (kq hs3 sm3 13 (kq hs2 sm2 13 (kq hs1 sm1 13 (D6.k q27))))))))))), (D10.k (D9.k (D8.k (D7.k q73)))), (D10.k (D9.m 0 rfl)), (cvo (by (first | rfl | simp [upT])) (by (first | rfl | simp [upT])) o34), o31, o32, o33, by omega, by omega, rfl⟩
   ·
    rintro n2 a18 w2 ⟨t3, i, x16_0, rfl, F17, ok17, q106, q107, q108, q109, q110, q111, q112, q113, q114, o35, o36, o37, o38, hi, hg0, rfl⟩
    have hul := upT_len (a := a) (g := GS.length) (i := i)
    refine wp_seq (wp_seq ?_)
    refine gI a18 t3 ok17 (gM q106 (gM q108 (gS rfl (fun A H I J O d0 => rP (y_len Try.underlying22 (eI d0))) (gS rfl (fun A H I J O d0 d1 => rP (y_lss (eI d0) (eI d1))) (gS rfl (fun A H I J O d0 => rP (y_move (eI d0))) (gS rfl (fun A H I J O d0 => gu J (eI d0) fun hg => y_move (kp (O 13 rfl) I q112)) (gS rfl (fun A H I J O d0 d1 => gu J (eI d1) fun hg => y_len Try.underlying24 ((ef d0 rfl).1 hg)) (gS rfl (fun A H I J O d0 d1 => gu J (eI d1) fun hg => y_gtr ((ef d0 rfl).1 hg) rfl) (gS rfl (fun A H I J O d0 d1 => rP (y_pick_and (eI d0) (eI d1) rfl)) (gE ok17 fun a19 s17 ok18 D11 => ?_)))))))))); have F18 := F17.step0 D11.stp; have q115 := D11.k q106; have q116 := D11.k q107; have q117 := D11.k q108; have q118 := D11.k q109; have q119 := D11.k q110; have q120 := D11.k q111; have q121 := D11.k q112; have q122 := D11.k q113; have q123 := D11.k q114; have o39 := Own.k0 o35 D11.stp; have o40 := OwnP.k0 o36 D11.stp; have o41 := ChnU.k0 o37 D11.stp; have o42 := Own.k0 o38 D11.stp; refine tn ?_
    refine cond_t (D11.m 8 rfl) (fun c3 => ?_) (fun c3 => ?_)
    ·
     obtain ⟨d3, d4⟩ := Bool.and_eq_true_iff.mp c3
     replace d3 := of_decide_eq_true d3
     replace d4 := of_decide_eq_true d4
     simp only [Bool.and_eq_true, decide_eq_true_eq] at c3; have hpl := pick_lt (a.getD i 0) (n := GS.length) oM; have hai2 := hai i
     refine wp_skip (tn (wp_seq (wp_block ?_)))
     refine gI a19 s17 ok18 (gM q116 (gM q117 (gM q115 (gT (Ty.ref [(Ty.int (a.getD i 0))]) rfl (fun A H I J O d0 d1 => rP (y_index1 Try.underlying22 Try.inf3 (eI d0) (eI d1) oM (lst_get Ty.int a 0 i oM))) (gS rfl (fun A H I J O d0 => rP (y_load Try.underlying3 rfl (eI d0) rfl)) (gM q121 (gS rfl (fun A H I J O d0 => rP (y_len Try.underlying24 (eI d0))) (gS rfl (fun A H I J O d0 d1 => rP (y_call _ Try.func15 rfl rfl my2 (pick_fn ((a.getD i 0)) ((List.length GS)) _ _ _ (cvi (σ := H) oM (ef d0 rfl)) (cvi (σ := H) oM (ef d1 rfl)) oM oM))) (gT (Ty.nat (1 + (pick ((a.getD i 0)) ((List.length GS))))) rfl (fun A H I J O d0 => rP ((y_add rfl (eI d0) wX).mono (fun τ _ h => cN (σ := τ) h))) (gT (Ty.sl 1 1 [(Ty.nat (1 + (pick ((a.getD i 0)) ((List.length GS)))))]) rfl (fun A H I J O d0 => rP (y_build1o Try.underlying22 Try.inf3 rfl (one_val rfl) (eI d0))) (gE2 ok18 fun a20 s18 ok19 D12 => ?_))))))))))); have o43 := Own.k0 o39 D12.stp; have o44 := OwnP.k0 o40 D12.stp; have o45 := ChnU.k0 o41 D12.stp; have o46 := Own.k0 o42 D12.stp
     have q134 : At (Ty.val x16_0) s18 a20 (.tmp 73) := D12.done 0 dE
     have q135 := D12.m 9 rfl
     have b4 := sl_le q135
     refine tL ok19 (YldM.toL (m_append Try.underlying22 Try.inf3 dE rfl dE (al (R := (Pr.own 20 3 1 (List.length (upT a GS.length i)) (List.map Ty.int (upT a GS.length i)))) q134 o43) q135 (by intro U hU; simp at hU; subst hU; exact one_val rfl) oM oM)) fun a21 s19 hs7 ok20 r7 sm7 => ?_
     have q137 := kq hs7 sm7 16 (D12.k q116)
     obtain ⟨x4, hx1⟩ : ∃ x, a21.eval (.tmp 83) = x := ⟨_, rfl⟩
     have q145 : At (Ty.val x4) s19 a21 (.tmp 83) := hx1
     have o47 := al2 (R := (Pr.own 20 3 1 (List.length ((upT a GS.length i) ++ [(((1 + (pick ((a.getD i 0)) ((List.length GS)))) : Nat) : Int)])) (List.map Ty.int ((upT a GS.length i) ++ [(((1 + (pick ((a.getD i 0)) ((List.length GS)))) : Nat) : Int)])))) hx1 (cvo (by simp) (by first | (rw [List.map_append]; rfl) | simp) r7)
     clear r7
     refine tL ok20 (Yld.toL (y_as q145)) fun a22 s20 hs8 ok21 r8 sm8 => ?_
     have q154 : At (Ty.val x4) s20 a22 (.tmp 16) := r8
     clear r8; refine wpList_nil (bn (tn ?_))
     refine gI a22 s20 ok21 (gM (kq hs8 sm8 18 (kq hs7 sm7 18 (D12.k q115))) (gT (Ty.nat (i + 1)) rfl (fun A H I J O d0 => rP ((y_add (eI d0) rfl wX).mono (fun τ _ h => cN (σ := τ) h))) (gB 0 (gE ok21 fun a23 s21 ok22 D13 => ?_)))); have o55 := OwnP.k0 (OwnP.kl (OwnP.kl o44 hs7) hs8) D13.stp; have o56 := ChnU.k0 (ChnU.kl (ChnU.kl o45 hs7) hs8) D13.stp; have o57 := Own.k0 (Own.kl (Own.kl o46 hs7) hs8) D13.stp; have o58 := Own.k0 (Own.kl o47 hs8) D13.stp
     exact tn ⟨a.length - ((i+1)), by omega, s21, (i+1), x4, rfl, ((((F18.step0 D12.stp).sl hs7).sl hs8).step0 D13.stp), ok22, (cJ (D13.m 2 rfl)), (D13.k q154), (D13.k (kq hs8 sm8 3 (kq hs7 sm7 3 (D12.k q117)))), (D13.k (kq hs8 sm8 4 (kq hs7 sm7 4 (D12.k q118)))), (D13.k (kq hs8 sm8 5 (kq hs7 sm7 5 (D12.k q119)))), (D13.k (kq hs8 sm8 1 (kq hs7 sm7 1 (D12.k q120)))), (D13.k (kq hs8 sm8 13 (kq hs7 sm7 13 (D12.k q121)))), (D13.k (kq hs8 sm8 14 (kq hs7 sm7 14 (D12.k q122)))), (D13.k (kq hs8 sm8 17 (kq hs7 sm7 17 (D12.k q123)))), (cvo (by (first | rfl | (rw [upT_succ oM]; done) | (rw [upT_succ oM]; rfl))) (by (first | rfl | (rw [upT_succ oM]; done) | (rw [upT_succ oM]; rfl))) o58), o55, o56, o57, by omega, fun _ => by omega, rfl⟩
    ·
     refine wp_exit (tx (tx (bx (tn (wp_seq (wp_seq ?_))))))
     refine gI a19 s17 ok18 (gC (Ty.int (0 : Int)) (gE ok18 fun a24 s22 ok23 D14 => ?_)); have o59 := Own.k0 o39 D14.stp; have o60 := OwnP.k0 o40 D14.stp; have o61 := ChnU.k0 o41 D14.stp; have o62 := Own.k0 o42 D14.stp; refine tn (wp_block ?_)
     have o63 : Own s22 21 3 1 (Value.slice none 0 0) 0 (List.map Ty.int ([] : List Int)) := Own.nil _ _ _ _
     refine loop (fun n3 a25 w3 => ∃ (t4 : GW) (j : Nat) (x17_1 : Value), t4.w = w3 ∧ FromL [] s0 t4 ∧ Ok 251 [] a25 ∧ At (Ty.nat j) t4 a25 (.tmp 19) ∧ At (Ty.val x17_1) t4 a25 (.tmp 17) ∧ At (Ty.val x16_0) t4 a25 (.tmp 16) ∧ At (Ty.lst Ty.int b) t4 a25 (.tmp 4) ∧ At (Ty.int bell) t4 a25 (.tmp 5) ∧ At (Ty.nat N) t4 a25 (.tmp 1) ∧ At (Ty.lst Ty.ints GS) t4 a25 (.tmp 13) ∧ At (Ty.val x1) t4 a25 (.tmp 14) ∧ Own t4 21 3 1 x17_1 (List.length (dnT b GS.length j)) (List.map Ty.int (dnT b GS.length j)) ∧ Own t4 20 3 1 x16_0 (List.length (upT a GS.length i)) (List.map Ty.int (upT a GS.length i)) ∧ OwnP t4 61 x1 [(Ty.nat (N)), (Ty.val x3), (Ty.val x2)] ∧ ChnU t4 62 22 108 x2 (N) (g1) (g2) ∧ Own t4 63 22 1 x3 (List.length (GS)) (List.map Ty.ints (GS)) ∧ (j ≤ b.length) ∧ (0 < j → 0 < GS.length) ∧ n3 = b.length - j) (b.length - (0)) ?_ ?_
     ·
      exact ⟨s22, 0, (Value.slice none 0 0), rfl, (F18.step0 D14.stp), ok23, (cJ (D14.m 0 rfl)), (D14.k q123), (D14.k q116), (D14.k q118), (D14.k q119), (D14.k q120), (D14.k q121), (D14.k q122), (cvo (by (first | rfl | simp [dnT])) (by (first | rfl | simp [dnT])) o63), o59, o60, o61, o62, by omega, by omega, rfl⟩
     ·
      rintro n4 a26 w4 ⟨t5, j, x17_1, rfl, F24, ok24, q172, q173, q174, q175, q176, q177, q178, q179, o64, o65, o66, o67, o68, hj, hg1, rfl⟩
      have hdl := dnT_len (a := b) (g := GS.length) (i := j)
      refine wp_seq (wp_seq ?_)
      refine gI a26 t5 ok24 (gM q172 (gM q175 (gS rfl (fun A H I J O d0 => rP (y_len Try.underlying22 (eI d0))) (gS rfl (fun A H I J O d0 d1 => rP (y_lss (eI d0) (eI d1))) (gS rfl (fun A H I J O d0 => rP (y_move (eI d0))) (gS rfl (fun A H I J O d0 => gu J (eI d0) fun hg => y_move (kp (O 13 rfl) I q178)) (gS rfl (fun A H I J O d0 d1 => gu J (eI d1) fun hg => y_len Try.underlying24 ((ef d0 rfl).1 hg)) (gS rfl (fun A H I J O d0 d1 => gu J (eI d1) fun hg => y_gtr ((ef d0 rfl).1 hg) rfl) (gS rfl (fun A H I J O d0 d1 => rP (y_pick_and (eI d0) (eI d1) rfl)) (gE ok24 fun a27 s23 ok25 D15 => ?_)))))))))); have F25 := F24.step0 D15.stp; have q180 := D15.k q172; have q181 := D15.k q173; have q182 := D15.k q174; have q183 := D15.k q175; have q184 := D15.k q176; have q185 := D15.k q177; have q186 := D15.k q178; have q187 := D15.k q179; have o69 := Own.k0 o64 D15.stp; have o70 := Own.k0 o65 D15.stp; have o71 := OwnP.k0 o66 D15.stp; have o72 := ChnU.k0 o67 D15.stp; have o73 := Own.k0 o68 D15.stp; have q188 := D15.m 8 rfl; refine tn ?_
      refine cond_t q188 (fun c4 => ?_) (fun c4 => ?_)
      ·
       obtain ⟨d5, d6⟩ := Bool.and_eq_true_iff.mp c4
       replace d5 := of_decide_eq_true d5
       replace d6 := of_decide_eq_true d6
       simp only [Bool.and_eq_true, decide_eq_true_eq] at c4; have hpl2 := pick_lt (b.getD j 0) (n := GS.length) oM; have hbi2 := hbi j
       refine wp_skip (tn (wp_seq (wp_block ?_)))
       refine gI a27 s23 ok25 (gM q181 (gM q183 (gM q180 (gT (Ty.ref [(Ty.int (b.getD j 0))]) rfl (fun A H I J O d0 d1 => rP (y_index1 Try.underlying22 Try.inf3 (eI d0) (eI d1) oM (lst_get Ty.int b 0 j oM))) (gS rfl (fun A H I J O d0 => rP (y_load Try.underlying3 rfl (eI d0) rfl)) (gM q186 (gS rfl (fun A H I J O d0 => rP (y_len Try.underlying24 (eI d0))) (gS rfl (fun A H I J O d0 d1 => rP (y_call _ Try.func15 rfl rfl my2 (pick_fn ((b.getD j 0)) ((List.length GS)) _ _ _ (cvi (σ := H) oM (ef d0 rfl)) (cvi (σ := H) oM (ef d1 rfl)) oM oM))) (gT (Ty.int ((-1 : Int) - (((pick ((b.getD j 0)) ((List.length GS))) : Nat) : Int))) rfl (fun A H I J O d0 => rP (y_sub rfl (eI d0) wX)) (gT (Ty.sl 1 1 [(Ty.int ((-1 : Int) - (((pick ((b.getD j 0)) ((List.length GS))) : Nat) : Int)))]) rfl (fun A H I J O d0 => rP (y_build1o Try.underlying22 Try.inf3 rfl (one_val rfl) (eI d0))) (gE2 ok25 fun a28 s24 ok26 D16 => ?_))))))))))); have o74 := Own.k0 o69 D16.stp; have o75 := Own.k0 o70 D16.stp; have o76 := OwnP.k0 o71 D16.stp; have o77 := ChnU.k0 o72 D16.stp; have o78 := Own.k0 o73 D16.stp
       have q197 : At (Ty.val x17_1) s24 a28 (.tmp 95) := D16.done 0 dE
       have q198 := D16.m 9 rfl
       have b5 := sl_le q198
       refine tL ok26 (YldM.toL (m_append Try.underlying22 Try.inf3 dE rfl dE (al (R := (Pr.own 21 3 1 (List.length (dnT b GS.length j)) (List.map Ty.int (dnT b GS.length j)))) q197 o74) q198 (by intro U hU; simp at hU; subst hU; exact one_val rfl) oM oM)) fun a29 s25 hs9 ok27 r9 sm9 => ?_
       have q200 := kq hs9 sm9 17 (D16.k q181)
       obtain ⟨x5, hx2⟩ : ∃ x, a29.eval (.tmp 105) = x := ⟨_, rfl⟩
       have q207 : At (Ty.val x5) s25 a29 (.tmp 105) := hx2
       have o79 := al2 (R := (Pr.own 21 3 1 (List.length ((dnT b GS.length j) ++ [((-1 : Int) - (((pick ((b.getD j 0)) ((List.length GS))) : Nat) : Int))])) (List.map Ty.int ((dnT b GS.length j) ++ [((-1 : Int) - (((pick ((b.getD j 0)) ((List.length GS))) : Nat) : Int))])))) hx2 (cvo (by simp) (by first | (rw [List.map_append]; rfl) | simp) r9)
       clear r9
       refine tL ok27 (Yld.toL (y_as q207)) fun a30 s26 hs10 ok28 r10 sm10 => ?_
       have q215 : At (Ty.val x5) s26 a30 (.tmp 17) := r10
       clear r10; refine wpList_nil (bn (tn ?_))
       refine gI a30 s26 ok28 (gM (kq hs10 sm10 19 (kq hs9 sm9 19 (D16.k q180))) (gT (Ty.nat (j + 1)) rfl (fun A H I J O d0 => rP ((y_add (eI d0) rfl wX).mono (fun τ _ h => cN (σ := τ) h))) (gB 0 (gE ok28 fun a31 s27 ok29 D17 => ?_)))); have o89 := Own.k0 (Own.kl (Own.kl o75 hs9) hs10) D17.stp; have o90 := OwnP.k0 (OwnP.kl (OwnP.kl o76 hs9) hs10) D17.stp; have o91 := ChnU.k0 (ChnU.kl (ChnU.kl o77 hs9) hs10) D17.stp; have o92 := Own.k0 (Own.kl (Own.kl o78 hs9) hs10) D17.stp; have o93 := Own.k0 (Own.kl o79 hs10) D17.stp
       exact tn ⟨b.length - ((j+1)), by omega, s27, (j+1), x5, rfl, ((((F25.step0 D16.stp).sl hs9).sl hs10).step0 D17.stp), ok29, (cJ (D17.m 2 rfl)), (D17.k q215), (D17.k (kq hs10 sm10 16 (kq hs9 sm9 16 (D16.k q182)))), (D17.k (kq hs10 sm10 4 (kq hs9 sm9 4 (D16.k q183)))), (D17.k (kq hs10 sm10 5 (kq hs9 sm9 5 (D16.k q184)))), (D17.k (kq hs10 sm10 1 (kq hs9 sm9 1 (D16.k q185)))), (D17.k (kq hs10 sm10 13 (kq hs9 sm9 13 (D16.k q186)))), (D17.k (kq hs10 sm10 14 (kq hs9 sm9 14 (D16.k q187)))), (cvo (by (first | rfl | (rw [dnT_succ oM]; done) | (rw [dnT_succ oM]; rfl))) (by (first | rfl | (rw [dnT_succ oM]; done) | (rw [dnT_succ oM]; rfl))) o93), o89, o90, o91, o92, by omega, fun _ => by omega, rfl⟩
      ·
       refine wp_exit (tx (tx (bx (tn (wp_seq ?_)))))
       have hbU := upT_ok (a := a) (G := GS) (i := i) hg0
       have hUl := upT_len (a := a) (g := GS.length) (i := i)
       obtain ⟨hE1, hR1⟩ := say_0 (n := N) (G := GS) (w := (upT a GS.length i)) oM hbU
       obtain ⟨X, hX⟩ : ∃ X, X = (sayT N GS (upT a GS.length i) ((upT a GS.length i)).length) := ⟨_, rfl⟩
       rw [← hX] at hR1
       have hXr : RowN N X := (hX ▸ say_row hN12 hGr hbU)
       have hXc : Cl N (fun y => y ∈ GS) X := (hX ▸ say_cl hN12 hGr hbU)
       have hXw : WordP N GS (upT a GS.length i) X := ⟨hbU, hX.symm⟩
       obtain ⟨t6, e1, h1, q224⟩ := Own.seal o70 dE
       rw [← e1]
       have F30 := F25.step h1 dE; have o94 := Own.keepL o69 (h1.toL (L := [20]) (by simp)) dE dE; have o95 := OwnP.keepL o71 (h1.toL (L := [20]) (by simp)) dE dE; have o96 := ChnU.keepL o72 (h1.toL (L := [20]) (by simp)) dE dE; have o97 := Own.keepL o73 (h1.toL (L := [20]) (by simp)) dE dE; have q225 := Ty.up (Ty.nat j) (h1.le dE) q180; have q226 := Ty.up (Ty.val x17_1) (h1.le dE) q181
       have q227 : At (Ty.lst Ty.int (upT a GS.length i)) t6 a27 (.tmp 16) := by have e : a27.eval (.tmp 16) = x16_0 := q182; show Ty.has _ _ _; rw [e]; exact q224
       have q228 := Ty.up (Ty.lst Ty.int b) (h1.le dE) q183; have q229 := Ty.up (Ty.int bell) (h1.le dE) q184; have q230 := Ty.up (Ty.nat N) (h1.le dE) q185; have q231 := Ty.up (Ty.lst Ty.ints GS) (h1.le dE) q186; have q232 := Ty.up (Ty.val x1) (h1.le dE) q187; have q233 := Ty.up (Ty.bool ((decide (((j : Nat) : Int) < (((List.length b) : Nat) : Int))) && (decide ((0 : Int) < (((List.length GS) : Nat) : Int))))) (h1.le dE) q188
       refine gI a27 t6 ok25 (gM q232 (gM q227 (gE2 ok25 fun a32 s28 ok30 D18 => ?_))); have o98 := Own.k0 o94 D18.stp; have o99 := OwnP.k0 o95 D18.stp; have o100 := ChnU.k0 o96 D18.stp; have o101 := Own.k0 o97 D18.stp
       have q239 : At (Ty.val x1) s28 a32 (.tmp 107) := D18.done 0 dE
       refine tL ok30 (y_callL (L := [41, 43]) [(61, 41), (63, 43)] [(41, 61), (43, 63)] #[a32.eval (.tmp 107), a32.eval (.tmp 108)] rfl dE Try.func44 rfl rfl my2 (gSay_fn (x1) (x3) (x2) ((N)) ((GS)) ((upT a GS.length i)) _ lW _ _ (uL q239) (uL (D18.m 1 rfl)) (OwnP.ren (ownp_cell 0 (Ty.nat ((N))) o99 rfl (fun _ _ h => (cJ h))) (GW.ren_lend _ _ dE rfl)) (Own.ren (cvo (by (simp)) (by (simp)) o101) (GW.ren_lend _ _ dE rfl)) oX oX oX)) fun a33 s29 hs11 ok31 r11 sm11 => ?_
       obtain ⟨t7, ⟨hT2, o102, o103⟩, B2⟩ := r11
       have q246 : At (Ty.tup2 (Ty.lst Ty.int (sayR ((N)) ((GS)) ((upT a GS.length i)))) (Ty.int (sayE ((GS)) ((upT a GS.length i))))) s29 a33 (.tmp 109) := Ty.up _ B2.le hT2
       have o104 : OwnP s29 61 x1 [(Ty.nat ((N))), (Ty.val x3), (Ty.val x2)] := OwnP.ren o102 (B2.ren dE rfl)
       have o105 : Own s29 63 22 1 x3 (List.length ((GS))) (List.map Ty.ints ((GS))) := Own.ren o103 (B2.ren dE rfl)
       refine tL ok31 (Yld.toL (y_mv q246)) fun a34 s30 hs12 ok32 r12 sm12 => ?_
       have q252 : At (Ty.tup2 (Ty.lst Ty.int (sayR ((N)) ((GS)) ((upT a GS.length i)))) (Ty.int (sayE ((GS)) ((upT a GS.length i))))) s30 a34 (.tmp 106) := r12
       clear r12
       refine tL (R := (fun v τ => Pr.has (Ty.pr (Ty.lst Ty.int (sayR ((N)) ((GS)) ((upT a GS.length i))))) τ v)) ok32 (Yld.toL (y_ext2_0 q252)) fun a35 s31 hs13 ok33 r13 sm13 => ?_
       have q259 : At (Ty.lst Ty.int (sayR ((N)) ((GS)) ((upT a GS.length i)))) s31 a35 (.tmp 110) := r13
       clear r13
       refine tL (R := (fun v τ => Pr.has (Ty.pr (Ty.int (sayE ((GS)) ((upT a GS.length i))))) τ v)) ok33 (Yld.toL (y_ext2_1 (kq hs13 sm13 106 q252))) fun a36 s32 hs14 ok34 r14 sm14 => ?_
       have q266 : At (Ty.int (sayE ((GS)) ((upT a GS.length i)))) s32 a36 (.tmp 111) := r14
       clear r14
       refine tL ok34 (Yld.toL (y_as (kq hs14 sm14 110 q259))) fun a37 s33 hs15 ok35 r15 sm15 => ?_
       have q273 : At (Ty.lst Ty.int (sayR ((N)) ((GS)) ((upT a GS.length i)))) s33 a37 (.tmp 20) := r15
       clear r15
       refine tL ok35 (Yld.toL (y_as (kq hs15 sm15 111 q266))) fun a38 s34 hs16 ok36 r16 sm16 => ?_
       have q280 : At (Ty.int (sayE ((GS)) ((upT a GS.length i)))) s34 a38 (.tmp 15) := r16
       clear r16; refine wpList_nil ?_
       have q281 : At (Ty.lst Ty.int X) s34 a38 (.tmp 20) := (cvt (by (rw [hR1])) (kq hs16 sm16 20 q273))
       have q282 : At (Ty.int (0 : Int)) s34 a38 (.tmp 15) := (cvi (by (rw [hE1])) q280)
       refine tn (wp_seq ?_)
       have hbD := dnT_ok (a := b) (G := GS) (i := j) hg1
       have hDl := dnT_len (a := b) (g := GS.length) (i := j)
       obtain ⟨hE2, hR2⟩ := say_0 (n := N) (G := GS) (w := (dnT b GS.length j)) oM hbD
       obtain ⟨Y, hY⟩ : ∃ Y, Y = (sayT N GS (dnT b GS.length j) ((dnT b GS.length j)).length) := ⟨_, rfl⟩
       rw [← hY] at hR2
       have hYr : RowN N Y := (hY ▸ say_row hN12 hGr hbD)
       have hYc : Cl N (fun y => y ∈ GS) Y := (hY ▸ say_cl hN12 hGr hbD)
       obtain ⟨t8, e2, h2, q283⟩ := Own.seal (Own.kl (Own.kl (Own.kl (Own.kl (Own.kl (Own.kl o98 hs11) hs12) hs13) hs14) hs15) hs16) dE
       rw [← e2]
       have F38 := (((((((F30.step0 D18.stp).sl hs11).sl hs12).sl hs13).sl hs14).sl hs15).sl hs16).step h2 dE; have o128 := ChnU.keepL (ChnU.kl (ChnU.kl (ChnU.kl (ChnU.kl (ChnU.kl (ChnU.kl o100 hs11) hs12) hs13) hs14) hs15) hs16) (h2.toL (L := [21]) (by simp)) dE dE; have o129 := OwnP.keepL (OwnP.kl (OwnP.kl (OwnP.kl (OwnP.kl (OwnP.kl o104 hs12) hs13) hs14) hs15) hs16) (h2.toL (L := [21]) (by simp)) dE dE; have o130 := Own.keepL (Own.kl (Own.kl (Own.kl (Own.kl (Own.kl o105 hs12) hs13) hs14) hs15) hs16) (h2.toL (L := [21]) (by simp)) dE dE
       have q284 : At (Ty.lst Ty.int (dnT b GS.length j)) t8 a38 (.tmp 17) := by have e : a38.eval (.tmp 17) = x17_1 := (kq hs16 sm16 17 (kq hs15 sm15 17 (kq hs14 sm14 17 (kq hs13 sm13 17 (kq hs12 sm12 17 (kq hs11 sm11 17 (D18.k q226))))))); show Ty.has _ _ _; rw [e]; exact q283
       have q285 := Ty.up (Ty.lst Ty.int (upT a GS.length i)) (h2.le dE) (kq hs16 sm16 16 (kq hs15 sm15 16 (kq hs14 sm14 16 (kq hs13 sm13 16 (kq hs12 sm12 16 (kq hs11 sm11 16 (D18.k q227))))))); have q286 := Ty.up (Ty.int bell) (h2.le dE) (kq hs16 sm16 5 (kq hs15 sm15 5 (kq hs14 sm14 5 (kq hs13 sm13 5 (kq hs12 sm12 5 (kq hs11 sm11 5 (D18.k q229))))))); have q287 := Ty.up (Ty.nat N) (h2.le dE) (kq hs16 sm16 1 (kq hs15 sm15 1 (kq hs14 sm14 1 (kq hs13 sm13 1 (kq hs12 sm12 1 (kq hs11 sm11 1 (D18.k q230))))))); have q288 := Ty.up (Ty.val x1) (h2.le dE) (kq hs16 sm16 14 (kq hs15 sm15 14 (kq hs14 sm14 14 (kq hs13 sm13 14 (kq hs12 sm12 14 (kq hs11 sm11 14 (D18.k q232))))))); have q289 := Ty.up (Ty.lst Ty.int X) (h2.le dE) q281; have q290 := Ty.up (Ty.int (0 : Int)) (h2.le dE) q282
       refine gI a38 t8 ok36 (gM q288 (gM q284 (gE2 ok36 fun a39 s35 ok37 D19 => ?_))); have o131 := ChnU.k0 o128 D19.stp; have o132 := OwnP.k0 o129 D19.stp; have o133 := Own.k0 o130 D19.stp
       have q297 : At (Ty.val x1) s35 a39 (.tmp 113) := D19.done 0 dE
       refine tL ok37 (y_callL (L := [41, 43]) [(61, 41), (63, 43)] [(41, 61), (43, 63)] #[a39.eval (.tmp 113), a39.eval (.tmp 114)] rfl dE Try.func44 rfl rfl my2 (gSay_fn (x1) (x3) (x2) (((N))) (((GS))) ((dnT b GS.length j)) _ lW _ _ (uL q297) (uL (D19.m 1 rfl)) (OwnP.ren (ownp_cell 0 (Ty.nat (((N)))) o132 rfl (fun _ _ h => (cJ h))) (GW.ren_lend _ _ dE rfl)) (Own.ren (cvo (by (simp)) (by (simp)) o133) (GW.ren_lend _ _ dE rfl)) oX oX oX)) fun a40 s36 hs17 ok38 r17 sm17 => ?_
       obtain ⟨t9, ⟨hT3, o134, o135⟩, B3⟩ := r17
       have q305 : At (Ty.tup2 (Ty.lst Ty.int (sayR (((N))) (((GS))) ((dnT b GS.length j)))) (Ty.int (sayE (((GS))) ((dnT b GS.length j))))) s36 a40 (.tmp 115) := Ty.up _ B3.le hT3
       have o136 : OwnP s36 61 x1 [(Ty.nat (((N)))), (Ty.val x3), (Ty.val x2)] := OwnP.ren o134 (B3.ren dE rfl)
       have o137 : Own s36 63 22 1 x3 (List.length (((GS)))) (List.map Ty.ints (((GS)))) := Own.ren o135 (B3.ren dE rfl)
       refine tL ok38 (Yld.toL (y_mv q305)) fun a41 s37 hs18 ok39 r18 sm18 => ?_
       have q312 : At (Ty.tup2 (Ty.lst Ty.int (sayR (((N))) (((GS))) ((dnT b GS.length j)))) (Ty.int (sayE (((GS))) ((dnT b GS.length j))))) s37 a41 (.tmp 112) := r18
       clear r18
       refine tL (R := (fun v τ => Pr.has (Ty.pr (Ty.lst Ty.int (sayR (((N))) (((GS))) ((dnT b GS.length j))))) τ v)) ok39 (Yld.toL (y_ext2_0 q312)) fun a42 s38 hs19 ok40 r19 sm19 => ?_
       have q320 : At (Ty.lst Ty.int (sayR (((N))) (((GS))) ((dnT b GS.length j)))) s38 a42 (.tmp 116) := r19
       clear r19
       refine tL (R := (fun v τ => Pr.has (Ty.pr (Ty.int (sayE (((GS))) ((dnT b GS.length j))))) τ v)) ok40 (Yld.toL (y_ext2_1 (kq hs19 sm19 112 q312))) fun a43 s39 hs20 ok41 r20 sm20 => ?_
       have q328 : At (Ty.int (sayE (((GS))) ((dnT b GS.length j)))) s39 a43 (.tmp 117) := r20
       clear r20
       refine tL ok41 (Yld.toL (y_as (kq hs20 sm20 116 q320))) fun a44 s40 hs21 ok42 r21 sm21 => ?_
       have q336 : At (Ty.lst Ty.int (sayR (((N))) (((GS))) ((dnT b GS.length j)))) s40 a44 (.tmp 21) := r21
       clear r21
       refine tL ok42 (Yld.toL (y_as (kq hs21 sm21 117 q328))) fun a45 s41 hs22 ok43 r22 sm22 => ?_
       have q344 : At (Ty.int (sayE (((GS))) ((dnT b GS.length j)))) s41 a45 (.tmp 22) := r22
       clear r22; refine wpList_nil ?_
       have q345 : At (Ty.lst Ty.int Y) s41 a45 (.tmp 21) := (cvt (by (rw [hR2])) (kq hs22 sm22 21 q336))
       have q346 : At (Ty.int (0 : Int)) s41 a45 (.tmp 22) := (cvi (by (rw [hE2])) q344)
       refine tn (wp_seq (wp_seq ?_))
       refine gI a45 s41 ok43 (gM (kq hs22 sm22 15 (kq hs21 sm21 15 (kq hs20 sm20 15 (kq hs19 sm19 15 (kq hs18 sm18 15 (kq hs17 sm17 15 (D19.k q290))))))) (gT (Ty.bool false) rfl (fun A H I J O d0 => rP ((y_neq (eI d0) rfl).mono (fun τ _ h => cvb (σ := τ) dE h))) (gS rfl (fun A H I J O d0 => rP (y_move (eI d0))) (gS rfl (fun A H I J O d0 => gu J (eI d0) fun hg => y_move (kp (O 22 rfl) I q346)) (gT (Ty.grd (false = false) (Ty.bool false)) rfl (fun A H I J O d0 d1 => gu J (eI d1) fun hg => (y_neq ((ef d0 rfl).1 hg) rfl).mono (fun τ _ h => cvb (σ := τ) dE h)) (gS rfl (fun A H I J O d0 d1 => rP (y_pick_or (eI d0) rfl (eI d1))) (gE ok43 fun a46 s42 ok44 D20 => ?_))))))); have q350 := D20.k (kq hs22 sm22 14 (kq hs21 sm21 14 (kq hs20 sm20 14 (kq hs19 sm19 14 (kq hs18 sm18 14 (kq hs17 sm17 14 (D19.k q288))))))); have q351 := D20.k (kq hs22 sm22 20 (kq hs21 sm21 20 (kq hs20 sm20 20 (kq hs19 sm19 20 (kq hs18 sm18 20 (kq hs17 sm17 20 (D19.k q289))))))); have o154 := ChnU.k0 (ChnU.kl (ChnU.kl (ChnU.kl (ChnU.kl (ChnU.kl (ChnU.kl o131 hs17) hs18) hs19) hs20) hs21) hs22) D20.stp; have o155 := OwnP.k0 (OwnP.kl (OwnP.kl (OwnP.kl (OwnP.kl (OwnP.kl o136 hs18) hs19) hs20) hs21) hs22) D20.stp; have o156 := Own.k0 (Own.kl (Own.kl (Own.kl (Own.kl (Own.kl o137 hs18) hs19) hs20) hs21) hs22) D20.stp; refine tn ?_
       refine cond_t (D20.m 5 rfl) (fun c5 => ?_) (fun c5 => ?_)
       ·
        exfalso
        simp at c5
       ·
        obtain ⟨d7, d8⟩ := Bool.or_eq_false_iff.mp c5
        refine wp_skip (tn (wp_seq ?_))
        have hYu := hYr.undo
        have hXl := hXr.len
        have hYb := hYu.bds hXl
        have hYl := hYu.len
        have hXrr := hXr.row
        have hYrr := hYr.row
        have hYll := hYr.len
        have hZr := hXr.by hYu
        have hZrr := hZr.row
        have hZl := hZr.len
        have hfit := fits_ok.2 hZr
        have hZc := hXc.prod hN12 hGr (hYc.undo hN12 hGr)
        have hhas := (hasB_iff hp1 hGr hZr).2 hZc
        have hw1 := hp1.wc
        refine gI a46 s42 ok44 (gM q350 (gM q351 (gM (D20.k q345) (gS rfl (fun A H I J O d0 => rP (y_call _ Try.func23 rfl rfl my1 (rUndo_fn (Y) _ _ (eI d0) (by assumption)))) (gS rfl (fun A H I J O d0 d1 d2 => rP (y_call _ Try.func22 rfl rfl my2 (rBy_fn (X) ((undoL (Y))) _ _ _ (eI d0) (eI d1) (by first | assumption | omega) (by first | assumption | omega)))) (gE2 ok44 fun a47 s43 ok45 D21 => ?_)))))); have o157 := ChnU.k0 o154 D21.stp; have o158 := OwnP.k0 o155 D21.stp; have o159 := Own.k0 o156 D21.stp
        have q359 : At (Ty.val x1) s43 a47 (.tmp 125) := D21.done 0 dE
        have q360 := D21.m 4 rfl
        have b6 := sl_le q360
        refine tL ok45 (y_callL (L := [41, 42]) [(61, 41), (62, 42)] [(41, 61), (42, 62)] #[a47.eval (.tmp 125), a47.eval (.tmp 129)] rfl dE Try.func46 rfl rfl my2 (gHas_fn (x1) (x3) (x2) ((g2)) ((((N)))) ((g1)) ((byL (X) ((undoL (Y))))) _ lW _ _ (uL q359) (uL q360) (OwnP.ren (ownp_cell 0 (Ty.nat ((((N))))) o158 rfl (fun _ _ h => (cJ h))) (GW.ren_lend _ _ dE rfl)) (ChnU.ren (cvch (by (rfl)) o157) (GW.ren_lend _ _ dE rfl)) oX)) fun a48 s44 hs23 ok46 r23 sm23 => ?_
        obtain ⟨t10, ⟨hT4, o160, o161⟩, B4⟩ := r23
        have q366 : At (Ty.tup2 (Ty.bool (hasB ((((N)))) ((g1)) ((byL (X) ((undoL (Y))))))) (Ty.int (fitsE ((((N)))) ((byL (X) ((undoL (Y)))))))) s44 a48 (.tmp 130) := Ty.up _ B4.le hT4
        have o162 : OwnP s44 61 x1 [(Ty.nat ((((N))))), (Ty.val x3), (Ty.val x2)] := OwnP.ren o160 (B4.ren dE rfl)
        have o163 : ChnU s44 62 22 108 x2 ((((N)))) ((g1)) ((g2)) := ChnU.ren o161 (B4.ren dE rfl)
        refine tL ok46 (Yld.toL (y_mv q366)) fun a49 s45 hs24 ok47 r24 sm24 => ?_
        have q372 : At (Ty.tup2 (Ty.bool (hasB ((((N)))) ((g1)) ((byL (X) ((undoL (Y))))))) (Ty.int (fitsE ((((N)))) ((byL (X) ((undoL (Y)))))))) s45 a49 (.tmp 124) := r24
        clear r24
        refine tL (R := (fun v τ => Pr.has (Ty.pr (Ty.bool (hasB ((((N)))) ((g1)) ((byL (X) ((undoL (Y)))))))) τ v)) ok47 (Yld.toL (y_ext2_0 q372)) fun a50 s46 hs25 ok48 r25 sm25 => ?_
        have q379 : At (Ty.bool (hasB ((((N)))) ((g1)) ((byL (X) ((undoL (Y))))))) s46 a50 (.tmp 131) := r25
        clear r25
        refine tL (R := (fun v τ => Pr.has (Ty.pr (Ty.int (fitsE ((((N)))) ((byL (X) ((undoL (Y)))))))) τ v)) ok48 (Yld.toL (y_ext2_1 (kq hs25 sm25 124 q372))) fun a51 s47 hs26 ok49 r26 sm26 => ?_
        have q386 : At (Ty.int (fitsE ((((N)))) ((byL (X) ((undoL (Y))))))) s47 a51 (.tmp 132) := r26
        clear r26
        refine tL ok49 (Yld.toL (y_as (kq hs26 sm26 131 q379))) fun a52 s48 hs27 ok50 r27 sm27 => ?_
        have q393 : At (Ty.bool (hasB ((((N)))) ((g1)) ((byL (X) ((undoL (Y))))))) s48 a52 (.tmp 23) := r27
        clear r27
        refine tL ok50 (Yld.toL (y_as (kq hs27 sm27 132 q386))) fun a53 s49 hs28 ok51 r28 sm28 => ?_
        have q396 := kq hs28 sm28 1 (kq hs27 sm27 1 (kq hs26 sm26 1 (kq hs25 sm25 1 (kq hs24 sm24 1 (kq hs23 sm23 1 (D21.k (D20.k (kq hs22 sm22 1 (kq hs21 sm21 1 (kq hs20 sm20 1 (kq hs19 sm19 1 (kq hs18 sm18 1 (kq hs17 sm17 1 (D19.k q287))))))))))))))
        have q400 : At (Ty.int (fitsE ((((N)))) ((byL (X) ((undoL (Y))))))) s49 a53 (.tmp 15) := r28
        clear r28; refine wpList_nil ?_
        have q401 : At (Ty.bool true) s49 a53 (.tmp 23) := (cvb (by (rw [hhas])) (kq hs28 sm28 23 q393))
        have q402 : At (Ty.int (0 : Int)) s49 a53 (.tmp 15) := (cvi (by (rw [hfit])) q400)
        refine tn (wp_seq ?_)
        have hpb := pick_lt bell (n := N) oM
        obtain ⟨B, hB⟩ : ∃ B, B = pick bell N := ⟨_, rfl⟩
        have hBN : B < N := (by rw [hB]; exact hpb)
        refine gI a53 s49 ok51 (gM (kq hs28 sm28 5 (kq hs27 sm27 5 (kq hs26 sm26 5 (kq hs25 sm25 5 (kq hs24 sm24 5 (kq hs23 sm23 5 (D21.k (D20.k (kq hs22 sm22 5 (kq hs21 sm21 5 (kq hs20 sm20 5 (kq hs19 sm19 5 (kq hs18 sm18 5 (kq hs17 sm17 5 (D19.k q286))))))))))))))) (gM q396 (gS rfl (fun A H I J O d0 d1 => rP (y_call _ Try.func15 rfl rfl my2 (pick_fn (bell) (N) _ _ _ (cvi (σ := H) oM (ef d0 rfl)) (cvi (σ := H) oM (ef d1 rfl)) oM oM))) (gB 0 (gE ok51 fun a54 s50 ok52 D22 => ?_))))); have q405 := D22.k (kq hs28 sm28 14 (kq hs27 sm27 14 (kq hs26 sm26 14 (kq hs25 sm25 14 (kq hs24 sm24 14 (kq hs23 sm23 14 (D21.k q350))))))); have o180 := Own.k0 (Own.kl (Own.kl (Own.kl (Own.kl (Own.kl (Own.kl o159 hs23) hs24) hs25) hs26) hs27) hs28) D22.stp; have o181 := OwnP.k0 (OwnP.kl (OwnP.kl (OwnP.kl (OwnP.kl (OwnP.kl o162 hs24) hs25) hs26) hs27) hs28) D22.stp; have o182 := ChnU.k0 (ChnU.kl (ChnU.kl (ChnU.kl (ChnU.kl (ChnU.kl o163 hs24) hs25) hs26) hs27) hs28) D22.stp
        have q410 : At (Ty.nat B) s50 a54 (.tmp 5) := (cvi (by (rw [hB])) (D22.m 3 rfl))
        refine tn (wp_seq ?_)
        refine gI a54 s50 ok52 (gM q405 (gM q410 (gE2 ok52 fun a55 s51 ok53 D23 => ?_))); have o183 := Own.k0 o180 D23.stp; have o184 := OwnP.k0 o181 D23.stp; have o185 := ChnU.k0 o182 D23.stp
        have q418 : At (Ty.val x1) s51 a55 (.tmp 137) := D23.done 0 dE
        refine tL ok53 (y_callL (L := [41, 42, 43]) [(61, 41), (62, 42), (63, 43)] [(41, 61), (42, 62), (43, 63), (44, 64), (45, 65), (46, 66)] #[a55.eval (.tmp 137), a55.eval (.tmp 138)] rfl dE Try.func56 rfl rfl my2 (gStill_fn (x1) (x3) (x2) (((g2))) (((((N))))) (((g1))) ((((GS)))) (B) _ lW _ _ (uL q418) (uL (cvi (σ := s51) oX (D23.m 1 rfl))) (OwnP.ren (ownp_cell 0 (Ty.nat (((((N)))))) o184 rfl (fun _ _ h => (cJ h))) (GW.ren_lend _ _ dE rfl)) (ChnU.ren (cvch (by (rfl)) o185) (GW.ren_lend _ _ dE rfl)) (Own.ren (cvo (by (simp)) (by (simp)) o183) (GW.ren_lend _ _ dE rfl)) oX oX oX oX)) fun a56 s52 hs29 ok54 r29 sm29 => ?_
        obtain ⟨t11, ⟨g3, g4, g5, x6, x7, x8, hT5, o186, o187, o188, o189, o190, o191, hp2⟩, B5⟩ := r29
        have q427 : At (Ty.tup2 (Ty.val x6) (Ty.int (0 : Int))) s52 a56 (.tmp 139) := Ty.up _ B5.le hT5
        have o192 : OwnP s52 61 x1 [(Ty.nat (((((N)))))), (Ty.val x3), (Ty.val x2)] := OwnP.ren o186 (B5.ren dE rfl)
        have o193 : ChnU s52 62 22 108 x2 (((((N))))) (((g1))) (((g2))) := ChnU.ren o187 (B5.ren dE rfl)
        have o194 : Own s52 63 22 1 x3 (List.length ((((GS))))) (List.map Ty.ints ((((GS))))) := Own.ren o188 (B5.ren dE rfl)
        have o195 : OwnP s52 64 x6 [(Ty.nat (((((N)))))), (Ty.val x8), (Ty.val x7)] := OwnP.ren o189 (B5.ren dE rfl)
        have o196 : ChnU s52 65 22 108 x7 (((((N))))) (g4) (g5) := ChnU.ren o190 (B5.ren dE rfl)
        have o197 : Own s52 66 22 1 x8 (List.length (g3)) (List.map Ty.ints (g3)) := Own.ren o191 (B5.ren dE rfl)
        refine tL ok54 (Yld.toL (y_mv q427)) fun a57 s53 hs30 ok55 r30 sm30 => ?_
        have q435 : At (Ty.tup2 (Ty.val x6) (Ty.int (0 : Int))) s53 a57 (.tmp 136) := r30
        clear r30
        refine tL (R := (fun v τ => Pr.has (Ty.pr (Ty.val x6)) τ v)) ok55 (Yld.toL (y_ext2_0 q435)) fun a58 s54 hs31 ok56 r31 sm31 => ?_
        have q444 : At (Ty.val x6) s54 a58 (.tmp 140) := r31
        clear r31
        refine tL (R := (fun v τ => Pr.has (Ty.pr (Ty.int (0 : Int))) τ v)) ok56 (Yld.toL (y_ext2_1 (kq hs31 sm31 136 q435))) fun a59 s55 hs32 ok57 r32 sm32 => ?_
        have q453 : At (Ty.int (0 : Int)) s55 a59 (.tmp 141) := r32
        clear r32
        refine tL ok57 (Yld.toL (y_as (kq hs32 sm32 140 q444))) fun a60 s56 hs33 ok58 r33 sm33 => ?_
        have q462 : At (Ty.val x6) s56 a60 (.tmp 24) := r33
        clear r33
        refine tL ok58 (Yld.toL (y_as (kq hs33 sm33 141 q453))) fun a61 s57 hs34 ok59 r34 sm34 => ?_
        have q470 := kq hs34 sm34 24 q462; have o225 := OwnP.kl (OwnP.kl (OwnP.kl (OwnP.kl (OwnP.kl o195 hs30) hs31) hs32) hs33) hs34
        have q471 : At (Ty.int (0 : Int)) s57 a61 (.tmp 22) := r34
        clear r34; refine wpList_nil (tn (wp_seq (wp_seq ?_)))
        refine gI a61 s57 ok59 (gM (kq hs34 sm34 15 (kq hs33 sm33 15 (kq hs32 sm32 15 (kq hs31 sm31 15 (kq hs30 sm30 15 (kq hs29 sm29 15 (D23.k (D22.k q402)))))))) (gT (Ty.bool false) rfl (fun A H I J O d0 => rP ((y_neq (eI d0) rfl).mono (fun τ _ h => cvb (σ := τ) dE h))) (gS rfl (fun A H I J O d0 => rP (y_move (eI d0))) (gS rfl (fun A H I J O d0 => gu J (eI d0) fun hg => y_move (kp (O 22 rfl) I q471)) (gT (Ty.grd (false = false) (Ty.bool false)) rfl (fun A H I J O d0 d1 => gu J (eI d1) fun hg => (y_neq ((ef d0 rfl).1 hg) rfl).mono (fun τ _ h => cvb (σ := τ) dE h)) (gS rfl (fun A H I J O d0 d1 => rP (y_pick_or (eI d0) rfl (eI d1))) (gS rfl (fun A H I J O d0 d1 => rP (y_move (eI d0))) (gT (Ty.grd ((false || false) = false) (Ty.val x6)) rfl (by intro A H I J O d0; refine run_guard J rfl rfl dE (eI d0) (fun hg => ?_); obtain ⟨d9, d10⟩ := Bool.or_eq_false_iff.mp hg; exact y_move (kp (O 24 rfl) I q470)) (gT (Ty.grd ((false || false) = false) (Ty.bool false)) rfl (by intro A H I J O d0 d1; refine run_guard J rfl rfl dE (eI d1) (fun hg => ?_); obtain ⟨d11, d12⟩ := Bool.or_eq_false_iff.mp hg; exact y_pnil Try.underlying26 (OwnP.k0 o225 I) ((ef d0 rfl).1 hg) rfl) (gS rfl (fun A H I J O d0 d1 => rP (y_pick_or (eI d0) rfl (eI d1))) (gS rfl (fun A H I J O d0 d1 => rP (y_move (eI d0))) (gT (Ty.grd (((false || false) || false) = false) (Ty.bool true)) rfl (by intro A H I J O d0; refine run_guard J rfl rfl dE (eI d0) (fun hg => ?_); obtain ⟨d13, d14⟩ := Bool.or_eq_false_iff.mp hg; obtain ⟨d15, d16⟩ := Bool.or_eq_false_iff.mp d13; exact y_move (kp (O 23 rfl) I (kq hs34 sm34 23 (kq hs33 sm33 23 (kq hs32 sm32 23 (kq hs31 sm31 23 (kq hs30 sm30 23 (kq hs29 sm29 23 (D23.k (D22.k q401)))))))))) ?_))))))))))))
        refine gT (Ty.grd (((false || false) || false) = false) (Ty.bool (!true))) rfl (by intro A H I J O d0 d1; refine run_guard J rfl rfl dE (eI d1) (fun hg => ?_); obtain ⟨d17, d18⟩ := Bool.or_eq_false_iff.mp hg; obtain ⟨d19, d20⟩ := Bool.or_eq_false_iff.mp d17; exact y_not ((ef d0 rfl).1 hg)) (gS rfl (fun A H I J O d0 d1 => rP (y_pick_or (eI d0) rfl (eI d1))) (gE ok59 fun a62 s58 ok60 D24 => ?_)); have o228 := OwnP.k0 (OwnP.kl (OwnP.kl (OwnP.kl (OwnP.kl (OwnP.kl o192 hs30) hs31) hs32) hs33) hs34) D24.stp; have o229 := ChnU.k0 (ChnU.kl (ChnU.kl (ChnU.kl (ChnU.kl (ChnU.kl o193 hs30) hs31) hs32) hs33) hs34) D24.stp; have o230 := Own.k0 (Own.kl (Own.kl (Own.kl (Own.kl (Own.kl o194 hs30) hs31) hs32) hs33) hs34) D24.stp; have o231 := OwnP.k0 o225 D24.stp; have o232 := ChnU.k0 (ChnU.kl (ChnU.kl (ChnU.kl (ChnU.kl (ChnU.kl o196 hs30) hs31) hs32) hs33) hs34) D24.stp; have o233 := Own.k0 (Own.kl (Own.kl (Own.kl (Own.kl (Own.kl o197 hs30) hs31) hs32) hs33) hs34) D24.stp; refine tn ?_
        refine cond_t (D24.m 13 rfl) (fun c6 => ?_) (fun c6 => ?_)
        ·
         exfalso
         simp at c6
        ·
         obtain ⟨d21, d22⟩ := Bool.or_eq_false_iff.mp c6
         obtain ⟨d23, d24⟩ := Bool.or_eq_false_iff.mp d21
         obtain ⟨d25, d26⟩ := Bool.or_eq_false_iff.mp d23
         refine wp_skip (tn (wp_seq ?_))
         refine gI a62 s58 ok60 (gC (Ty.int (0 : Int)) (gE ok60 fun a63 s59 ok61 D25 => ?_)); have q481 := D25.k (D24.k (kq hs34 sm34 14 (kq hs33 sm33 14 (kq hs32 sm32 14 (kq hs31 sm31 14 (kq hs30 sm30 14 (kq hs29 sm29 14 (D23.k q405)))))))); have o234 := OwnP.k0 o228 D25.stp; have o235 := ChnU.k0 o229 D25.stp; have o236 := Own.k0 o230 D25.stp; have o237 := OwnP.k0 o231 D25.stp; have o238 := ChnU.k0 o232 D25.stp; have o239 := Own.k0 o233 D25.stp; refine tn (wp_seq ?_)
         have hol := orbs_len (n := N) (G := GS) (m := N)
         have hoi := fun j => orbs_lenat (n := N) (G := GS) (m := N) (j := j)
         obtain ⟨OL, hOL⟩ : ∃ OL, OL = (orbsL N GS N) := ⟨_, rfl⟩
         rw [← hOL] at hol
         replace hoi : ∀ j, (OL.getD j []).length ≤ N := (hOL ▸ hoi)
         refine gI a63 s59 ok61 (gM q481 (gE2 ok61 fun a64 s60 ok62 D26 => ?_)); have o240 := OwnP.k0 o234 D26.stp; have o241 := ChnU.k0 o235 D26.stp; have o242 := Own.k0 o236 D26.stp; have o243 := OwnP.k0 o237 D26.stp; have o244 := ChnU.k0 o238 D26.stp; have o245 := Own.k0 o239 D26.stp
         have q493 : At (Ty.val x1) s60 a64 (.tmp 156) := D26.done 0 dE
         refine tL ok62 (y_callL (L := [41, 43]) [(61, 41), (63, 43)] [(41, 61), (43, 63)] #[a64.eval (.tmp 156)] rfl dE Try.func57 rfl rfl my1 (gOrbits_fn (x1) (x3) (x2) ((((((N)))))) (((((GS))))) _ lW _ (uL q493) (OwnP.ren (ownp_cell 0 (Ty.nat ((((((N))))))) o240 rfl (fun _ _ h => (cJ h))) (GW.ren_lend _ _ dE rfl)) (Own.ren (cvo (by (simp)) (by (simp)) o242) (GW.ren_lend _ _ dE rfl)) oX oX oX)) fun a65 s61 hs35 ok63 r35 sm35 => ?_
         obtain ⟨t12, ⟨hT6, o246, o247⟩, B6⟩ := r35
         have q501 : At (Ty.lst Ty.ints (orbsL ((((((N)))))) (((((GS))))) ((((((N)))))))) s61 a65 (.tmp 157) := Ty.up _ B6.le hT6
         have o248 : OwnP s61 61 x1 [(Ty.nat ((((((N))))))), (Ty.val x3), (Ty.val x2)] := OwnP.ren o246 (B6.ren dE rfl)
         have o249 : Own s61 63 22 1 x3 (List.length (((((GS)))))) (List.map Ty.ints (((((GS)))))) := Own.ren o247 (B6.ren dE rfl)
         refine tL ok63 (Yld.toL (y_as q501)) fun a66 s62 hs36 ok64 r36 sm36 => ?_
         have q509 : At (Ty.lst Ty.ints (orbsL ((((((N)))))) (((((GS))))) ((((((N)))))))) s62 a66 (.tmp 26) := r36
         clear r36; refine wpList_nil ?_
         have q510 : At (Ty.lst Ty.ints OL) s62 a66 (.tmp 26) := (cvt (by (rw [hOL])) q509)
         refine tn (wp_seq (wp_seq ?_))
         refine gI a66 s62 ok64 (gC (Ty.int (0 : Int)) (gE ok64 fun a67 s63 ok65 D27 => ?_)); have o260 := ChnU.k0 (ChnU.kl (ChnU.kl o241 hs35) hs36) D27.stp; have o261 := OwnP.k0 (OwnP.kl (OwnP.kl o243 hs35) hs36) D27.stp; have o262 := ChnU.k0 (ChnU.kl (ChnU.kl o244 hs35) hs36) D27.stp; have o263 := Own.k0 (Own.kl (Own.kl o245 hs35) hs36) D27.stp; have o264 := OwnP.k0 (OwnP.kl o248 hs36) D27.stp; have o265 := Own.k0 (Own.kl o249 hs36) D27.stp; refine tn (wp_block ?_)
         refine loop (fun n5 a68 w5 => ∃ (t13 : GW) (p : Nat), t13.w = w5 ∧ FromL [] s0 t13 ∧ Ok 251 [] a68 ∧ At (Ty.nat p) t13 a68 (.tmp 27) ∧ At (Ty.nat (orbAt OL (B : Int) p)) t13 a68 (.tmp 25) ∧ At (Ty.lst Ty.int (upT a GS.length i)) t13 a68 (.tmp 16) ∧ At (Ty.nat N) t13 a68 (.tmp 1) ∧ At (Ty.val x1) t13 a68 (.tmp 14) ∧ At (Ty.lst Ty.int X) t13 a68 (.tmp 20) ∧ At (Ty.nat B) t13 a68 (.tmp 5) ∧ At (Ty.val x6) t13 a68 (.tmp 24) ∧ At (Ty.lst Ty.ints OL) t13 a68 (.tmp 26) ∧ ChnU t13 62 22 108 x2 (((((N))))) (((g1))) (((g2))) ∧ OwnP t13 64 x6 [(Ty.nat (((((N)))))), (Ty.val x8), (Ty.val x7)] ∧ ChnU t13 65 22 108 x7 (((((N))))) (g4) (g5) ∧ Own t13 66 22 1 x8 (List.length (g3)) (List.map Ty.ints (g3)) ∧ OwnP t13 61 x1 [(Ty.nat ((((((N))))))), (Ty.val x3), (Ty.val x2)] ∧ Own t13 63 22 1 x3 (List.length (((((GS)))))) (List.map Ty.ints (((((GS)))))) ∧ (p ≤ OL.length) ∧ n5 = OL.length - p) (OL.length - (0)) ?_ ?_
         ·
          exact ⟨s63, 0, rfl, (((((((((((((((((((((((((((((F38.step0 D19.stp).sl hs17).sl hs18).sl hs19).sl hs20).sl hs21).sl hs22).step0 D20.stp).step0 D21.stp).sl hs23).sl hs24).sl hs25).sl hs26).sl hs27).sl hs28).step0 D22.stp).step0 D23.stp).sl hs29).sl hs30).sl hs31).sl hs32).sl hs33).sl hs34).step0 D24.stp).step0 D25.stp).step0 D26.stp).sl hs35).sl hs36).step0 D27.stp), ok65, (cJ (D27.m 0 rfl)), (cvi (by (rw [orbAt_zero]; rfl)) (D27.k (kq hs36 sm36 25 (kq hs35 sm35 25 (D26.k (D25.m 0 rfl)))))), (D27.k (kq hs36 sm36 16 (kq hs35 sm35 16 (D26.k (D25.k (D24.k (kq hs34 sm34 16 (kq hs33 sm33 16 (kq hs32 sm32 16 (kq hs31 sm31 16 (kq hs30 sm30 16 (kq hs29 sm29 16 (D23.k (D22.k (kq hs28 sm28 16 (kq hs27 sm27 16 (kq hs26 sm26 16 (kq hs25 sm25 16 (kq hs24 sm24 16 (kq hs23 sm23 16 (D21.k (D20.k (kq hs22 sm22 16 (kq hs21 sm21 16 (kq hs20 sm20 16 (kq hs19 sm19 16 (kq hs18 sm18 16 (kq hs17 sm17 16 (D19.k q285))))))))))))))))))))))))))))), (D27.k (kq hs36 sm36 1 (kq hs35 sm35 1 (D26.k (D25.k (D24.k (kq hs34 sm34 1 (kq hs33 sm33 1 (kq hs32 sm32 1 (kq hs31 sm31 1 (kq hs30 sm30 1 (kq hs29 sm29 1 (D23.k (D22.k q396)))))))))))))), (D27.k (kq hs36 sm36 14 (kq hs35 sm35 14 (D26.k q481)))), (D27.k (kq hs36 sm36 20 (kq hs35 sm35 20 (D26.k (D25.k (D24.k (kq hs34 sm34 20 (kq hs33 sm33 20 (kq hs32 sm32 20 (kq hs31 sm31 20 (kq hs30 sm30 20 (kq hs29 sm29 20 (D23.k (D22.k (kq hs28 sm28 20 (kq hs27 sm27 20 (kq hs26 sm26 20 (kq hs25 sm25 20 (kq hs24 sm24 20 (kq hs23 sm23 20 (D21.k q351))))))))))))))))))))), (D27.k (kq hs36 sm36 5 (kq hs35 sm35 5 (D26.k (D25.k (D24.k (kq hs34 sm34 5 (kq hs33 sm33 5 (kq hs32 sm32 5 (kq hs31 sm31 5 (kq hs30 sm30 5 (kq hs29 sm29 5 (D23.k q410))))))))))))), (D27.k (kq hs36 sm36 24 (kq hs35 sm35 24 (D26.k (D25.k (D24.k q470)))))), (D27.k q510), o260, o261, o262, o263, o264, o265, by omega, rfl⟩
         ·
          rintro n6 a69 w6 ⟨t14, p, rfl, F68, ok66, q520, q521, q522, q523, q524, q525, q526, q527, q528, o266, o267, o268, o269, o270, o271, hp, rfl⟩
          refine wp_seq (wp_seq ?_)
          refine gI a69 t14 ok66 (gM q520 (gM q528 (gS rfl (fun A H I J O d0 => rP (y_len Try.underlying24 (eI d0))) (gS rfl (fun A H I J O d0 d1 => rP (y_lss (eI d0) (eI d1))) (gE ok66 fun a70 s64 ok67 D28 => ?_))))); have F69 := F68.step0 D28.stp; have q530 := D28.k q521; have q531 := D28.k q522; have q532 := D28.k q523; have q533 := D28.k q524; have q534 := D28.k q525; have q536 := D28.k q527; have o272 := ChnU.k0 o266 D28.stp; have o273 := OwnP.k0 o267 D28.stp; have o274 := ChnU.k0 o268 D28.stp; have o275 := Own.k0 o269 D28.stp; have o276 := OwnP.k0 o270 D28.stp; have o277 := Own.k0 o271 D28.stp; refine tn ?_
          refine cond_p (p := (((p : Nat) : Int) < (((List.length OL) : Nat) : Int))) (D28.m 3 rfl) (fun c7 => ?_) (fun c7 => ?_)
          ·
           refine wp_skip (tn (wp_seq (wp_block (wp_seq ?_))))
           refine gI a70 s64 ok67 (gC (Ty.int (0 : Int)) (gE ok67 fun a71 s65 ok68 D29 => ?_)); have o278 := ChnU.k0 o272 D29.stp; have o279 := OwnP.k0 o273 D29.stp; have o280 := ChnU.k0 o274 D29.stp; have o281 := Own.k0 o275 D29.stp; have o282 := OwnP.k0 o276 D29.stp; have o283 := Own.k0 o277 D29.stp; refine tn (wp_block ?_)
           refine loop (fun n7 a72 w7 => ∃ (t15 : GW) (q : Nat), t15.w = w7 ∧ FromL [] s0 t15 ∧ Ok 251 [] a72 ∧ At (Ty.nat q) t15 a72 (.tmp 28) ∧ At (Ty.nat (orbIn OL (B : Int) p q)) t15 a72 (.tmp 25) ∧ At (Ty.nat p) t15 a72 (.tmp 27) ∧ At (Ty.lst Ty.int (upT a GS.length i)) t15 a72 (.tmp 16) ∧ At (Ty.nat N) t15 a72 (.tmp 1) ∧ At (Ty.val x1) t15 a72 (.tmp 14) ∧ At (Ty.lst Ty.int X) t15 a72 (.tmp 20) ∧ At (Ty.nat B) t15 a72 (.tmp 5) ∧ At (Ty.val x6) t15 a72 (.tmp 24) ∧ At (Ty.lst Ty.ints OL) t15 a72 (.tmp 26) ∧ ChnU t15 62 22 108 x2 (((((N))))) (((g1))) (((g2))) ∧ OwnP t15 64 x6 [(Ty.nat (((((N)))))), (Ty.val x8), (Ty.val x7)] ∧ ChnU t15 65 22 108 x7 (((((N))))) (g4) (g5) ∧ Own t15 66 22 1 x8 (List.length (g3)) (List.map Ty.ints (g3)) ∧ OwnP t15 61 x1 [(Ty.nat ((((((N))))))), (Ty.val x3), (Ty.val x2)] ∧ Own t15 63 22 1 x3 (List.length (((((GS)))))) (List.map Ty.ints (((((GS)))))) ∧ (q ≤ (OL.getD p []).length) ∧ n7 = (OL.getD p []).length - q) ((OL.getD p []).length - (0)) ?_ ?_
           ·
            exact ⟨s65, 0, rfl, (F69.step0 D29.stp), ok68, (cJ (D29.m 0 rfl)), (cvi (by (rw [orbIn_zero])) (D29.k q530)), (D29.k (D28.k q520)), (D29.k q531), (D29.k q532), (D29.k q533), (D29.k q534), (D29.k (D28.k q526)), (D29.k q536), (D29.k (D28.k q528)), o278, o279, o280, o281, o282, o283, by omega, rfl⟩
           ·
            rintro n8 a73 w8 ⟨t16, q, rfl, F71, ok69, q549, q550, q551, q552, q553, q554, q555, q556, q557, q558, o284, o285, o286, o287, o288, o289, hq, rfl⟩
            have hoip := hoi p
            refine wp_seq (wp_seq ?_)
            refine gI a73 t16 ok69 (gM q549 (gM q558 (gM q551 (gT (Ty.ref [(Ty.lst Ty.int (OL.getD p []))]) rfl (fun A H I J O d0 d1 => rP (y_index1 Try.underlying24 Try.inf22 (eI d0) (eI d1) oM (lst_get Ty.ints OL [] p oM))) (gS rfl (fun A H I J O d0 => rP (y_load Try.underlying22 rfl (eI d0) rfl)) (gS rfl (fun A H I J O d0 => rP (y_len Try.underlying22 (eI d0))) (gS rfl (fun A H I J O d0 d1 => rP (y_lss (eI d0) (eI d1))) (gE ok69 fun a74 s66 ok70 D30 => ?_)))))))); have F72 := F71.step0 D30.stp; have q559 := D30.k q549; have q560 := D30.k q550; have q561 := D30.k q551; have q562 := D30.k q552; have q563 := D30.k q553; have q564 := D30.k q554; have q565 := D30.k q555; have q566 := D30.k q556; have q567 := D30.k q557; have q568 := D30.k q558; have o290 := ChnU.k0 o284 D30.stp; have o291 := OwnP.k0 o285 D30.stp; have o292 := ChnU.k0 o286 D30.stp; have o293 := Own.k0 o287 D30.stp; have o294 := OwnP.k0 o288 D30.stp; have o295 := Own.k0 o289 D30.stp; refine tn ?_
            refine cond_p (p := (((q : Nat) : Int) < (((List.length (OL.getD p [])) : Nat) : Int))) (D30.m 6 rfl) (fun c8 => ?_) (fun c8 => ?_)
            ·
             refine wp_skip (tn (wp_seq (wp_block (wp_seq ?_))))
             refine gI a74 s66 ok70 (gM q568 (gM q561 (gT (Ty.ref [(Ty.lst Ty.int (OL.getD p []))]) rfl (fun A H I J O d0 d1 => rP (y_index1 Try.underlying24 Try.inf22 (eI d0) (eI d1) oM (lst_get Ty.ints OL [] p oM))) (gS rfl (fun A H I J O d0 => rP (y_load Try.underlying22 rfl (eI d0) rfl)) (gM q559 (gT (Ty.ref [(Ty.int ((OL.getD p []).getD q 0))]) rfl (fun A H I J O d0 d1 => rP (y_index1 Try.underlying22 Try.inf3 (eI d0) (eI d1) oM (lst_get Ty.int (OL.getD p []) 0 q oM))) (gS rfl (fun A H I J O d0 => rP (y_load Try.underlying3 rfl (eI d0) rfl)) (gM q566 (gS rfl (fun A H I J O d0 d1 => rP (y_eql (eI d0) (eI d1))) (gE ok70 fun a75 s67 ok71 D31 => ?_)))))))))); have F73 := F72.step0 D31.stp; have q570 := D31.k q559; have q572 := D31.k q561; have q573 := D31.k q562; have q574 := D31.k q563; have q575 := D31.k q564; have q576 := D31.k q565; have q577 := D31.k q566; have q578 := D31.k q567; have q579 := D31.k q568; have o296 := ChnU.k0 o290 D31.stp; have o297 := OwnP.k0 o291 D31.stp; have o298 := ChnU.k0 o292 D31.stp; have o299 := Own.k0 o293 D31.stp; have o300 := OwnP.k0 o294 D31.stp; have o301 := Own.k0 o295 D31.stp; refine tn ?_
             refine cond_p (p := (((OL.getD p []).getD q 0) = ((B : Nat) : Int))) (D31.m 8 rfl) (fun c9 => ?_) (fun c9 => ?_)
             ·
              refine gI a75 s67 ok71 (gM q579 (gM q572 (gT (Ty.ref [(Ty.lst Ty.int (OL.getD p []))]) rfl (fun A H I J O d0 d1 => rP (y_index1 Try.underlying24 Try.inf22 (eI d0) (eI d1) oM (lst_get Ty.ints OL [] p oM))) (gS rfl (fun A H I J O d0 => rP (y_load Try.underlying22 rfl (eI d0) rfl)) (gS rfl (fun A H I J O d0 => rP (y_len Try.underlying22 (eI d0))) (gB 0 (gE ok71 fun a76 s68 ok72 D32 => ?_))))))); have o302 := ChnU.k0 o296 D32.stp; have o303 := OwnP.k0 o297 D32.stp; have o304 := ChnU.k0 o298 D32.stp; have o305 := Own.k0 o299 D32.stp; have o306 := OwnP.k0 o300 D32.stp; have o307 := Own.k0 o301 D32.stp; refine bn (tn ?_)
              refine gI a76 s68 ok72 (gM (D32.k q570) (gT (Ty.nat (q + 1)) rfl (fun A H I J O d0 => rP ((y_add (eI d0) rfl wX).mono (fun τ _ h => cN (σ := τ) h))) (gB 0 (gE ok72 fun a77 s69 ok73 D33 => ?_)))); have o308 := ChnU.k0 o302 D33.stp; have o309 := OwnP.k0 o303 D33.stp; have o310 := ChnU.k0 o304 D33.stp; have o311 := Own.k0 o305 D33.stp; have o312 := OwnP.k0 o306 D33.stp; have o313 := Own.k0 o307 D33.stp
              exact tn ⟨(OL.getD p []).length - ((q+1)), by omega, s69, (q+1), rfl, ((F73.step0 D32.stp).step0 D33.stp), ok73, (cJ (D33.m 2 rfl)), (cvi (by (rw [orbIn_yes oM (by first | exact c9 | exact of_decide_eq_true c9)])) (D33.k (D32.m 5 rfl))), (D33.k (D32.k q572)), (D33.k (D32.k q573)), (D33.k (D32.k q574)), (D33.k (D32.k q575)), (D33.k (D32.k q576)), (D33.k (D32.k q577)), (D33.k (D32.k q578)), (D33.k (D32.k q579)), o308, o309, o310, o311, o312, o313, by omega, rfl⟩
             ·
              refine wp_skip (bn (tn ?_))
              refine gI a75 s67 ok71 (gM q570 (gT (Ty.nat (q + 1)) rfl (fun A H I J O d0 => rP ((y_add (eI d0) rfl wX).mono (fun τ _ h => cN (σ := τ) h))) (gB 0 (gE ok71 fun a78 s70 ok74 D34 => ?_)))); have o314 := ChnU.k0 o296 D34.stp; have o315 := OwnP.k0 o297 D34.stp; have o316 := ChnU.k0 o298 D34.stp; have o317 := Own.k0 o299 D34.stp; have o318 := OwnP.k0 o300 D34.stp; have o319 := Own.k0 o301 D34.stp
              exact tn ⟨(OL.getD p []).length - ((q+1)), by omega, s70, (q+1), rfl, (F73.step0 D34.stp), ok74, (cJ (D34.m 2 rfl)), (cvi (by (rw [orbIn_no oM (by first | exact c9 | exact of_decide_eq_false c9)])) (D34.k (D31.k q560))), (D34.k q572), (D34.k q573), (D34.k q574), (D34.k q575), (D34.k q576), (D34.k q577), (D34.k q578), (D34.k q579), o314, o315, o316, o317, o318, o319, by omega, rfl⟩
            ·
             refine wp_exit (tx (tx (bx (bn (tn ?_)))))
             refine gI a74 s66 ok70 (gM q561 (gT (Ty.nat (p + 1)) rfl (fun A H I J O d0 => rP ((y_add (eI d0) rfl wX).mono (fun τ _ h => cN (σ := τ) h))) (gB 0 (gE ok70 fun a79 s71 ok75 D35 => ?_)))); have o320 := ChnU.k0 o290 D35.stp; have o321 := OwnP.k0 o291 D35.stp; have o322 := ChnU.k0 o292 D35.stp; have o323 := Own.k0 o293 D35.stp; have o324 := OwnP.k0 o294 D35.stp; have o325 := Own.k0 o295 D35.stp
             exact tn ⟨OL.length - ((p+1)), by omega, s71, (p+1), rfl, (F72.step0 D35.stp), ok75, (cJ (D35.m 2 rfl)), (cvi (by (rw [orbIn_all oM])) (D35.k q560)), (D35.k q562), (D35.k q563), (D35.k q564), (D35.k q565), (D35.k q566), (D35.k q567), (D35.k q568), o320, o321, o322, o323, o324, o325, by omega, rfl⟩
          ·
           have ep : p = OL.length := oM
           refine wp_exit (tx (tx (bx (tn (wp_seq (wp_seq ?_))))))
           obtain ⟨F1, hF1⟩ := hp1.elts hGr
           have hb1 := few_rows hF1.nd (hF1.rows hN12 hGr)
           rw [hF1.len] at hb1
           have hOS : szTo N (fun y => y ∈ GS) N = orbAt OL ((B : Nat) : Int) p * szTo N (fun y => y ∈ g3) N := (by rw [ep, hOL, orb_found hN12 hGr hBN]; exact StlP.size hp1 hGr hBN hp2)
           have hszp := szTo_pos (S := fun y => y ∈ GS) hN12 N (Nat.le_refl _)
           have hmod := sz_mod hp1 hGr
           have hXh := (hasB_iff hp1 hGr hXr).2 hXc
           have hKC := hp2.of
           have hKG := hp2.row
           refine gI a70 s64 ok67 (gE2 ok67 fun a80 s72 ok76 D36 => ?_); have q623 := D36.k q533; have o326 := ChnU.k0 o272 D36.stp; have o327 := OwnP.k0 o273 D36.stp; have o328 := ChnU.k0 o274 D36.stp; have o329 := Own.k0 o275 D36.stp; have o330 := OwnP.k0 o276 D36.stp; have o331 := Own.k0 o277 D36.stp
           refine tL ok76 (Yld.toL (y_mv q623)) fun a81 s73 hs37 ok77 r37 sm37 => ?_
           have q632 : At (Ty.val x1) s73 a81 (.tmp 187) := r37
           clear r37
           refine tL ok77 (y_callL (L := [41, 42, 43]) [(61, 41), (62, 42), (63, 43)] [(41, 61), (42, 62), (43, 63)] #[a81.eval (.tmp 187)] rfl dE Try.func42 rfl rfl my1 (gSize_fn (x1) (x3) (x2) ((((g2)))) (((((((N))))))) ((((g1)))) ((((((GS)))))) _ lW _ (uL q632) (OwnP.ren (ownp_cell 0 (Ty.nat (((((((N)))))))) (OwnP.kl o330 hs37) rfl (fun _ _ h => (cJ h))) (GW.ren_lend _ _ dE rfl)) (ChnU.ren (cvch (by (rfl)) (ChnU.kl o326 hs37)) (GW.ren_lend _ _ dE rfl)) (Own.ren (cvo (by (simp)) (by (simp)) (Own.kl o331 hs37)) (GW.ren_lend _ _ dE rfl)) oX oX)) fun a82 s74 hs38 ok78 r38 sm38 => ?_
           obtain ⟨t17, ⟨hT7, o338, o339, o340⟩, B7⟩ := r38
           have q639 : At (Ty.nat (szTo (((((((N))))))) (fun y => y ∈ ((((((GS))))))) (((((((N))))))))) s74 a82 (.tmp 188) := Ty.up _ B7.le hT7
           have o341 : OwnP s74 61 x1 [(Ty.nat (((((((N)))))))), (Ty.val x3), (Ty.val x2)] := OwnP.ren o338 (B7.ren dE rfl)
           have o342 : ChnU s74 62 22 108 x2 (((((((N))))))) ((((g1)))) ((((g2)))) := ChnU.ren o339 (B7.ren dE rfl)
           have o343 : Own s74 63 22 1 x3 (List.length ((((((GS))))))) (List.map Ty.ints ((((((GS))))))) := Own.ren o340 (B7.ren dE rfl)
           refine tL ok78 (Yld.toL (y_mv (kq hs38 sm38 25 (kq hs37 sm37 25 (D36.k q530))))) fun a83 s75 hs39 ok79 r39 sm39 => ?_
           have q646 : At (Ty.nat (orbAt OL (B : Int) p)) s75 a83 (.tmp 189) := r39
           clear r39
           refine tL ok79 (Yld.toL (y_mv (kq hs39 sm39 24 (kq hs38 sm38 24 (kq hs37 sm37 24 (D36.k q536)))))) fun a84 s76 hs40 ok80 r40 sm40 => ?_
           have q653 : At (Ty.val x6) s76 a84 (.tmp 190) := r40
           clear r40
           refine tL ok80 (y_callL (L := [41, 42, 43]) [(64, 41), (65, 42), (66, 43)] [(41, 64), (42, 65), (43, 66)] #[a84.eval (.tmp 190)] rfl dE Try.func42 rfl rfl my1 (gSize_fn (x6) (x8) (x7) ((g5)) ((((((N)))))) ((g4)) ((g3)) _ lW _ (uL q653) (OwnP.ren (ownp_cell 0 (Ty.nat ((((((N))))))) (OwnP.kl (OwnP.kl (OwnP.kl (OwnP.kl o327 hs37) hs38) hs39) hs40) rfl (fun _ _ h => (cJ h))) (GW.ren_lend _ _ dE rfl)) (ChnU.ren (cvch (by (rfl)) (ChnU.kl (ChnU.kl (ChnU.kl (ChnU.kl o328 hs37) hs38) hs39) hs40)) (GW.ren_lend _ _ dE rfl)) (Own.ren (cvo (by (simp)) (by (simp)) (Own.kl (Own.kl (Own.kl (Own.kl o329 hs37) hs38) hs39) hs40)) (GW.ren_lend _ _ dE rfl)) oX oX)) fun a85 s77 hs41 ok81 r41 sm41 => ?_
           obtain ⟨t18, ⟨hT8, o359, o360, o361⟩, B8⟩ := r41
           have q660 : At (Ty.nat (szTo ((((((N)))))) (fun y => y ∈ ((g3))) ((((((N)))))))) s77 a85 (.tmp 191) := Ty.up _ B8.le hT8
           have o362 : OwnP s77 64 x6 [(Ty.nat ((((((N))))))), (Ty.val x8), (Ty.val x7)] := OwnP.ren o359 (B8.ren dE rfl)
           have o363 : ChnU s77 65 22 108 x7 ((((((N)))))) ((g4)) ((g5)) := ChnU.ren o360 (B8.ren dE rfl)
           have o364 : Own s77 66 22 1 x8 (List.length ((g3))) (List.map Ty.ints ((g3))) := Own.ren o361 (B8.ren dE rfl)
           refine tL (R := (fun v τ => Pr.has (Ty.pr (Ty.nat ((orbAt OL (B : Int) p) * (szTo ((((((N)))))) (fun y => y ∈ ((g3))) ((((((N)))))))))) τ v)) ok81 (Yld.toL ((y_mul (kq hs41 sm41 189 (kq hs40 sm40 189 q646)) q660 wX).mono (fun τ _ h => cN (σ := τ) h))) fun a86 s78 hs42 ok82 r42 sm42 => ?_
           have q666 : At (Ty.nat ((orbAt OL (B : Int) p) * (szTo ((((((N)))))) (fun y => y ∈ ((g3))) ((((((N))))))))) s78 a86 (.tmp 192) := r42
           clear r42
           refine tL (R := (fun v τ => Pr.has (Ty.pr (Ty.bool (decide ((((szTo (((((((N))))))) (fun y => y ∈ ((((((GS))))))) (((((((N)))))))) : Nat) : Int) ≠ ((((orbAt OL (B : Int) p) * (szTo ((((((N)))))) (fun y => y ∈ ((g3))) ((((((N)))))))) : Nat) : Int))))) τ v)) ok82 (Yld.toL (y_neq (kq hs42 sm42 188 (kq hs41 sm41 188 (kq hs40 sm40 188 (kq hs39 sm39 188 q639)))) q666)) fun a87 s79 hs43 ok83 r43 sm43 => ?_
           have q671 : At (Ty.bool (decide ((((szTo (((((((N))))))) (fun y => y ∈ ((((((GS))))))) (((((((N)))))))) : Nat) : Int) ≠ ((((orbAt OL (B : Int) p) * (szTo ((((((N)))))) (fun y => y ∈ ((g3))) ((((((N)))))))) : Nat) : Int)))) s79 a87 (.tmp 193) := r43
           clear r43
           refine tL ok83 (Yld.toL (y_mv q671)) fun a88 s80 hs44 ok84 r44 sm44 => ?_
           have q676 : At (Ty.bool (decide ((((szTo (((((((N))))))) (fun y => y ∈ ((((((GS))))))) (((((((N)))))))) : Nat) : Int) ≠ ((((orbAt OL (B : Int) p) * (szTo ((((((N)))))) (fun y => y ∈ ((g3))) ((((((N)))))))) : Nat) : Int)))) s80 a88 (.tmp 194) := r44
           clear r44
           rcases Bool.eq_false_or_eq_true (decide ((((szTo (((((((N))))))) (fun y => y ∈ ((((((GS))))))) (((((((N)))))))) : Nat) : Int) ≠ ((((orbAt OL (B : Int) p) * (szTo ((((((N)))))) (fun y => y ∈ ((g3))) ((((((N)))))))) : Nat) : Int))) with hg1 | hg1
           · (have h_ := of_decide_eq_true hg1; exact (h_ (by rw [hOS])).elim)
           ·
            have q677 : At (Ty.bool false) s80 a88 (.tmp 194) := cvb hg1 q676
            refine tD (T := (Ty.nat N)) ok84 q677 (y_move (kq hs44 sm44 1 (kq hs43 sm43 1 (kq hs42 sm42 1 (kq hs41 sm41 1 (kq hs40 sm40 1 (kq hs39 sm39 1 (kq hs38 sm38 1 (kq hs37 sm37 1 (D36.k q532)))))))))) fun a89 s81 hs45 ok85 r45 sm45 => ?_
            have q681 := kq hs45 sm45 194 q677
            have q682 : At (Ty.nat N) s81 a89 (.tmp 195) := r45
            clear r45
            refine tD (T := (Ty.nat (fct (N)))) ok85 q681 (y_call _ Try.func58 rfl rfl my1 (rFact_fn ((N)) (N) _ _ (cvi (σ := s81) oM q682) oM oM)) fun a90 s82 hs46 ok86 r46 sm46 => ?_
            have q684 := kq hs46 sm46 14 (kq hs45 sm45 14 (kq hs44 sm44 14 (kq hs43 sm43 14 (kq hs42 sm42 14 (kq hs41 sm41 14 (kq hs40 sm40 14 (kq hs39 sm39 14 (kq hs38 sm38 14 (kq hs37 sm37 14 q623))))))))); have q686 := kq hs46 sm46 194 q681
            have q687 : At (Ty.nat (fct (N))) s82 a90 (.tmp 196) := r46
            clear r46
            refine tD (T := (Ty.val x1)) ok86 q686 (y_move q684) fun a91 s83 hs47 ok87 r47 sm47 => ?_
            have q691 := kq hs47 sm47 194 q686
            have q693 : At (Ty.val x1) s83 a91 (.tmp 197) := r47
            clear r47
            refine tailDo (L := [61, 62, 63]) (R := (fun v τ' => ∃ τ, (fun v τ => (Ty.has (Ty.nat (szTo ((((((((N)))))))) (fun y => y ∈ (((((((GS)))))))) ((((((((N)))))))))) τ v) ∧ (OwnP τ 41 x1 [(Ty.nat ((((((((N))))))))), (Ty.val x3), (Ty.val x2)]) ∧ (ChnU τ 42 22 108 x2 ((((((((N)))))))) (((((g1))))) (((((g2)))))) ∧ (Own τ 43 22 1 x3 (List.length (((((((GS)))))))) (List.map Ty.ints (((((((GS)))))))))) v τ ∧ Back [(41, 61), (42, 62), (43, 63)] τ τ')) ok87 rfl rfl dE q691 rfl rfl dE (y_callL (L := [41, 42, 43]) [(61, 41), (62, 42), (63, 43)] [(41, 61), (42, 62), (43, 63)] #[a91.eval (.tmp 197)] rfl dE Try.func42 rfl rfl my1 (gSize_fn (x1) (x3) (x2) (((((g2))))) ((((((((N)))))))) (((((g1))))) (((((((GS))))))) _ lW _ (uL q693) (OwnP.ren (ownp_cell 0 (Ty.nat ((((((((N))))))))) (OwnP.kl (OwnP.kl (OwnP.kl (OwnP.kl (OwnP.kl (OwnP.kl (OwnP.kl (OwnP.kl (OwnP.kl o341 hs39) hs40) hs41) hs42) hs43) hs44) hs45) hs46) hs47) rfl (fun _ _ h => (cJ h))) (GW.ren_lend _ _ dE rfl)) (ChnU.ren (cvch (by (rfl)) (ChnU.kl (ChnU.kl (ChnU.kl (ChnU.kl (ChnU.kl (ChnU.kl (ChnU.kl (ChnU.kl (ChnU.kl o342 hs39) hs40) hs41) hs42) hs43) hs44) hs45) hs46) hs47)) (GW.ren_lend _ _ dE rfl)) (Own.ren (cvo (by (simp)) (by (simp)) (Own.kl (Own.kl (Own.kl (Own.kl (Own.kl (Own.kl (Own.kl (Own.kl (Own.kl o343 hs39) hs40) hs41) hs42) hs43) hs44) hs45) hs46) hs47)) (GW.ren_lend _ _ dE rfl)) oX oX)) (fun a92 s84 hs48 ok88 r48 sm48 => ?_)
            have q697 := kq hs48 sm48 194 q691
            obtain ⟨t19, ⟨hT9, o404, o405, o406⟩, B9⟩ := r48
            have q699 : At (Ty.nat (szTo ((((((((N)))))))) (fun y => y ∈ (((((((GS)))))))) ((((((((N)))))))))) s84 a92 (.tmp 198) := Ty.up _ B9.le hT9
            have o407 : OwnP s84 61 x1 [(Ty.nat ((((((((N))))))))), (Ty.val x3), (Ty.val x2)] := OwnP.ren o404 (B9.ren dE rfl)
            have o408 : ChnU s84 62 22 108 x2 ((((((((N)))))))) (((((g1))))) (((((g2))))) := ChnU.ren o405 (B9.ren dE rfl)
            have o409 : Own s84 63 22 1 x3 (List.length (((((((GS)))))))) (List.map Ty.ints (((((((GS)))))))) := Own.ren o406 (B9.ren dE rfl)
            refine tD (T := (Ty.nat ((fct (N)) % (szTo ((((((((N)))))))) (fun y => y ∈ (((((((GS)))))))) ((((((((N)))))))))))) ok88 q697 (y_remN (kq hs48 sm48 196 (kq hs47 sm47 196 q687)) q699 oM) fun a93 s85 hs49 ok89 r49 sm49 => ?_
            have q703 := kq hs49 sm49 194 q697
            have q704 : At (Ty.nat ((fct (N)) % (szTo ((((((((N)))))))) (fun y => y ∈ (((((((GS)))))))) ((((((((N))))))))))) s85 a93 (.tmp 199) := r49
            clear r49
            refine tD (T := (Ty.bool (decide (((((fct (N)) % (szTo ((((((((N)))))))) (fun y => y ∈ (((((((GS)))))))) ((((((((N)))))))))) : Nat) : Int) ≠ (0 : Int))))) ok89 q703 (y_neq q704 rfl) fun a94 s86 hs50 ok90 r50 sm50 => ?_
            have q709 : At (Ty.bool (decide (((((fct (N)) % (szTo ((((((((N)))))))) (fun y => y ∈ (((((((GS)))))))) ((((((((N)))))))))) : Nat) : Int) ≠ (0 : Int)))) s86 a94 (.tmp 200) := r50
            clear r50
            refine tL (R := (fun v τ => Pr.has (Ty.pr (Ty.bool (decide (((((fct (N)) % (szTo ((((((((N)))))))) (fun y => y ∈ (((((((GS)))))))) ((((((((N)))))))))) : Nat) : Int) ≠ (0 : Int))))) τ v)) ok90 (Yld.toL (y_pickF (kq hs50 sm50 194 q703) q709)) fun a95 s87 hs51 ok91 r51 sm51 => ?_
            have q711 := kq hs51 sm51 14 (kq hs50 sm50 14 (kq hs49 sm49 14 (kq hs48 sm48 14 (kq hs47 sm47 14 q684))))
            have q713 : At (Ty.bool (decide (((((fct (N)) % (szTo ((((((((N)))))))) (fun y => y ∈ (((((((GS)))))))) ((((((((N)))))))))) : Nat) : Int) ≠ (0 : Int)))) s87 a95 (.tmp 201) := r51
            clear r51; refine wpList_nil (tn ?_)
            refine cond_p (p := (((((fct (N)) % (szTo ((((((((N)))))))) (fun y => y ∈ (((((((GS)))))))) ((((((((N)))))))))) : Nat) : Int) ≠ (0 : Int))) q713 (fun c10 => ?_) (fun c10 => ?_)
            ·
             exfalso
             exact c10 (by rw [hmod]; rfl)
            ·
             refine wp_skip (tn (wp_seq (wp_seq ?_)))
             refine gI a95 s87 ok91 (gM q711 (gE2 ok91 fun a96 s88 ok92 D37 => ?_)); have o431 := OwnP.k0 (OwnP.kl (OwnP.kl (OwnP.kl (OwnP.kl (OwnP.kl (OwnP.kl (OwnP.kl (OwnP.kl (OwnP.kl (OwnP.kl o362 hs42) hs43) hs44) hs45) hs46) hs47) hs48) hs49) hs50) hs51) D37.stp; have o432 := ChnU.k0 (ChnU.kl (ChnU.kl (ChnU.kl (ChnU.kl (ChnU.kl (ChnU.kl (ChnU.kl (ChnU.kl (ChnU.kl (ChnU.kl o363 hs42) hs43) hs44) hs45) hs46) hs47) hs48) hs49) hs50) hs51) D37.stp; have o433 := Own.k0 (Own.kl (Own.kl (Own.kl (Own.kl (Own.kl (Own.kl (Own.kl (Own.kl (Own.kl (Own.kl o364 hs42) hs43) hs44) hs45) hs46) hs47) hs48) hs49) hs50) hs51) D37.stp; have o434 := OwnP.k0 (OwnP.kl (OwnP.kl (OwnP.kl o407 hs49) hs50) hs51) D37.stp; have o435 := ChnU.k0 (ChnU.kl (ChnU.kl (ChnU.kl o408 hs49) hs50) hs51) D37.stp; have o436 := Own.k0 (Own.kl (Own.kl (Own.kl o409 hs49) hs50) hs51) D37.stp
             have q717 : At (Ty.val x1) s88 a96 (.tmp 202) := D37.done 0 dE
             refine tL ok92 (y_callL (L := [41, 42, 43]) [(61, 41), (62, 42), (63, 43)] [(41, 61), (42, 62), (43, 63)] #[a96.eval (.tmp 202)] rfl dE Try.func42 rfl rfl my1 (gSize_fn (x1) (x3) (x2) ((((((g2)))))) (((((((((N))))))))) ((((((g1)))))) ((((((((GS)))))))) _ lW _ (uL q717) (OwnP.ren (ownp_cell 0 (Ty.nat (((((((((N)))))))))) o434 rfl (fun _ _ h => (cJ h))) (GW.ren_lend _ _ dE rfl)) (ChnU.ren (cvch (by (rfl)) o435) (GW.ren_lend _ _ dE rfl)) (Own.ren (cvo (by (simp)) (by (simp)) o436) (GW.ren_lend _ _ dE rfl)) oX oX)) fun a97 s89 hs52 ok93 r52 sm52 => ?_
             obtain ⟨t20, ⟨hT10, o437, o438, o439⟩, B10⟩ := r52
             have q721 : At (Ty.nat (szTo (((((((((N))))))))) (fun y => y ∈ ((((((((GS))))))))) (((((((((N))))))))))) s89 a97 (.tmp 203) := Ty.up _ B10.le hT10
             have o440 : OwnP s89 61 x1 [(Ty.nat (((((((((N)))))))))), (Ty.val x3), (Ty.val x2)] := OwnP.ren o437 (B10.ren dE rfl)
             have o441 : ChnU s89 62 22 108 x2 (((((((((N))))))))) ((((((g1)))))) ((((((g2)))))) := ChnU.ren o438 (B10.ren dE rfl)
             have o442 : Own s89 63 22 1 x3 (List.length ((((((((GS))))))))) (List.map Ty.ints ((((((((GS))))))))) := Own.ren o439 (B10.ren dE rfl)
             refine tL (R := (fun v τ => Pr.has (Ty.pr (Ty.bool (decide ((800 : Int) < (((szTo (((((((((N))))))))) (fun y => y ∈ ((((((((GS))))))))) (((((((((N)))))))))) : Nat) : Int))))) τ v)) ok93 (Yld.toL (y_gtr q721 rfl)) fun a98 s90 hs53 ok94 r53 sm53 => ?_
             have F96 := ((((((((((((((((((F69.step0 D36.stp).sl hs37).sl hs38).sl hs39).sl hs40).sl hs41).sl hs42).sl hs43).sl hs44).sl hs45).sl hs46).sl hs47).sl hs48).sl hs49).sl hs50).sl hs51).step0 D37.stp).sl hs52).sl hs53; have q723 := kq hs53 sm53 14 (kq hs52 sm52 14 (D37.k q711)); have q724 := kq hs53 sm53 20 (kq hs52 sm52 20 (D37.k (kq hs51 sm51 20 (kq hs50 sm50 20 (kq hs49 sm49 20 (kq hs48 sm48 20 (kq hs47 sm47 20 (kq hs46 sm46 20 (kq hs45 sm45 20 (kq hs44 sm44 20 (kq hs43 sm43 20 (kq hs42 sm42 20 (kq hs41 sm41 20 (kq hs40 sm40 20 (kq hs39 sm39 20 (kq hs38 sm38 20 (kq hs37 sm37 20 (D36.k q534)))))))))))))))))); have o446 := OwnP.kl (OwnP.kl o431 hs52) hs53; have o447 := ChnU.kl (ChnU.kl o432 hs52) hs53; have o448 := Own.kl (Own.kl o433 hs52) hs53; have o449 := OwnP.kl o440 hs53; have o450 := ChnU.kl o441 hs53; have o451 := Own.kl o442 hs53
             have q725 : At (Ty.bool (decide ((800 : Int) < (((szTo (((((((((N))))))))) (fun y => y ∈ ((((((((GS))))))))) (((((((((N)))))))))) : Nat) : Int)))) s90 a98 (.tmp 204) := r53
             clear r53; refine wpList_nil (tn ?_)
             refine cond_p (p := ((800 : Int) < (((szTo (((((((((N))))))))) (fun y => y ∈ ((((((((GS))))))))) (((((((((N)))))))))) : Nat) : Int))) q725 (fun c11 => ?_) (fun c11 => ?_)
             ·
              refine wp_seq ?_
              refine gI a98 s90 ok94 (gC (Ty.bool true) (gE ok94 fun a99 s91 ok95 D38 => ?_)); have o452 := OwnP.k0 o446 D38.stp; have o453 := ChnU.k0 o447 D38.stp; have o454 := Own.k0 o448 D38.stp; have o455 := OwnP.k0 o449 D38.stp; have o456 := ChnU.k0 o450 D38.stp; have o457 := Own.k0 o451 D38.stp; refine tn (wp_ret (tr ?_))
              exact retL1 rfl ok95 (F96.step0 D38.stp) (D38.m 0 rfl)
             ·
              have hsz8 : szTo N (fun y => y ∈ GS) N ≤ 800 := oM; have hwE : wordE N g1 GS X = 0 := word_0 (fits_ok.2 hXr) hXh oM
              refine wp_skip (tn (wp_seq ?_))
              refine gI a98 s90 ok94 (gM q723 (gM q724 (gE2 ok94 fun a100 s92 ok96 D39 => ?_))); have o458 := OwnP.k0 o446 D39.stp; have o459 := ChnU.k0 o447 D39.stp; have o460 := Own.k0 o448 D39.stp; have o461 := OwnP.k0 o449 D39.stp; have o462 := ChnU.k0 o450 D39.stp; have o463 := Own.k0 o451 D39.stp
              have q730 : At (Ty.val x1) s92 a100 (.tmp 206) := D39.done 0 dE
              refine tL ok96 (y_callL (L := [41, 42, 43]) [(61, 41), (62, 42), (63, 43)] [(41, 61), (42, 62), (43, 63)] #[a100.eval (.tmp 206), a100.eval (.tmp 207)] rfl dE Try.func59 rfl rfl my2 (gWord_fn (x1) (x3) (x2) (((((((g2))))))) ((((((((((N)))))))))) (((((((g1))))))) (((((((((GS))))))))) (X) _ lW _ _ (uL q730) (uL (D39.m 1 rfl)) (OwnP.ren (ownp_cell 0 (Ty.nat ((((((((((N))))))))))) o461 rfl (fun _ _ h => (cJ h))) (GW.ren_lend _ _ dE rfl)) (ChnU.ren (cvch (by (rfl)) o462) (GW.ren_lend _ _ dE rfl)) (Own.ren (cvo (by (simp)) (by (simp)) o463) (GW.ren_lend _ _ dE rfl)) oX oX oX)) fun a101 s93 hs54 ok97 r54 sm54 => ?_
              obtain ⟨t21, ⟨g6, hT11, o464, o465, o466, hp3⟩, B11⟩ := r54
              have q735 : At (Ty.tup2 (Ty.lst Ty.int (g6)) (Ty.int (wordE ((((((((((N)))))))))) (((((((g1))))))) (((((((((GS))))))))) (X)))) s93 a101 (.tmp 208) := Ty.up _ B11.le hT11
              have o467 : OwnP s93 61 x1 [(Ty.nat ((((((((((N))))))))))), (Ty.val x3), (Ty.val x2)] := OwnP.ren o464 (B11.ren dE rfl)
              have o468 : ChnU s93 62 22 108 x2 ((((((((((N)))))))))) (((((((g1))))))) (((((((g2))))))) := ChnU.ren o465 (B11.ren dE rfl)
              have o469 : Own s93 63 22 1 x3 (List.length (((((((((GS)))))))))) (List.map Ty.ints (((((((((GS)))))))))) := Own.ren o466 (B11.ren dE rfl)
              refine tL ok97 (Yld.toL (y_mv q735)) fun a102 s94 hs55 ok98 r55 sm55 => ?_
              have q739 : At (Ty.tup2 (Ty.lst Ty.int (g6)) (Ty.int (wordE ((((((((((N)))))))))) (((((((g1))))))) (((((((((GS))))))))) (X)))) s94 a102 (.tmp 205) := r55
              clear r55
              refine tL (R := (fun v τ => Pr.has (Ty.pr (Ty.lst Ty.int (g6))) τ v)) ok98 (Yld.toL (y_ext2_0 q739)) fun a103 s95 hs56 ok99 r56 sm56 => ?_
              have q744 : At (Ty.lst Ty.int (g6)) s95 a103 (.tmp 209) := r56
              clear r56
              refine tL (R := (fun v τ => Pr.has (Ty.pr (Ty.int (wordE ((((((((((N)))))))))) (((((((g1))))))) (((((((((GS))))))))) (X)))) τ v)) ok99 (Yld.toL (y_ext2_1 (kq hs56 sm56 205 q739))) fun a104 s96 hs57 ok100 r57 sm57 => ?_
              have q749 : At (Ty.int (wordE ((((((((((N)))))))))) (((((((g1))))))) (((((((((GS))))))))) (X))) s96 a104 (.tmp 210) := r57
              clear r57
              refine tL ok100 (Yld.toL (y_as (kq hs57 sm57 209 q744))) fun a105 s97 hs58 ok101 r58 sm58 => ?_
              have q754 : At (Ty.lst Ty.int (g6)) s97 a105 (.tmp 29) := r58
              clear r58
              refine tL ok101 (Yld.toL (y_as (kq hs58 sm58 210 q749))) fun a106 s98 hs59 ok102 r59 sm59 => ?_
              have q756 := kq hs59 sm59 14 (kq hs58 sm58 14 (kq hs57 sm57 14 (kq hs56 sm56 14 (kq hs55 sm55 14 (kq hs54 sm54 14 (D39.k q723)))))); have q758 := kq hs59 sm59 29 q754
              have q759 : At (Ty.int (wordE ((((((((((N)))))))))) (((((((g1))))))) (((((((((GS))))))))) (X))) s98 a106 (.tmp 15) := r59
              clear r59; refine wpList_nil (tn (wp_seq ?_))
              have hWO := hp3.1 hwE
              have hWP := hWO.says hN12 hGr
              have hWS := hWO.short hN12 hGr hXw
              obtain ⟨hE3, hR3⟩ := say_0 (n := N) (G := GS) (w := g6) oM hWP.ok
              have hR4 : sayR N GS g6 = X := (by rw [hR3]; exact hWP.eq)
              have hEL : eltE N GS = 0 := (by unfold eltE; rw [if_pos oM])
              refine gI a106 s98 ok102 (gM q756 (gM q758 (gE2 ok102 fun a107 s99 ok103 D40 => ?_))); have o503 := OwnP.k0 (OwnP.kl (OwnP.kl (OwnP.kl (OwnP.kl (OwnP.kl (OwnP.kl o458 hs54) hs55) hs56) hs57) hs58) hs59) D40.stp; have o504 := ChnU.k0 (ChnU.kl (ChnU.kl (ChnU.kl (ChnU.kl (ChnU.kl (ChnU.kl o459 hs54) hs55) hs56) hs57) hs58) hs59) D40.stp; have o505 := Own.k0 (Own.kl (Own.kl (Own.kl (Own.kl (Own.kl (Own.kl o460 hs54) hs55) hs56) hs57) hs58) hs59) D40.stp; have o506 := OwnP.k0 (OwnP.kl (OwnP.kl (OwnP.kl (OwnP.kl (OwnP.kl o467 hs55) hs56) hs57) hs58) hs59) D40.stp; have o507 := ChnU.k0 (ChnU.kl (ChnU.kl (ChnU.kl (ChnU.kl (ChnU.kl o468 hs55) hs56) hs57) hs58) hs59) D40.stp; have o508 := Own.k0 (Own.kl (Own.kl (Own.kl (Own.kl (Own.kl o469 hs55) hs56) hs57) hs58) hs59) D40.stp
              have q765 : At (Ty.val x1) s99 a107 (.tmp 212) := D40.done 0 dE
              refine tL ok103 (y_callL (L := [41, 43]) [(61, 41), (63, 43)] [(41, 61), (43, 63)] #[a107.eval (.tmp 212), a107.eval (.tmp 213)] rfl dE Try.func44 rfl rfl my2 (gSay_fn (x1) (x3) (x2) (((((((((((N))))))))))) ((((((((((GS)))))))))) ((g6)) _ lW _ _ (uL q765) (uL (D40.m 1 rfl)) (OwnP.ren (ownp_cell 0 (Ty.nat (((((((((((N)))))))))))) o506 rfl (fun _ _ h => (cJ h))) (GW.ren_lend _ _ dE rfl)) (Own.ren (cvo (by (simp)) (by (simp)) o508) (GW.ren_lend _ _ dE rfl)) oX oX oX)) fun a108 s100 hs60 ok104 r60 sm60 => ?_
              obtain ⟨t22, ⟨hT12, o509, o510⟩, B12⟩ := r60
              have q772 : At (Ty.tup2 (Ty.lst Ty.int (sayR (((((((((((N))))))))))) ((((((((((GS)))))))))) ((g6)))) (Ty.int (sayE ((((((((((GS)))))))))) ((g6))))) s100 a108 (.tmp 214) := Ty.up _ B12.le hT12
              have o511 : OwnP s100 61 x1 [(Ty.nat (((((((((((N)))))))))))), (Ty.val x3), (Ty.val x2)] := OwnP.ren o509 (B12.ren dE rfl)
              have o512 : Own s100 63 22 1 x3 (List.length ((((((((((GS))))))))))) (List.map Ty.ints ((((((((((GS))))))))))) := Own.ren o510 (B12.ren dE rfl)
              refine tL ok104 (Yld.toL (y_mv q772)) fun a109 s101 hs61 ok105 r61 sm61 => ?_
              have q778 : At (Ty.tup2 (Ty.lst Ty.int (sayR (((((((((((N))))))))))) ((((((((((GS)))))))))) ((g6)))) (Ty.int (sayE ((((((((((GS)))))))))) ((g6))))) s101 a109 (.tmp 211) := r61
              clear r61
              refine tL (R := (fun v τ => Pr.has (Ty.pr (Ty.lst Ty.int (sayR (((((((((((N))))))))))) ((((((((((GS)))))))))) ((g6))))) τ v)) ok105 (Yld.toL (y_ext2_0 q778)) fun a110 s102 hs62 ok106 r62 sm62 => ?_
              have q785 : At (Ty.lst Ty.int (sayR (((((((((((N))))))))))) ((((((((((GS)))))))))) ((g6)))) s102 a110 (.tmp 215) := r62
              clear r62
              refine tL (R := (fun v τ => Pr.has (Ty.pr (Ty.int (sayE ((((((((((GS)))))))))) ((g6))))) τ v)) ok106 (Yld.toL (y_ext2_1 (kq hs62 sm62 211 q778))) fun a111 s103 hs63 ok107 r63 sm63 => ?_
              have q792 : At (Ty.int (sayE ((((((((((GS)))))))))) ((g6)))) s103 a111 (.tmp 216) := r63
              clear r63
              refine tL ok107 (Yld.toL (y_as (kq hs63 sm63 215 q785))) fun a112 s104 hs64 ok108 r64 sm64 => ?_
              have q799 : At (Ty.lst Ty.int (sayR (((((((((((N))))))))))) ((((((((((GS)))))))))) ((g6)))) s104 a112 (.tmp 30) := r64
              clear r64
              refine tL ok108 (Yld.toL (y_as (kq hs64 sm64 216 q792))) fun a113 s105 hs65 ok109 r65 sm65 => ?_
              have q801 := kq hs65 sm65 14 (kq hs64 sm64 14 (kq hs63 sm63 14 (kq hs62 sm62 14 (kq hs61 sm61 14 (kq hs60 sm60 14 (D40.k q756))))))
              have q806 : At (Ty.int (sayE ((((((((((GS)))))))))) ((g6)))) s105 a113 (.tmp 22) := r65
              clear r65; refine wpList_nil (tn (wp_seq ?_))
              refine gI a113 s105 ok109 (gM q801 (gE2 ok109 fun a114 s106 ok110 D41 => ?_)); have o547 := OwnP.k0 (OwnP.kl (OwnP.kl (OwnP.kl (OwnP.kl (OwnP.kl (OwnP.kl o503 hs60) hs61) hs62) hs63) hs64) hs65) D41.stp; have o548 := ChnU.k0 (ChnU.kl (ChnU.kl (ChnU.kl (ChnU.kl (ChnU.kl (ChnU.kl o504 hs60) hs61) hs62) hs63) hs64) hs65) D41.stp; have o549 := Own.k0 (Own.kl (Own.kl (Own.kl (Own.kl (Own.kl (Own.kl o505 hs60) hs61) hs62) hs63) hs64) hs65) D41.stp; have o550 := ChnU.k0 (ChnU.kl (ChnU.kl (ChnU.kl (ChnU.kl (ChnU.kl (ChnU.kl o507 hs60) hs61) hs62) hs63) hs64) hs65) D41.stp; have o551 := OwnP.k0 (OwnP.kl (OwnP.kl (OwnP.kl (OwnP.kl (OwnP.kl o511 hs61) hs62) hs63) hs64) hs65) D41.stp; have o552 := Own.k0 (Own.kl (Own.kl (Own.kl (Own.kl (Own.kl o512 hs61) hs62) hs63) hs64) hs65) D41.stp
              have q814 : At (Ty.val x1) s106 a114 (.tmp 218) := D41.done 0 dE
              refine tL ok110 (y_callL (L := [41, 42, 43]) [(61, 41), (62, 42), (63, 43)] [(41, 61), (42, 62), (43, 63)] #[a114.eval (.tmp 218)] rfl dE Try.func60 rfl rfl my1 (gElts_fn (x1) (x3) (x2) ((((((((g2)))))))) ((((((((((((N)))))))))))) ((((((((g1)))))))) (((((((((((GS))))))))))) _ lW _ (uL q814) (OwnP.ren (ownp_cell 0 (Ty.nat ((((((((((((N))))))))))))) o551 rfl (fun _ _ h => (cJ h))) (GW.ren_lend _ _ dE rfl)) (ChnU.ren (cvch (by (rfl)) o550) (GW.ren_lend _ _ dE rfl)) (Own.ren (cvo (by (simp)) (by (simp)) o552) (GW.ren_lend _ _ dE rfl)) oX oX)) fun a115 s107 hs66 ok111 r66 sm66 => ?_
              obtain ⟨t23, ⟨g7, hT13, o553, o554, o555, hp4⟩, B13⟩ := r66
              have q822 : At (Ty.tup2 (Ty.lst Ty.ints (g7)) (Ty.int (eltE ((((((((((((N)))))))))))) (((((((((((GS)))))))))))))) s107 a115 (.tmp 219) := Ty.up _ B13.le hT13
              have o556 : OwnP s107 61 x1 [(Ty.nat ((((((((((((N))))))))))))), (Ty.val x3), (Ty.val x2)] := OwnP.ren o553 (B13.ren dE rfl)
              have o557 : ChnU s107 62 22 108 x2 ((((((((((((N)))))))))))) ((((((((g1)))))))) ((((((((g2)))))))) := ChnU.ren o554 (B13.ren dE rfl)
              have o558 : Own s107 63 22 1 x3 (List.length (((((((((((GS)))))))))))) (List.map Ty.ints (((((((((((GS)))))))))))) := Own.ren o555 (B13.ren dE rfl)
              refine tL ok111 (Yld.toL (y_mv q822)) fun a116 s108 hs67 ok112 r67 sm67 => ?_
              have q830 : At (Ty.tup2 (Ty.lst Ty.ints (g7)) (Ty.int (eltE ((((((((((((N)))))))))))) (((((((((((GS)))))))))))))) s108 a116 (.tmp 217) := r67
              clear r67
              refine tL (R := (fun v τ => Pr.has (Ty.pr (Ty.lst Ty.ints (g7))) τ v)) ok112 (Yld.toL (y_ext2_0 q830)) fun a117 s109 hs68 ok113 r68 sm68 => ?_
              have q839 : At (Ty.lst Ty.ints (g7)) s109 a117 (.tmp 220) := r68
              clear r68
              refine tL (R := (fun v τ => Pr.has (Ty.pr (Ty.int (eltE ((((((((((((N)))))))))))) (((((((((((GS)))))))))))))) τ v)) ok113 (Yld.toL (y_ext2_1 (kq hs68 sm68 217 q830))) fun a118 s110 hs69 ok114 r69 sm69 => ?_
              have q848 : At (Ty.int (eltE ((((((((((((N)))))))))))) (((((((((((GS))))))))))))) s110 a118 (.tmp 221) := r69
              clear r69
              refine tL ok114 (Yld.toL (y_as (kq hs69 sm69 220 q839))) fun a119 s111 hs70 ok115 r70 sm70 => ?_
              have q857 : At (Ty.lst Ty.ints (g7)) s111 a119 (.tmp 31) := r70
              clear r70
              refine tL ok115 (Yld.toL (y_as (kq hs70 sm70 221 q848))) fun a120 s112 hs71 ok116 r71 sm71 => ?_
              have q866 : At (Ty.int (eltE ((((((((((((N)))))))))))) (((((((((((GS))))))))))))) s112 a120 (.tmp 32) := r71
              clear r71; refine wpList_nil (tn (wp_seq ?_))
              have hEO := hp4.ok oM
              have hEl := hEO.len
              refine gI a120 s112 ok116 (gE2 ok116 fun a121 s113 ok117 D42 => ?_); have o592 := OwnP.k0 (OwnP.kl (OwnP.kl (OwnP.kl (OwnP.kl (OwnP.kl (OwnP.kl o547 hs66) hs67) hs68) hs69) hs70) hs71) D42.stp; have o593 := ChnU.k0 (ChnU.kl (ChnU.kl (ChnU.kl (ChnU.kl (ChnU.kl (ChnU.kl o548 hs66) hs67) hs68) hs69) hs70) hs71) D42.stp; have o594 := Own.k0 (Own.kl (Own.kl (Own.kl (Own.kl (Own.kl (Own.kl o549 hs66) hs67) hs68) hs69) hs70) hs71) D42.stp; have o595 := OwnP.k0 (OwnP.kl (OwnP.kl (OwnP.kl (OwnP.kl (OwnP.kl o556 hs67) hs68) hs69) hs70) hs71) D42.stp; have o596 := ChnU.k0 (ChnU.kl (ChnU.kl (ChnU.kl (ChnU.kl (ChnU.kl o557 hs67) hs68) hs69) hs70) hs71) D42.stp; have o597 := Own.k0 (Own.kl (Own.kl (Own.kl (Own.kl (Own.kl o558 hs67) hs68) hs69) hs70) hs71) D42.stp
              refine tL ok117 (Yld.toL (y_mv (D42.k (kq hs71 sm71 15 (kq hs70 sm70 15 (kq hs69 sm69 15 (kq hs68 sm68 15 (kq hs67 sm67 15 (kq hs66 sm66 15 (D41.k (kq hs65 sm65 15 (kq hs64 sm64 15 (kq hs63 sm63 15 (kq hs62 sm62 15 (kq hs61 sm61 15 (kq hs60 sm60 15 (D40.k q759))))))))))))))))) fun a122 s114 hs72 ok118 r72 sm72 => ?_
              have q884 : At (Ty.int (wordE ((((((((((N)))))))))) (((((((g1))))))) (((((((((GS))))))))) (X))) s114 a122 (.tmp 222) := r72
              clear r72
              refine tL (R := (fun v τ => Pr.has (Ty.pr (Ty.bool (decide ((wordE ((((((((((N)))))))))) (((((((g1))))))) (((((((((GS))))))))) (X)) = (0 : Int))))) τ v)) ok118 (Yld.toL (y_eql q884 rfl)) fun a123 s115 hs73 ok119 r73 sm73 => ?_
              have q893 : At (Ty.bool (decide ((wordE ((((((((((N)))))))))) (((((((g1))))))) (((((((((GS))))))))) (X)) = (0 : Int)))) s115 a123 (.tmp 223) := r73
              clear r73
              refine tL ok119 (Yld.toL (y_mv q893)) fun a124 s116 hs74 ok120 r74 sm74 => ?_
              have q902 : At (Ty.bool (decide ((wordE ((((((((((N)))))))))) (((((((g1))))))) (((((((((GS))))))))) (X)) = (0 : Int)))) s116 a124 (.tmp 224) := r74
              clear r74
              rcases Bool.eq_false_or_eq_true (decide ((wordE ((((((((((N)))))))))) (((((((g1))))))) (((((((((GS))))))))) (X)) = (0 : Int))) with hg2 | hg2
              ·
               have q903 : At (Ty.bool true) s116 a124 (.tmp 224) := cvb hg2 q902
               refine tD (T := (Ty.int (sayE ((((((((((GS)))))))))) ((g6))))) ok120 q903 (y_move (kq hs74 sm74 22 (kq hs73 sm73 22 (kq hs72 sm72 22 (D42.k (kq hs71 sm71 22 (kq hs70 sm70 22 (kq hs69 sm69 22 (kq hs68 sm68 22 (kq hs67 sm67 22 (kq hs66 sm66 22 (D41.k q806)))))))))))) fun a125 s117 hs75 ok121 r75 sm75 => ?_
               have q911 := kq hs75 sm75 224 q903
               have q912 : At (Ty.int (sayE ((((((((((GS)))))))))) ((g6)))) s117 a125 (.tmp 225) := r75
               clear r75
               refine tD (T := (Ty.bool (decide ((sayE ((((((((((GS)))))))))) ((g6))) = (0 : Int))))) ok121 q911 (y_eql q912 rfl) fun a126 s118 hs76 ok122 r76 sm76 => ?_
               have q921 : At (Ty.bool (decide ((sayE ((((((((((GS)))))))))) ((g6))) = (0 : Int)))) s118 a126 (.tmp 226) := r76
               clear r76
               refine tL (R := (fun v τ => Pr.has (Ty.pr (Ty.bool (decide ((sayE ((((((((((GS)))))))))) ((g6))) = (0 : Int))))) τ v)) ok122 (Yld.toL (y_pickT (kq hs76 sm76 224 q911) q921)) fun a127 s119 hs77 ok123 r77 sm77 => ?_
               have q929 : At (Ty.bool (decide ((sayE ((((((((((GS)))))))))) ((g6))) = (0 : Int)))) s119 a127 (.tmp 227) := r77
               clear r77
               refine tL ok123 (Yld.toL (y_mv q929)) fun a128 s120 hs78 ok124 r78 sm78 => ?_
               have q937 : At (Ty.bool (decide ((sayE ((((((((((GS)))))))))) ((g6))) = (0 : Int)))) s120 a128 (.tmp 228) := r78
               clear r78
               rcases Bool.eq_false_or_eq_true (decide ((sayE ((((((((((GS)))))))))) ((g6))) = (0 : Int))) with hg3 | hg3
               ·
                have q938 : At (Ty.bool true) s120 a128 (.tmp 228) := cvb hg3 q937
                refine tD (T := (Ty.int (eltE ((((((((((((N)))))))))))) (((((((((((GS)))))))))))))) ok124 q938 (y_move (kq hs78 sm78 32 (kq hs77 sm77 32 (kq hs76 sm76 32 (kq hs75 sm75 32 (kq hs74 sm74 32 (kq hs73 sm73 32 (kq hs72 sm72 32 (D42.k q866))))))))) fun a129 s121 hs79 ok125 r79 sm79 => ?_
                have q945 := kq hs79 sm79 228 q938
                have q946 : At (Ty.int (eltE ((((((((((((N)))))))))))) (((((((((((GS))))))))))))) s121 a129 (.tmp 229) := r79
                clear r79
                refine tD (T := (Ty.bool (decide ((eltE ((((((((((((N)))))))))))) (((((((((((GS)))))))))))) = (0 : Int))))) ok125 q945 (y_eql q946 rfl) fun a130 s122 hs80 ok126 r80 sm80 => ?_
                have q954 : At (Ty.bool (decide ((eltE ((((((((((((N)))))))))))) (((((((((((GS)))))))))))) = (0 : Int)))) s122 a130 (.tmp 230) := r80
                clear r80
                refine tL (R := (fun v τ => Pr.has (Ty.pr (Ty.bool (decide ((eltE ((((((((((((N)))))))))))) (((((((((((GS)))))))))))) = (0 : Int))))) τ v)) ok126 (Yld.toL (y_pickT (kq hs80 sm80 228 q945) q954)) fun a131 s123 hs81 ok127 r81 sm81 => ?_
                have q961 : At (Ty.bool (decide ((eltE ((((((((((((N)))))))))))) (((((((((((GS)))))))))))) = (0 : Int)))) s123 a131 (.tmp 231) := r81
                clear r81
                refine tL ok127 (Yld.toL (y_mv q961)) fun a132 s124 hs82 ok128 r82 sm82 => ?_
                have q968 : At (Ty.bool (decide ((eltE ((((((((((((N)))))))))))) (((((((((((GS)))))))))))) = (0 : Int)))) s124 a132 (.tmp 232) := r82
                clear r82
                rcases Bool.eq_false_or_eq_true (decide ((eltE ((((((((((((N)))))))))))) (((((((((((GS)))))))))))) = (0 : Int))) with hg4 | hg4
                ·
                 have q969 : At (Ty.bool true) s124 a132 (.tmp 232) := cvb hg4 q968
                 refine tD (T := (Ty.lst Ty.int (sayR (((((((((((N))))))))))) ((((((((((GS)))))))))) ((g6))))) ok128 q969 (y_move (kq hs82 sm82 30 (kq hs81 sm81 30 (kq hs80 sm80 30 (kq hs79 sm79 30 (kq hs78 sm78 30 (kq hs77 sm77 30 (kq hs76 sm76 30 (kq hs75 sm75 30 (kq hs74 sm74 30 (kq hs73 sm73 30 (kq hs72 sm72 30 (D42.k (kq hs71 sm71 30 (kq hs70 sm70 30 (kq hs69 sm69 30 (kq hs68 sm68 30 (kq hs67 sm67 30 (kq hs66 sm66 30 (D41.k (kq hs65 sm65 30 q799))))))))))))))))))))) fun a133 s125 hs83 ok129 r83 sm83 => ?_
                 have q975 := kq hs83 sm83 232 q969
                 have q976 : At (Ty.lst Ty.int (sayR (((((((((((N))))))))))) ((((((((((GS)))))))))) ((g6)))) s125 a133 (.tmp 233) := r83
                 clear r83
                 refine tD (T := (Ty.lst Ty.int X)) ok129 q975 (y_move (kq hs83 sm83 20 (kq hs82 sm82 20 (kq hs81 sm81 20 (kq hs80 sm80 20 (kq hs79 sm79 20 (kq hs78 sm78 20 (kq hs77 sm77 20 (kq hs76 sm76 20 (kq hs75 sm75 20 (kq hs74 sm74 20 (kq hs73 sm73 20 (kq hs72 sm72 20 (D42.k (kq hs71 sm71 20 (kq hs70 sm70 20 (kq hs69 sm69 20 (kq hs68 sm68 20 (kq hs67 sm67 20 (kq hs66 sm66 20 (D41.k (kq hs65 sm65 20 (kq hs64 sm64 20 (kq hs63 sm63 20 (kq hs62 sm62 20 (kq hs61 sm61 20 (kq hs60 sm60 20 (D40.k (kq hs59 sm59 20 (kq hs58 sm58 20 (kq hs57 sm57 20 (kq hs56 sm56 20 (kq hs55 sm55 20 (kq hs54 sm54 20 (D39.k q724))))))))))))))))))))))))))))))))))) fun a134 s126 hs84 ok130 r84 sm84 => ?_
                 have q981 := kq hs84 sm84 232 q975
                 have q983 : At (Ty.lst Ty.int X) s126 a134 (.tmp 234) := r84
                 clear r84
                 refine tD (T := (Ty.bool (decide (((sayR (((((((((((N))))))))))) ((((((((((GS)))))))))) ((g6)))) = (X))))) ok130 q981 (y_call _ Try.func37 rfl rfl my2 (rsame_fn ((sayR (((((((((((N))))))))))) ((((((((((GS)))))))))) ((g6)))) (X) _ _ _ (kq hs84 sm84 233 q976) q983 )) fun a135 s127 hs85 ok131 r85 sm85 => ?_
                 have q989 : At (Ty.bool (decide (((sayR (((((((((((N))))))))))) ((((((((((GS)))))))))) ((g6)))) = (X)))) s127 a135 (.tmp 235) := r85
                 clear r85
                 refine tL (R := (fun v τ => Pr.has (Ty.pr (Ty.bool (decide (((sayR (((((((((((N))))))))))) ((((((((((GS)))))))))) ((g6)))) = (X))))) τ v)) ok131 (Yld.toL (y_pickT (kq hs85 sm85 232 q981) q989)) fun a136 s128 hs86 ok132 r86 sm86 => ?_
                 have q994 : At (Ty.bool (decide (((sayR (((((((((((N))))))))))) ((((((((((GS)))))))))) ((g6)))) = (X)))) s128 a136 (.tmp 236) := r86
                 clear r86
                 refine tL ok132 (Yld.toL (y_mv q994)) fun a137 s129 hs87 ok133 r87 sm87 => ?_
                 have q999 : At (Ty.bool (decide (((sayR (((((((((((N))))))))))) ((((((((((GS)))))))))) ((g6)))) = (X)))) s129 a137 (.tmp 237) := r87
                 clear r87
                 rcases Bool.eq_false_or_eq_true (decide (((sayR (((((((((((N))))))))))) ((((((((((GS)))))))))) ((g6)))) = (X))) with hg5 | hg5
                 ·
                  have q1000 : At (Ty.bool true) s129 a137 (.tmp 237) := cvb hg5 q999
                  refine tD (T := (Ty.lst Ty.int (g6))) ok133 q1000 (y_move (kq hs87 sm87 29 (kq hs86 sm86 29 (kq hs85 sm85 29 (kq hs84 sm84 29 (kq hs83 sm83 29 (kq hs82 sm82 29 (kq hs81 sm81 29 (kq hs80 sm80 29 (kq hs79 sm79 29 (kq hs78 sm78 29 (kq hs77 sm77 29 (kq hs76 sm76 29 (kq hs75 sm75 29 (kq hs74 sm74 29 (kq hs73 sm73 29 (kq hs72 sm72 29 (D42.k (kq hs71 sm71 29 (kq hs70 sm70 29 (kq hs69 sm69 29 (kq hs68 sm68 29 (kq hs67 sm67 29 (kq hs66 sm66 29 (D41.k (kq hs65 sm65 29 (kq hs64 sm64 29 (kq hs63 sm63 29 (kq hs62 sm62 29 (kq hs61 sm61 29 (kq hs60 sm60 29 (D40.k q758)))))))))))))))))))))))))))))))) fun a138 s130 hs88 ok134 r88 sm88 => ?_
                  have q1004 := kq hs88 sm88 237 q1000
                  have q1005 : At (Ty.lst Ty.int (g6)) s130 a138 (.tmp 238) := r88
                  clear r88
                  refine tD (T := (Ty.nat (List.length (g6)))) ok134 q1004 (y_len Try.underlying22 q1005) fun a139 s131 hs89 ok135 r89 sm89 => ?_
                  have q1009 := kq hs89 sm89 237 q1004
                  have q1010 : At (Ty.nat (List.length (g6))) s131 a139 (.tmp 239) := r89
                  clear r89
                  refine tD (T := (Ty.lst Ty.int (upT a GS.length i))) ok135 q1009 (y_move (kq hs89 sm89 16 (kq hs88 sm88 16 (kq hs87 sm87 16 (kq hs86 sm86 16 (kq hs85 sm85 16 (kq hs84 sm84 16 (kq hs83 sm83 16 (kq hs82 sm82 16 (kq hs81 sm81 16 (kq hs80 sm80 16 (kq hs79 sm79 16 (kq hs78 sm78 16 (kq hs77 sm77 16 (kq hs76 sm76 16 (kq hs75 sm75 16 (kq hs74 sm74 16 (kq hs73 sm73 16 (kq hs72 sm72 16 (D42.k (kq hs71 sm71 16 (kq hs70 sm70 16 (kq hs69 sm69 16 (kq hs68 sm68 16 (kq hs67 sm67 16 (kq hs66 sm66 16 (D41.k (kq hs65 sm65 16 (kq hs64 sm64 16 (kq hs63 sm63 16 (kq hs62 sm62 16 (kq hs61 sm61 16 (kq hs60 sm60 16 (D40.k (kq hs59 sm59 16 (kq hs58 sm58 16 (kq hs57 sm57 16 (kq hs56 sm56 16 (kq hs55 sm55 16 (kq hs54 sm54 16 (D39.k (kq hs53 sm53 16 (kq hs52 sm52 16 (D37.k (kq hs51 sm51 16 (kq hs50 sm50 16 (kq hs49 sm49 16 (kq hs48 sm48 16 (kq hs47 sm47 16 (kq hs46 sm46 16 (kq hs45 sm45 16 (kq hs44 sm44 16 (kq hs43 sm43 16 (kq hs42 sm42 16 (kq hs41 sm41 16 (kq hs40 sm40 16 (kq hs39 sm39 16 (kq hs38 sm38 16 (kq hs37 sm37 16 (D36.k q531)))))))))))))))))))))))))))))))))))))))))))))))))))))))))))) fun a140 s132 hs90 ok136 r90 sm90 => ?_
                  have q1013 := kq hs90 sm90 237 q1009
                  have q1015 : At (Ty.lst Ty.int (upT a GS.length i)) s132 a140 (.tmp 240) := r90
                  clear r90
                  refine tD (T := (Ty.nat (List.length (upT a GS.length i)))) ok136 q1013 (y_len Try.underlying22 q1015) fun a141 s133 hs91 ok137 r91 sm91 => ?_
                  have q1018 := kq hs91 sm91 237 q1013
                  have q1020 : At (Ty.nat (List.length (upT a GS.length i))) s133 a141 (.tmp 241) := r91
                  clear r91
                  refine tD (T := (Ty.bool (decide ((((List.length (g6)) : Nat) : Int) ≤ (((List.length (upT a GS.length i)) : Nat) : Int))))) ok137 q1018 (y_leq (kq hs91 sm91 239 (kq hs90 sm90 239 q1010)) q1020) fun a142 s134 hs92 ok138 r92 sm92 => ?_
                  have q1024 : At (Ty.bool (decide ((((List.length (g6)) : Nat) : Int) ≤ (((List.length (upT a GS.length i)) : Nat) : Int)))) s134 a142 (.tmp 242) := r92
                  clear r92
                  refine tL (R := (fun v τ => Pr.has (Ty.pr (Ty.bool (decide ((((List.length (g6)) : Nat) : Int) ≤ (((List.length (upT a GS.length i)) : Nat) : Int))))) τ v)) ok138 (Yld.toL (y_pickT (kq hs92 sm92 237 q1018) q1024)) fun a143 s135 hs93 ok139 r93 sm93 => ?_
                  have q1027 : At (Ty.bool (decide ((((List.length (g6)) : Nat) : Int) ≤ (((List.length (upT a GS.length i)) : Nat) : Int)))) s135 a143 (.tmp 243) := r93
                  clear r93
                  refine tL ok139 (Yld.toL (y_mv q1027)) fun a144 s136 hs94 ok140 r94 sm94 => ?_
                  have q1030 : At (Ty.bool (decide ((((List.length (g6)) : Nat) : Int) ≤ (((List.length (upT a GS.length i)) : Nat) : Int)))) s136 a144 (.tmp 244) := r94
                  clear r94
                  rcases Bool.eq_false_or_eq_true (decide ((((List.length (g6)) : Nat) : Int) ≤ (((List.length (upT a GS.length i)) : Nat) : Int))) with hg6 | hg6
                  ·
                   have q1031 : At (Ty.bool true) s136 a144 (.tmp 244) := cvb hg6 q1030
                   refine tD (T := (Ty.lst Ty.ints (g7))) ok140 q1031 (y_move (kq hs94 sm94 31 (kq hs93 sm93 31 (kq hs92 sm92 31 (kq hs91 sm91 31 (kq hs90 sm90 31 (kq hs89 sm89 31 (kq hs88 sm88 31 (kq hs87 sm87 31 (kq hs86 sm86 31 (kq hs85 sm85 31 (kq hs84 sm84 31 (kq hs83 sm83 31 (kq hs82 sm82 31 (kq hs81 sm81 31 (kq hs80 sm80 31 (kq hs79 sm79 31 (kq hs78 sm78 31 (kq hs77 sm77 31 (kq hs76 sm76 31 (kq hs75 sm75 31 (kq hs74 sm74 31 (kq hs73 sm73 31 (kq hs72 sm72 31 (D42.k (kq hs71 sm71 31 q857)))))))))))))))))))))))))) fun a145 s137 hs95 ok141 r95 sm95 => ?_
                   have q1033 := kq hs95 sm95 244 q1031
                   have q1034 : At (Ty.lst Ty.ints (g7)) s137 a145 (.tmp 245) := r95
                   clear r95
                   refine tD (T := (Ty.nat (List.length (g7)))) ok141 q1033 (y_len Try.underlying24 q1034) fun a146 s138 hs96 ok142 r96 sm96 => ?_
                   have q1036 := kq hs96 sm96 244 q1033
                   have q1037 : At (Ty.nat (List.length (g7))) s138 a146 (.tmp 246) := r96
                   clear r96
                   refine tD (T := (Ty.val x1)) ok142 q1036 (y_move (kq hs96 sm96 14 (kq hs95 sm95 14 (kq hs94 sm94 14 (kq hs93 sm93 14 (kq hs92 sm92 14 (kq hs91 sm91 14 (kq hs90 sm90 14 (kq hs89 sm89 14 (kq hs88 sm88 14 (kq hs87 sm87 14 (kq hs86 sm86 14 (kq hs85 sm85 14 (kq hs84 sm84 14 (kq hs83 sm83 14 (kq hs82 sm82 14 (kq hs81 sm81 14 (kq hs80 sm80 14 (kq hs79 sm79 14 (kq hs78 sm78 14 (kq hs77 sm77 14 (kq hs76 sm76 14 (kq hs75 sm75 14 (kq hs74 sm74 14 (kq hs73 sm73 14 (kq hs72 sm72 14 (D42.k (kq hs71 sm71 14 (kq hs70 sm70 14 (kq hs69 sm69 14 (kq hs68 sm68 14 (kq hs67 sm67 14 (kq hs66 sm66 14 (D41.k q801)))))))))))))))))))))))))))))))))) fun a147 s139 hs97 ok143 r97 sm97 => ?_
                   have q1038 := kq hs97 sm97 244 q1036
                   have q1040 : At (Ty.val x1) s139 a147 (.tmp 247) := r97
                   clear r97
                   refine tailDo (L := [61, 62, 63]) (R := (fun v τ' => ∃ τ, (fun v τ => (Ty.has (Ty.nat (szTo (((((((((((((N))))))))))))) (fun y => y ∈ ((((((((((((GS))))))))))))) (((((((((((((N))))))))))))))) τ v) ∧ (OwnP τ 41 x1 [(Ty.nat (((((((((((((N)))))))))))))), (Ty.val x3), (Ty.val x2)]) ∧ (ChnU τ 42 22 108 x2 (((((((((((((N))))))))))))) (((((((((g1))))))))) (((((((((g2)))))))))) ∧ (Own τ 43 22 1 x3 (List.length ((((((((((((GS))))))))))))) (List.map Ty.ints ((((((((((((GS))))))))))))))) v τ ∧ Back [(41, 61), (42, 62), (43, 63)] τ τ')) ok143 rfl rfl dE q1038 rfl rfl dE (y_callL (L := [41, 42, 43]) [(61, 41), (62, 42), (63, 43)] [(41, 61), (42, 62), (43, 63)] #[a147.eval (.tmp 247)] rfl dE Try.func42 rfl rfl my1 (gSize_fn (x1) (x3) (x2) (((((((((g2))))))))) (((((((((((((N))))))))))))) (((((((((g1))))))))) ((((((((((((GS)))))))))))) _ lW _ (uL q1040) (OwnP.ren (ownp_cell 0 (Ty.nat (((((((((((((N)))))))))))))) (OwnP.kl (OwnP.kl (OwnP.kl (OwnP.kl (OwnP.kl (OwnP.kl (OwnP.kl (OwnP.kl (OwnP.kl (OwnP.kl (OwnP.kl (OwnP.kl (OwnP.kl (OwnP.kl (OwnP.kl (OwnP.kl (OwnP.kl (OwnP.kl (OwnP.kl (OwnP.kl (OwnP.kl (OwnP.kl (OwnP.kl (OwnP.kl (OwnP.kl (OwnP.kl o595 hs72) hs73) hs74) hs75) hs76) hs77) hs78) hs79) hs80) hs81) hs82) hs83) hs84) hs85) hs86) hs87) hs88) hs89) hs90) hs91) hs92) hs93) hs94) hs95) hs96) hs97) rfl (fun _ _ h => (cJ h))) (GW.ren_lend _ _ dE rfl)) (ChnU.ren (cvch (by (rfl)) (ChnU.kl (ChnU.kl (ChnU.kl (ChnU.kl (ChnU.kl (ChnU.kl (ChnU.kl (ChnU.kl (ChnU.kl (ChnU.kl (ChnU.kl (ChnU.kl (ChnU.kl (ChnU.kl (ChnU.kl (ChnU.kl (ChnU.kl (ChnU.kl (ChnU.kl (ChnU.kl (ChnU.kl (ChnU.kl (ChnU.kl (ChnU.kl (ChnU.kl (ChnU.kl o596 hs72) hs73) hs74) hs75) hs76) hs77) hs78) hs79) hs80) hs81) hs82) hs83) hs84) hs85) hs86) hs87) hs88) hs89) hs90) hs91) hs92) hs93) hs94) hs95) hs96) hs97)) (GW.ren_lend _ _ dE rfl)) (Own.ren (cvo (by (simp)) (by (simp)) (Own.kl (Own.kl (Own.kl (Own.kl (Own.kl (Own.kl (Own.kl (Own.kl (Own.kl (Own.kl (Own.kl (Own.kl (Own.kl (Own.kl (Own.kl (Own.kl (Own.kl (Own.kl (Own.kl (Own.kl (Own.kl (Own.kl (Own.kl (Own.kl (Own.kl (Own.kl o597 hs72) hs73) hs74) hs75) hs76) hs77) hs78) hs79) hs80) hs81) hs82) hs83) hs84) hs85) hs86) hs87) hs88) hs89) hs90) hs91) hs92) hs93) hs94) hs95) hs96) hs97)) (GW.ren_lend _ _ dE rfl)) oX oX)) (fun a148 s140 hs98 ok144 r98 sm98 => ?_)
                   have q1041 := kq hs98 sm98 244 q1038
                   obtain ⟨t24, ⟨hT14, o754, o755, o756⟩, B14⟩ := r98
                   have q1043 : At (Ty.nat (szTo (((((((((((((N))))))))))))) (fun y => y ∈ ((((((((((((GS))))))))))))) (((((((((((((N))))))))))))))) s140 a148 (.tmp 248) := Ty.up _ B14.le hT14
                   have o757 : OwnP s140 61 x1 [(Ty.nat (((((((((((((N)))))))))))))), (Ty.val x3), (Ty.val x2)] := OwnP.ren o754 (B14.ren dE rfl)
                   have o758 : ChnU s140 62 22 108 x2 (((((((((((((N))))))))))))) (((((((((g1))))))))) (((((((((g2))))))))) := ChnU.ren o755 (B14.ren dE rfl)
                   have o759 : Own s140 63 22 1 x3 (List.length ((((((((((((GS))))))))))))) (List.map Ty.ints ((((((((((((GS))))))))))))) := Own.ren o756 (B14.ren dE rfl)
                   refine tD (T := (Ty.bool (decide ((((List.length (g7)) : Nat) : Int) = (((szTo (((((((((((((N))))))))))))) (fun y => y ∈ ((((((((((((GS))))))))))))) (((((((((((((N)))))))))))))) : Nat) : Int))))) ok144 q1041 (y_eql (kq hs98 sm98 246 (kq hs97 sm97 246 q1037)) q1043) fun a149 s141 hs99 ok145 r99 sm99 => ?_
                   have q1045 : At (Ty.bool (decide ((((List.length (g7)) : Nat) : Int) = (((szTo (((((((((((((N))))))))))))) (fun y => y ∈ ((((((((((((GS))))))))))))) (((((((((((((N)))))))))))))) : Nat) : Int)))) s141 a149 (.tmp 249) := r99
                   clear r99
                   refine tL (R := (fun v τ => Pr.has (Ty.pr (Ty.bool (decide ((((List.length (g7)) : Nat) : Int) = (((szTo (((((((((((((N))))))))))))) (fun y => y ∈ ((((((((((((GS))))))))))))) (((((((((((((N)))))))))))))) : Nat) : Int))))) τ v)) ok145 (Yld.toL (y_pickT (kq hs99 sm99 244 q1041) q1045)) fun a150 s142 hs100 ok146 r100 sm100 => ?_
                   have q1046 : At (Ty.bool (decide ((((List.length (g7)) : Nat) : Int) = (((szTo (((((((((((((N))))))))))))) (fun y => y ∈ ((((((((((((GS))))))))))))) (((((((((((((N)))))))))))))) : Nat) : Int)))) s142 a150 (.tmp 250) := r100
                   clear r100
                   refine tL ok146 (Yld.toL (y_as q1046)) fun a151 s143 hs101 ok147 r101 sm101 => ?_
                   have o775 := OwnP.kl (OwnP.kl (OwnP.kl (OwnP.kl (OwnP.kl (OwnP.kl (OwnP.kl (OwnP.kl (OwnP.kl (OwnP.kl (OwnP.kl (OwnP.kl (OwnP.kl (OwnP.kl (OwnP.kl (OwnP.kl (OwnP.kl (OwnP.kl (OwnP.kl (OwnP.kl (OwnP.kl (OwnP.kl (OwnP.kl (OwnP.kl (OwnP.kl (OwnP.kl (OwnP.kl (OwnP.kl (OwnP.kl (OwnP.kl o592 hs72) hs73) hs74) hs75) hs76) hs77) hs78) hs79) hs80) hs81) hs82) hs83) hs84) hs85) hs86) hs87) hs88) hs89) hs90) hs91) hs92) hs93) hs94) hs95) hs96) hs97) hs98) hs99) hs100) hs101; have o776 := ChnU.kl (ChnU.kl (ChnU.kl (ChnU.kl (ChnU.kl (ChnU.kl (ChnU.kl (ChnU.kl (ChnU.kl (ChnU.kl (ChnU.kl (ChnU.kl (ChnU.kl (ChnU.kl (ChnU.kl (ChnU.kl (ChnU.kl (ChnU.kl (ChnU.kl (ChnU.kl (ChnU.kl (ChnU.kl (ChnU.kl (ChnU.kl (ChnU.kl (ChnU.kl (ChnU.kl (ChnU.kl (ChnU.kl (ChnU.kl o593 hs72) hs73) hs74) hs75) hs76) hs77) hs78) hs79) hs80) hs81) hs82) hs83) hs84) hs85) hs86) hs87) hs88) hs89) hs90) hs91) hs92) hs93) hs94) hs95) hs96) hs97) hs98) hs99) hs100) hs101; have o777 := Own.kl (Own.kl (Own.kl (Own.kl (Own.kl (Own.kl (Own.kl (Own.kl (Own.kl (Own.kl (Own.kl (Own.kl (Own.kl (Own.kl (Own.kl (Own.kl (Own.kl (Own.kl (Own.kl (Own.kl (Own.kl (Own.kl (Own.kl (Own.kl (Own.kl (Own.kl (Own.kl (Own.kl (Own.kl (Own.kl o594 hs72) hs73) hs74) hs75) hs76) hs77) hs78) hs79) hs80) hs81) hs82) hs83) hs84) hs85) hs86) hs87) hs88) hs89) hs90) hs91) hs92) hs93) hs94) hs95) hs96) hs97) hs98) hs99) hs100) hs101; have o778 := OwnP.kl (OwnP.kl (OwnP.kl o757 hs99) hs100) hs101; have o779 := ChnU.kl (ChnU.kl (ChnU.kl o758 hs99) hs100) hs101; have o780 := Own.kl (Own.kl (Own.kl o759 hs99) hs100) hs101
                   have q1047 : At (Ty.bool (decide ((((List.length (g7)) : Nat) : Int) = (((szTo (((((((((((((N))))))))))))) (fun y => y ∈ ((((((((((((GS))))))))))))) (((((((((((((N)))))))))))))) : Nat) : Int)))) s143 a151 (.tmp 12) := r101
                   clear r101; refine wpList_nil (tn (wp_ret ?_))
                   exact retL1 rfl ok147 ((((((((((((((((((((((((((((((((((((((((((((((((((((F96.step0 D39.stp).sl hs54).sl hs55).sl hs56).sl hs57).sl hs58).sl hs59).step0 D40.stp).sl hs60).sl hs61).sl hs62).sl hs63).sl hs64).sl hs65).step0 D41.stp).sl hs66).sl hs67).sl hs68).sl hs69).sl hs70).sl hs71).step0 D42.stp).sl hs72).sl hs73).sl hs74).sl hs75).sl hs76).sl hs77).sl hs78).sl hs79).sl hs80).sl hs81).sl hs82).sl hs83).sl hs84).sl hs85).sl hs86).sl hs87).sl hs88).sl hs89).sl hs90).sl hs91).sl hs92).sl hs93).sl hs94).sl hs95).sl hs96).sl hs97).sl hs98).sl hs99).sl hs100).sl hs101) (cvb (by (first | rfl | omega | (simp_all; done) | (simp_all; omega))) q1047)
                  · (have h_ := of_decide_eq_false hg6; exact (h_ oM).elim)
                 · (have h_ := of_decide_eq_false hg5; exact (h_ hR4).elim)
                · (have h_ := of_decide_eq_false hg4; exact (h_ hEL).elim)
               · (have h_ := of_decide_eq_false hg3; exact (h_ hE3).elim)
              · (have h_ := of_decide_eq_false hg2; exact (h_ hwE).elim)


end Go.Proofs.Ytkjifbgofckfeaa
