/- The functions that the law GroupMade reaches, each by its contract. Part 7. -/
import Derived.Test.YtkjifbgofckfeaaGroupMadeW6
namespace Go.Proofs.Ytkjifbgofckfeaa
open Go.KL

set_option maxHeartbeats 4000000 in
set_option maxRecDepth 100000 in
theorem gOrbits_fn (gv : Value) (gs : Value) (cs : Value) (n : Nat) (gens : List (List Int)) (σ : GW) (hlow : Low [41, 43] σ) (v0 : Value) (hv0 : Ty.has (Ty.val gv) σ v0) (ho_gv : OwnP σ 41 gv [(Ty.nat n), (Ty.val gs), (Ty.val cs)]) (ho_gs : Own σ 43 22 1 gs (List.length gens) (List.map Ty.ints gens)) (hn : 1 ≤ n ∧ n ≤ 12) (hG : ∀ x ∈ gens, RowN n x) (hGl : gens.length ≤ 1000000) :
    FnL Try.prog 57 #[v0] σ [41, 43] (fun v τ => (Ty.has (Ty.lst Ty.ints (orbsL n gens n)) τ v) ∧ (OwnP τ 41 gv [(Ty.nat n), (Ty.val gs), (Ty.val cs)]) ∧ (Own τ 43 22 1 gs (List.length gens) (List.map Ty.ints gens))) := by
 refine fn_introL hlow Try.func57 rfl Try.ntmps57 (Nat.le_of_ble_eq_true rfl) (fun a0 F0 ok0 hargs => ?_)
 have p0 := pB (hargs 0 _ rfl) hv0
 clear hargs; refine wp_seq ?_
 refine gI a0 σ ok0 (gC (Ty.val (Value.slice none 0 0)) (gE ok0 fun a1 s1 ok1 D1 => ?_)); have q1 := D1.k p0; have o1 := OwnP.k0 ho_gv D1.stp; have o2 := Own.k0 ho_gs D1.stp; refine tn (wp_seq ?_)
 refine gI a1 s1 ok1 (gM q1 (gT (Ty.val gv) rfl (fun A B E H I d0 => rP (y_nilp (OwnP.k0 o1 E) (eI d0))) (gT (Ty.val (ptrAt gv 0)) rfl (fun A B E H I d0 => rP (ownp_field Try.fld95_0 Try.inf3 dE (OwnP.k0 o1 E) (eI d0))) (gS rfl (fun A B E H I d0 => rP (ownp_load Try.underlying3 rfl (OwnP.k0 o1 E) (eI d0) rfl)) (gR (Pr.own 20 3 1 n (List.map Ty.int (List.replicate n 0))) rfl (by intro A B E H I d0 d1; have e3 := ed d0 rfl rfl rfl; exact rP ((y_make (k := 20) (T := Ty.int 0) (n := n) Try.underlying22 Try.inf3 rfl (fun _ => rfl) e3 e3 oM oM).mono (fun _ _ h => cvo (by simp) (by simp) h))) (gE2 ok1 fun a2 s2 ok2 D2 => ?_)))))); have o3 := OwnP.k0 o1 D2.stp; have o4 := Own.k0 o2 D2.stp
 obtain ⟨x1, hx1⟩ : ∃ x, a2.eval (.tmp 15) = x := ⟨_, rfl⟩
 have q3 : At (Ty.val x1) s2 a2 (.tmp 15) := hx1
 have o5 := al2 (R := (Pr.own 20 3 1 n (List.map Ty.int (List.replicate n 0)))) hx1 (D2.done 4 dE)
 refine tL ok2 (Yld.toL (y_as q3)) fun a3 s3 hs1 ok3 r1 sm1 => ?_
 have q5 : At (Ty.val x1) s3 a3 (.tmp 3) := r1
 clear r1; refine wpList_nil (tn (wp_seq ?_))
 refine gI a3 s3 ok3 (gC (Ty.val (Value.slice none 0 0)) (gE ok3 fun a4 s4 ok4 D3 => ?_)); have q6 := D3.k (kq hs1 sm1 0 (D2.k q1)); have o9 := OwnP.k0 (OwnP.kl o3 hs1) D3.stp; have o10 := Own.k0 (Own.kl o4 hs1) D3.stp; have o11 := Own.k0 (Own.kl o5 hs1) D3.stp; refine tn (wp_seq (wp_seq ?_))
 refine gI a4 s4 ok4 (gM q6 (gT (Ty.val gv) rfl (fun A B E H I d0 => rP (y_nilp (OwnP.k0 o9 E) (eI d0))) (gT (Ty.val (ptrAt gv 0)) rfl (fun A B E H I d0 => rP (ownp_field Try.fld95_0 Try.inf3 dE (OwnP.k0 o9 E) (eI d0))) (gS rfl (fun A B E H I d0 => rP (ownp_load Try.underlying3 rfl (OwnP.k0 o9 E) (eI d0) rfl)) (gT (Ty.int (0 : Int)) rfl (fun A B E H I => rP (y_move rfl)) (gE ok4 fun a5 s5 ok5 D4 => ?_)))))); have o12 := OwnP.k0 o9 D4.stp; have o13 := Own.k0 o10 D4.stp; have o14 := Own.k0 o11 D4.stp; refine tn (wp_block ?_)
 have o15 : Own s5 22 22 1 (Value.slice none 0 0) 0 (List.map Ty.ints ([] : List (List Int))) := Own.nil _ _ _ _
 refine loop (fun n1 a6 w1 => ∃ (t1 : GW) (b : Nat) (S : (List Int)) (x3_0 x4_0 : Value), t1.w = w1 ∧ FromL [41, 43] σ t1 ∧ Ok 82 [] a6 ∧ At (Ty.nat b) t1 a6 (.tmp 20) ∧ At (Ty.val x3_0) t1 a6 (.tmp 3) ∧ At (Ty.val x4_0) t1 a6 (.tmp 4) ∧ At (Ty.val gv) t1 a6 (.tmp 0) ∧ At (Ty.nat n) t1 a6 (.tmp 19) ∧ Own t1 20 3 1 x3_0 (List.length S) (List.map Ty.int S) ∧ Own t1 22 22 1 x4_0 (List.length (orbsL n gens b)) (List.map Ty.ints (orbsL n gens b)) ∧ OwnP t1 41 gv [(Ty.nat n), (Ty.val gs), (Ty.val cs)] ∧ Own t1 43 22 1 gs (List.length gens) (List.map Ty.ints gens) ∧ (b ≤ n) ∧ (SnO n gens b S) ∧ n1 = n - b) (n - (0)) ?_ ?_
 ·
  exact ⟨s5, 0, (List.replicate n 0), x1, (Value.slice none 0 0), rfl, (((((F0.step0 D1.stp).step0 D2.stp).sl hs1).step0 D3.stp).step0 D4.stp), ok5, (cJ (D4.m 4 rfl)), (D4.k (D3.k q5)), (D4.k (D3.m 0 rfl)), (D4.k q6), (D4.m 3 rfl), (cvo (by (first | rfl | simp)) (by (first | rfl | simp)) o14), (cvo (by (first | rfl | simp [orbsL])) (by (first | rfl | simp [orbsL])) o15), o12, o13, by omega, SnO.start, rfl⟩
 ·
  rintro n2 a7 w2 ⟨t2, b, S, x3_0, x4_0, rfl, F6, ok6, q14, q15, q16, q17, q18, o16, o17, o18, o19, hb, hS, rfl⟩
  have hol := orbs_len (n := n) (G := gens) (m := b)
  have hsl := hS.len
  refine wp_seq ?_
  refine gI a7 t2 ok6 (gS rfl (fun A B E H I => rP (y_lss (kp (I 20 rfl) E q14) (kp (I 19 rfl) E q18))) (gE ok6 fun a8 s6 ok7 D5 => ?_)); have F7 := F6.step0 D5.stp; have q19 := D5.k q14; have q21 := D5.k q16; have o20 := Own.k0 o16 D5.stp; have o21 := Own.k0 o17 D5.stp; have o22 := OwnP.k0 o18 D5.stp; have o23 := Own.k0 o19 D5.stp; refine tn (wp_seq ?_)
  refine cond_p (p := (((b : Nat) : Int) < ((n : Nat) : Int))) (D5.m 0 rfl) (fun c1 => ?_) (fun c1 => ?_)
  ·
   refine wp_skip (tn (wp_seq (wp_block (wp_seq ?_))))
   refine gI a8 s6 ok7 (gM q19 (gB 0 (gE ok7 fun a9 s7 ok8 D6 => ?_))); have q26 := D6.k (D5.k q15); have o24 := Own.k0 o20 D6.stp; have o25 := Own.k0 o21 D6.stp; have o26 := OwnP.k0 o22 D6.stp; have o27 := Own.k0 o23 D6.stp; have q30 := D6.m 1 rfl; refine tn (wp_seq (wp_seq ?_))
   refine gI a9 s7 ok8 (gM q26 (gM q30 (gT (Ty.val (cellPtr x3_0 b)) rfl (fun A B E H I d0 d1 => rP (own_index1 (i := ((b : Nat) : Int)) Try.underlying22 Try.inf3 (Own.k0 o24 E) (eI d0) (eI d1) oM oM)) (gS rfl (fun A B E H I d0 => rP (own_load Try.underlying3 rfl (Own.k0 o24 E) (eI d0) (lst_get Ty.int S 0 b oM))) (gS rfl (fun A B E H I d0 => rP (y_gtr (eI d0) rfl)) (gE ok8 fun a10 s8 ok9 D7 => ?_)))))); have F9 := (F7.step0 D6.stp).step0 D7.stp; have q31 := D7.k (D6.k q19); have q32 := D7.k q26; have q33 := D7.k (D6.k q21); have q34 := D7.k (D6.k (D5.k q17)); have q35 := D7.k (D6.k (D5.k q18)); have q36 := D7.k q30; have o28 := Own.k0 o24 D7.stp; have o29 := Own.k0 o25 D7.stp; have o30 := OwnP.k0 o26 D7.stp; have o31 := Own.k0 o27 D7.stp; refine tn ?_
   refine cond_p (p := ((0 : Int) < (S.getD b 0))) (D7.m 4 rfl) (fun c2 => ?_) (fun c2 => ?_)
   ·
    obtain ⟨hS3, hob⟩ := hS.skip hn hG oM oM
    refine wp_exit (tx (bx (tn ?_)))
    refine gI a10 s8 ok9 (gT (Ty.nat (b + 1)) rfl (fun A B E H I => rP ((y_add (kp (I 20 rfl) E q31) rfl wX).mono (fun τ _ h => cN (σ := τ) h))) (gS rfl (fun A B E H I d0 => rP (y_move (eI d0))) (gE ok9 fun a11 s9 ok10 D8 => ?_))); have o32 := Own.k0 o28 D8.stp; have o33 := Own.k0 o29 D8.stp; have o34 := OwnP.k0 o30 D8.stp; have o35 := Own.k0 o31 D8.stp
    exact tn ⟨n - ((b+1)), by omega, s9, (b+1), S, x3_0, x4_0, rfl, (F9.step0 D8.stp), ok10, (cJ (D8.m 1 rfl)), (D8.k q32), (D8.k q33), (D8.k q34), (D8.k q35), o32, (cvo (by (rw [hob])) (by (rw [hob])) o33), o34, o35, by omega, hS3, rfl⟩
   ·
    have hO0 := OBf.start hS (show b < n by omega) oM; have hvb := hS.v b oM
    refine wp_skip (tn (wp_seq ?_))
    refine gI a10 s8 ok9 (gM q36 (gR (Pr.own 21 3 1 1 (List.map Ty.int [((b : Nat) : Int)])) rfl (by intro A B E H I d0; exact rP ((y_lit1 (k := 21) Try.underlying22 Try.inf3 rfl (one_val rfl) (eI d0)).mono (fun _ _ h => cvo (by simp) (by first | (simp; done) | rfl) h))) (gE2 ok9 fun a12 s10 ok11 D9 => ?_))); have o36 := Own.k0 o28 D9.stp; have o37 := Own.k0 o29 D9.stp; have o38 := OwnP.k0 o30 D9.stp; have o39 := Own.k0 o31 D9.stp
    obtain ⟨x2, hx2⟩ : ∃ x, a12.eval (.tmp 29) = x := ⟨_, rfl⟩
    have q49 : At (Ty.val x2) s10 a12 (.tmp 29) := hx2
    have o40 := al2 (R := (Pr.own 21 3 1 1 (List.map Ty.int [((b : Nat) : Int)]))) hx2 (D9.done 1 dE)
    refine tL ok11 (Yld.toL (y_as q49)) fun a13 s11 hs2 ok12 r2 sm2 => ?_
    have q51 := kq hs2 sm2 3 (D9.k q32); have o41 := Own.kl o36 hs2
    have q56 : At (Ty.val x2) s11 a13 (.tmp 6) := r2
    clear r2; refine wpList_nil (tn (wp_seq ?_))
    refine gI a13 s11 ok12 (gM q51 (gM (kq hs2 sm2 5 (D9.k q36)) (gT (Ty.val (cellPtr x3_0 b)) rfl (fun A B E H I d0 d1 => rP (own_index1 (i := ((b : Nat) : Int)) Try.underlying22 Try.inf3 (Own.k0 o41 E) (eI d0) (eI d1) oM oM)) (gS rfl (fun A B E H I d0 => rP (own_load Try.underlying3 rfl (Own.k0 o41 E) (eI d0) (lst_get Ty.int S 0 b oM))) (gT (Ty.int ((S.getD b 0) + (1 : Int))) rfl (fun A B E H I d0 => rP (y_add (eI d0) rfl wX)) (gT (Ty.val (cellPtr x3_0 b)) rfl (fun A B E H I d0 d1 d2 d3 d4 d5 d6 => rP (own_index1 (i := ((b : Nat) : Int)) Try.underlying22 Try.inf3 (Own.k0 o41 E) (eI d0) (eI d1) oM oM)) (gE2 ok12 fun a14 s12 ok13 D10 => ?_))))))); have o46 := Own.k0 o41 D10.stp; have o47 := Own.k0 (Own.kl o37 hs2) D10.stp; have o48 := OwnP.k0 (OwnP.kl o38 hs2) D10.stp; have o49 := Own.k0 (Own.kl o39 hs2) D10.stp; have o50 := Own.k0 (Own.kl o40 hs2) D10.stp
    refine tailL0 (L := [20]) (R := (fun _ τ => Own τ 20 3 1 x3_0 (List.length S) ((List.map Ty.int S).set b (Ty.int ((S.getD b 0) + (1 : Int)))))) rfl rfl (YldM.toL (m_store Try.inf3 dE o46 (D10.m 5 rfl) (by simp only [List.length_map, List.length_set]; omega) (D10.m 4 rfl) (one_val rfl))) (fun v1 s13 hs3 r3 => ?_)
    have q65 := kpL hs3 dE rfl (D10.k (kq hs2 sm2 20 (D9.k q31))); have q66 := kpL hs3 dE rfl (D10.k q51); have q67 := kpL hs3 dE rfl (D10.k (kq hs2 sm2 4 (D9.k q33))); have q68 := kpL hs3 dE rfl (D10.k (kq hs2 sm2 0 (D9.k q34))); have q69 := kpL hs3 dE rfl (D10.k (kq hs2 sm2 19 (D9.k q35))); have q70 := kpL hs3 dE rfl (D10.k q56)
    have o51 : Own s13 20 3 1 x3_0 (List.length (S.set b ((S.getD b 0) + (1 : Int)))) (List.map Ty.int (S.set b ((S.getD b 0) + (1 : Int)))) := (cvo (by simp) (by first | (simp; done) | (rw [List.map_set]; done) | (rw [List.map_set]; rfl)) r3)
    clear r3; refine wpList_nil (tn (wp_seq (wp_seq ?_)))
    refine gI a14 s13 ok13 (gC (Ty.int (0 : Int)) (gE ok13 fun a15 s14 ok14 D11 => ?_)); have o56 := Own.k0 (Own.kl o47 hs3) D11.stp; have o57 := OwnP.k0 (OwnP.kl o48 hs3) D11.stp; have o58 := Own.k0 (Own.kl o49 hs3) D11.stp; have o59 := Own.k0 (Own.kl o50 hs3) D11.stp; have o60 := Own.k0 o51 D11.stp; refine tn (wp_block ?_)
    refine loop (fun n3 a16 w3 => ∃ (t3 : GW) (i : Nat) (o : (List Int)) (S2 : (List Int)) (x6_1 x3_1 : Value), t3.w = w3 ∧ FromL [41, 43] σ t3 ∧ Ok 82 [] a16 ∧ At (Ty.nat i) t3 a16 (.tmp 7) ∧ At (Ty.val x6_1) t3 a16 (.tmp 6) ∧ At (Ty.val x3_1) t3 a16 (.tmp 3) ∧ At (Ty.nat b) t3 a16 (.tmp 20) ∧ At (Ty.val x4_0) t3 a16 (.tmp 4) ∧ At (Ty.val gv) t3 a16 (.tmp 0) ∧ At (Ty.nat n) t3 a16 (.tmp 19) ∧ Own t3 21 3 1 x6_1 (List.length o) (List.map Ty.int o) ∧ Own t3 20 3 1 x3_1 (List.length S2) (List.map Ty.int S2) ∧ Own t3 22 22 1 x4_0 (List.length (orbsL n gens b)) (List.map Ty.ints (orbsL n gens b)) ∧ OwnP t3 41 gv [(Ty.nat n), (Ty.val gs), (Ty.val cs)] ∧ Own t3 43 22 1 gs (List.length gens) (List.map Ty.ints gens) ∧ (OBf n gens b o S2 i 0) ∧ n3 = n + 1 - i) (n + 1 - (0)) ?_ ?_
    ·
     exact ⟨s14, 0, [(b : Int)], (S.set b (S.getD b 0 + 1)), x2, x3_0, rfl, (((((F9.step0 D9.stp).sl hs2).step0 D10.stp).sl hs3).step0 D11.stp), ok14, (cJ (D11.m 0 rfl)), (D11.k q70), (D11.k q66), (D11.k q65), (D11.k q67), (D11.k q68), (D11.k q69), (cvo (by (first | rfl | simp)) (by (first | rfl | simp)) o59), (cvo (by (first | rfl | simp)) (by (first | rfl | simp)) o60), o56, o57, o58, hO0, rfl⟩
    ·
     rintro n4 a17 w4 ⟨t4, i, o, S2, x6_1, x3_1, rfl, F16, ok15, q79, q80, q81, q82, q83, q84, q85, o61, o62, o63, o64, o65, hO, rfl⟩
     have hoo := hO.olen
     have hil := hO.il
     have hsl2 := hO.len
     refine wp_seq (wp_seq ?_)
     refine gI a17 t4 ok15 (gM q79 (gM q80 (gT (Ty.nat (List.length o)) rfl (fun A B E H I d0 => rP (own_len Try.underlying22 (al (R := (Pr.own 21 3 1 (List.length o) (List.map Ty.int o))) (eI d0) (Own.k0 o61 E)))) (gS rfl (fun A B E H I d0 d1 => rP (y_lss (eI d0) (eI d1))) (gE ok15 fun a18 s15 ok16 D12 => ?_))))); have F17 := F16.step0 D12.stp; have q87 := D12.k q80; have q88 := D12.k q81; have q89 := D12.k q82; have q90 := D12.k q83; have q91 := D12.k q84; have q92 := D12.k q85; have o66 := Own.k0 o61 D12.stp; have o67 := Own.k0 o62 D12.stp; have o68 := Own.k0 o63 D12.stp; have o69 := OwnP.k0 o64 D12.stp; have o70 := Own.k0 o65 D12.stp; refine tn ?_
     refine cond_p (p := (((i : Nat) : Int) < (((List.length o) : Nat) : Int))) (D12.m 3 rfl) (fun c3 => ?_) (fun c3 => ?_)
     ·
      have hat0 := hO.at_ (show i < o.length by omega)
      refine wp_skip (tn (wp_seq (wp_block (wp_seq ?_))))
      refine gI a18 s15 ok16 (gM q91 (gT (Ty.val gv) rfl (fun A B E H I d0 => rP (y_nilp (OwnP.k0 o69 E) (eI d0))) (gT (Ty.val (ptrAt gv 1)) rfl (fun A B E H I d0 => rP (ownp_field Try.fld95_1 Try.inf24 dE (OwnP.k0 o69 E) (eI d0))) (gS rfl (fun A B E H I d0 => rP (ownp_load Try.underlying24 rfl (OwnP.k0 o69 E) (eI d0) rfl)) (gT (Ty.nat (List.length gens)) rfl (fun A B E H I d0 => rP (own_len Try.underlying24 (al (R := (Pr.own 43 22 1 (List.length gens) (List.map Ty.ints gens))) (eI d0) (Own.k0 o70 E)))) (gT (Ty.int (0 : Int)) rfl (fun A B E H I => rP (y_move rfl)) (gE ok16 fun a19 s16 ok17 D13 => ?_))))))); have o71 := Own.k0 o66 D13.stp; have o72 := Own.k0 o67 D13.stp; have o73 := Own.k0 o68 D13.stp; have o74 := OwnP.k0 o69 D13.stp; have o75 := Own.k0 o70 D13.stp; refine tn (wp_block ?_)
      refine loop (fun n5 a20 w5 => ∃ (t5 : GW) (j : Nat) (o2 : (List Int)) (S3 : (List Int)) (x6_2 x3_2 : Value), t5.w = w5 ∧ FromL [41, 43] σ t5 ∧ Ok 82 [] a20 ∧ At (Ty.nat j) t5 a20 (.tmp 47) ∧ At (Ty.val x6_2) t5 a20 (.tmp 6) ∧ At (Ty.val x3_2) t5 a20 (.tmp 3) ∧ At (Ty.nat i) t5 a20 (.tmp 7) ∧ At (Ty.nat b) t5 a20 (.tmp 20) ∧ At (Ty.val x4_0) t5 a20 (.tmp 4) ∧ At (Ty.val gv) t5 a20 (.tmp 0) ∧ At (Ty.nat n) t5 a20 (.tmp 19) ∧ At (Ty.val gs) t5 a20 (.tmp 45) ∧ At (Ty.nat (List.length gens)) t5 a20 (.tmp 46) ∧ Own t5 21 3 1 x6_2 (List.length o2) (List.map Ty.int o2) ∧ Own t5 20 3 1 x3_2 (List.length S3) (List.map Ty.int S3) ∧ Own t5 22 22 1 x4_0 (List.length (orbsL n gens b)) (List.map Ty.ints (orbsL n gens b)) ∧ OwnP t5 41 gv [(Ty.nat n), (Ty.val gs), (Ty.val cs)] ∧ Own t5 43 22 1 gs (List.length gens) (List.map Ty.ints gens) ∧ (j ≤ gens.length) ∧ (OBf n gens b o2 S3 i j) ∧ (i < o2.length) ∧ n5 = gens.length - j) (gens.length - (0)) ?_ ?_
      ·
       exact ⟨s16, 0, o, S2, x6_1, x3_1, rfl, (F17.step0 D13.stp), ok17, (cJ (D13.m 5 rfl)), (D13.k q87), (D13.k q88), (D13.k (D12.k q79)), (D13.k q89), (D13.k q90), (D13.k q91), (D13.k q92), (D13.m 3 rfl), (D13.m 4 rfl), (cvo (by (simp)) (by (simp)) o71), (cvo (by (simp)) (by (simp)) o72), o73, o74, o75, by omega, hO, by omega, rfl⟩
      ·
       rintro n6 a21 w6 ⟨t6, j, o2, S3, x6_2, x3_2, rfl, F19, ok18, q104, q105, q106, q107, q108, q109, q110, q111, q112, q113, o76, o77, o78, o79, o80, hj, hO2, hi2, rfl⟩
       have hoo2 := hO2.olen
       have hsl3 := hO2.len
       refine wp_seq ?_
       refine gI a21 t6 ok18 (gS rfl (fun A B E H I => rP (y_lss (kp (I 47 rfl) E q104) (kp (I 46 rfl) E q113))) (gE ok18 fun a22 s17 ok19 D14 => ?_)); have F20 := F19.step0 D14.stp; have q114 := D14.k q104; have q115 := D14.k q105; have q116 := D14.k q106; have q117 := D14.k q107; have q118 := D14.k q108; have q119 := D14.k q109; have q120 := D14.k q110; have q121 := D14.k q111; have q122 := D14.k q112; have o81 := Own.k0 o76 D14.stp; have o82 := Own.k0 o77 D14.stp; have o83 := Own.k0 o78 D14.stp; have o84 := OwnP.k0 o79 D14.stp; have o85 := Own.k0 o80 D14.stp; refine tn (wp_seq ?_)
       refine cond_p (p := (((j : Nat) : Int) < (((List.length gens) : Nat) : Int))) (D14.m 0 rfl) (fun c4 => ?_) (fun c4 => ?_)
       ·
        have hgr := hG _ (mem_atD [] (show j < gens.length by omega)); have hgrl := hgr.len; have hat := hO2.at_ hi2; obtain ⟨q, eq, hq, _⟩ := hO2.img hn hG hi2 (mem_atD [] (show j < gens.length by omega)); have hqb : 0 ≤ ((gens.getD j []).getD (o2.getD i 0).toNat 0) ∧ ((gens.getD j []).getD (o2.getD i 0).toNat 0) < n := oM; have hvq := hO2.v ((gens.getD j []).getD (o2.getD i 0).toNat 0).toNat oM
        refine wp_skip (tn (wp_seq (wp_block (wp_seq ?_))))
        refine gI a22 s17 ok19 (gT (Ty.val (cellPtr gs j)) rfl (fun A B E H I => rP (own_index1 (i := ((j : Nat) : Int)) Try.underlying24 Try.inf22 (Own.k0 o85 E) (kp (I 45 rfl) E q122) (kp (I 47 rfl) E q114) oM oM)) (gS rfl (fun A B E H I d0 => rP (own_load Try.underlying22 rfl (Own.k0 o85 E) (eI d0) (lst_get Ty.ints gens [] j oM))) (gB 0 (gE ok19 fun a23 s18 ok20 D15 => ?_)))); have q126 := D15.k q115; have q128 := D15.k q117; have o86 := Own.k0 o81 D15.stp; have o87 := Own.k0 o82 D15.stp; have o88 := Own.k0 o83 D15.stp; have o89 := OwnP.k0 o84 D15.stp; have o90 := Own.k0 o85 D15.stp; refine tn (wp_seq ?_)
        refine gI a23 s18 ok20 (gM (D15.m 2 rfl) (gM q126 (gM q128 (gT (Ty.val (cellPtr x6_2 i)) rfl (fun A B E H I d0 d1 => rP (own_index1 (i := ((i : Nat) : Int)) Try.underlying22 Try.inf3 (Own.k0 o86 E) (eI d0) (eI d1) oM oM)) (gS rfl (fun A B E H I d0 => rP (own_load Try.underlying3 rfl (Own.k0 o86 E) (eI d0) (lst_get Ty.int o2 0 i oM))) (gT (Ty.ref [(Ty.int ((gens.getD j []).getD ((o2.getD i 0)).toNat 0))]) rfl (fun A B E H I d0 d1 => rP (y_index1 Try.underlying22 Try.inf3 (eI d0) (eI d1) oM (lst_get Ty.int (gens.getD j []) 0 ((o2.getD i 0)).toNat oM))) (gS rfl (fun A B E H I d0 => rP (y_load Try.underlying3 rfl (eI d0) rfl)) (gB 0 (gE ok20 fun a24 s19 ok21 D16 => ?_))))))))); have q138 := D16.k (D15.k q116); have o91 := Own.k0 o86 D16.stp; have o92 := Own.k0 o87 D16.stp; have o93 := Own.k0 o88 D16.stp; have o94 := OwnP.k0 o89 D16.stp; have o95 := Own.k0 o90 D16.stp; have q146 := D16.m 7 rfl; refine tn (wp_seq ?_)
        refine gI a24 s19 ok21 (gM q138 (gM q146 (gT (Ty.val (cellPtr x3_2 (((gens.getD j []).getD ((o2.getD i 0)).toNat 0)).toNat)) rfl (fun A B E H I d0 d1 => rP (own_index1 (i := ((gens.getD j []).getD ((o2.getD i 0)).toNat 0)) Try.underlying22 Try.inf3 (Own.k0 o92 E) (eI d0) (eI d1) oM oM)) (gS rfl (fun A B E H I d0 => rP (own_load Try.underlying3 rfl (Own.k0 o92 E) (eI d0) (lst_get Ty.int S3 0 (((gens.getD j []).getD ((o2.getD i 0)).toNat 0)).toNat oM))) (gS rfl (fun A B E H I d0 => rP (y_eql (eI d0) rfl)) (gE ok21 fun a25 s20 ok22 D17 => ?_)))))); have F23 := ((F20.step0 D15.stp).step0 D16.stp).step0 D17.stp; have q147 := D17.k (D16.k (D15.k q114)); have q148 := D17.k (D16.k q126); have q149 := D17.k q138; have q150 := D17.k (D16.k q128); have q151 := D17.k (D16.k (D15.k q118)); have q152 := D17.k (D16.k (D15.k q119)); have q153 := D17.k (D16.k (D15.k q120)); have q154 := D17.k (D16.k (D15.k q121)); have q155 := D17.k (D16.k (D15.k q122)); have q156 := D17.k (D16.k (D15.k (D14.k q113))); have q157 := D17.k q146; have o96 := Own.k0 o91 D17.stp; have o97 := Own.k0 o92 D17.stp; have o98 := Own.k0 o93 D17.stp; have o99 := OwnP.k0 o94 D17.stp; have o100 := Own.k0 o95 D17.stp; refine tn ?_
        refine cond_p (p := ((S3.getD (((gens.getD j []).getD ((o2.getD i 0)).toNat 0)).toNat 0) = (0 : Int))) (D17.m 4 rfl) (fun c5 => ?_) (fun c5 => ?_)
        ·
         have hz : S3.getD ((gens.getD j []).getD (o2.getD i 0).toNat 0).toNat 0 = 0 := oM
         refine wp_seq ?_
         refine gI a25 s20 ok22 (gM q149 (gM q157 (gT (Ty.val (cellPtr x3_2 (((gens.getD j []).getD ((o2.getD i 0)).toNat 0)).toNat)) rfl (fun A B E H I d0 d1 => rP (own_index1 (i := ((gens.getD j []).getD ((o2.getD i 0)).toNat 0)) Try.underlying22 Try.inf3 (Own.k0 o97 E) (eI d0) (eI d1) oM oM)) (gS rfl (fun A B E H I d0 => rP (own_load Try.underlying3 rfl (Own.k0 o97 E) (eI d0) (lst_get Ty.int S3 0 (((gens.getD j []).getD ((o2.getD i 0)).toNat 0)).toNat oM))) (gT (Ty.int ((S3.getD (((gens.getD j []).getD ((o2.getD i 0)).toNat 0)).toNat 0) + (1 : Int))) rfl (fun A B E H I d0 => rP (y_add (eI d0) rfl wX)) (gT (Ty.val (cellPtr x3_2 (((gens.getD j []).getD ((o2.getD i 0)).toNat 0)).toNat)) rfl (fun A B E H I d0 d1 d2 d3 d4 d5 d6 => rP (own_index1 (i := ((gens.getD j []).getD ((o2.getD i 0)).toNat 0)) Try.underlying22 Try.inf3 (Own.k0 o97 E) (eI d0) (eI d1) oM oM)) (gE2 ok22 fun a26 s21 ok23 D18 => ?_))))))); have o101 := Own.k0 o96 D18.stp; have o102 := Own.k0 o97 D18.stp; have o103 := Own.k0 o98 D18.stp; have o104 := OwnP.k0 o99 D18.stp; have o105 := Own.k0 o100 D18.stp
         refine tailL0 (L := [20]) (R := (fun _ τ => Own τ 20 3 1 x3_2 (List.length S3) ((List.map Ty.int S3).set (((gens.getD j []).getD ((o2.getD i 0)).toNat 0)).toNat (Ty.int ((S3.getD (((gens.getD j []).getD ((o2.getD i 0)).toNat 0)).toNat 0) + (1 : Int)))))) rfl rfl (YldM.toL (m_store Try.inf3 dE o102 (D18.m 5 rfl) (by simp only [List.length_map, List.length_set]; omega) (D18.m 4 rfl) (one_val rfl))) (fun v2 s22 hs4 r4 => ?_)
         have q172 := kpL hs4 dE rfl (D18.k q147); have q173 := kpL hs4 dE rfl (D18.k q148); have q174 := kpL hs4 dE rfl (D18.k q149); have q175 := kpL hs4 dE rfl (D18.k q150); have q176 := kpL hs4 dE rfl (D18.k q151); have q177 := kpL hs4 dE rfl (D18.k q152); have q178 := kpL hs4 dE rfl (D18.k q153); have q179 := kpL hs4 dE rfl (D18.k q154); have q180 := kpL hs4 dE rfl (D18.k q155); have q181 := kpL hs4 dE rfl (D18.k q156); have q182 := kpL hs4 dE rfl (D18.k q157)
         have o106 : Own s22 20 3 1 x3_2 (List.length (S3.set (((gens.getD j []).getD ((o2.getD i 0)).toNat 0)).toNat ((S3.getD (((gens.getD j []).getD ((o2.getD i 0)).toNat 0)).toNat 0) + (1 : Int)))) (List.map Ty.int (S3.set (((gens.getD j []).getD ((o2.getD i 0)).toNat 0)).toNat ((S3.getD (((gens.getD j []).getD ((o2.getD i 0)).toNat 0)).toNat 0) + (1 : Int)))) := (cvo (by simp) (by first | (simp; done) | (rw [List.map_set]; done) | (rw [List.map_set]; rfl)) r4)
         clear r4; refine wpList_nil (tn ?_)
         refine gI a26 s22 ok23 (gM q173 (gM q182 (gT (Ty.sl 1 1 [(Ty.int ((gens.getD j []).getD ((o2.getD i 0)).toNat 0))]) rfl (fun A B E H I d0 => rP (y_build1o Try.underlying22 Try.inf3 rfl (one_val rfl) (eI d0))) (gE2 ok23 fun a27 s23 ok24 D19 => ?_)))); have o111 := Own.k0 (Own.kl o101 hs4) D19.stp; have o112 := Own.k0 (Own.kl o103 hs4) D19.stp; have o113 := OwnP.k0 (OwnP.kl o104 hs4) D19.stp; have o114 := Own.k0 (Own.kl o105 hs4) D19.stp; have o115 := Own.k0 o106 D19.stp
         have q194 : At (Ty.val x6_2) s23 a27 (.tmp 69) := D19.done 0 dE
         have q195 := D19.m 2 rfl
         have b1 := sl_le q195
         refine tL ok24 (YldM.toL (m_append Try.underlying22 Try.inf3 dE rfl dE (al (R := (Pr.own 21 3 1 (List.length o2) (List.map Ty.int o2))) q194 o111) q195 (by intro U hU; simp at hU; subst hU; exact one_val rfl) oM oM)) fun a28 s24 hs5 ok25 r5 sm3 => ?_
         have q197 := kq hs5 sm3 6 (D19.k q173)
         obtain ⟨x3, hx3⟩ : ∃ x, a28.eval (.tmp 72) = x := ⟨_, rfl⟩
         have q206 : At (Ty.val x3) s24 a28 (.tmp 72) := hx3
         have o116 := al2 (R := (Pr.own 21 3 1 (List.length (o2 ++ [((gens.getD j []).getD ((o2.getD i 0)).toNat 0)])) (List.map Ty.int (o2 ++ [((gens.getD j []).getD ((o2.getD i 0)).toNat 0)])))) hx3 (cvo (by simp) (by first | (rw [List.map_append]; rfl) | simp) r5)
         clear r5
         refine tL ok25 (Yld.toL (y_as q206)) fun a29 s25 hs6 ok26 r6 sm4 => ?_
         have q216 : At (Ty.val x3) s25 a29 (.tmp 6) := r6
         clear r6; refine wpList_nil (bn (tn ?_))
         refine gI a29 s25 ok26 (gT (Ty.nat (j + 1)) rfl (fun A B E H I => rP ((y_add (kp (I 47 rfl) E (kq hs6 sm4 47 (kq hs5 sm3 47 (D19.k q172)))) rfl wX).mono (fun τ _ h => cN (σ := τ) h))) (gS rfl (fun A B E H I d0 => rP (y_move (eI d0))) (gE ok26 fun a30 s26 ok27 D20 => ?_))); have o126 := Own.k0 (Own.kl (Own.kl o112 hs5) hs6) D20.stp; have o127 := OwnP.k0 (OwnP.kl (OwnP.kl o113 hs5) hs6) D20.stp; have o128 := Own.k0 (Own.kl (Own.kl o114 hs5) hs6) D20.stp; have o129 := Own.k0 (Own.kl (Own.kl o115 hs5) hs6) D20.stp; have o130 := Own.k0 (Own.kl o116 hs6) D20.stp
         exact tn ⟨gens.length - ((j+1)), by omega, s26, (j+1), (o2 ++ [((gens.getD j []).getD (o2.getD i 0).toNat 0)]), (S3.set ((gens.getD j []).getD (o2.getD i 0).toNat 0).toNat (S3.getD ((gens.getD j []).getD (o2.getD i 0).toNat 0).toNat 0 + 1)), x3, x3_2, rfl, ((((((F23.step0 D18.stp).sl hs4).step0 D19.stp).sl hs5).sl hs6).step0 D20.stp), ok27, (cJ (D20.m 1 rfl)), (D20.k q216), (D20.k (kq hs6 sm4 3 (kq hs5 sm3 3 (D19.k q174)))), (D20.k (kq hs6 sm4 7 (kq hs5 sm3 7 (D19.k q175)))), (D20.k (kq hs6 sm4 20 (kq hs5 sm3 20 (D19.k q176)))), (D20.k (kq hs6 sm4 4 (kq hs5 sm3 4 (D19.k q177)))), (D20.k (kq hs6 sm4 0 (kq hs5 sm3 0 (D19.k q178)))), (D20.k (kq hs6 sm4 19 (kq hs5 sm3 19 (D19.k q179)))), (D20.k (kq hs6 sm4 45 (kq hs5 sm3 45 (D19.k q180)))), (D20.k (kq hs6 sm4 46 (kq hs5 sm3 46 (D19.k q181)))), (cvo (by (simp)) (by (simp)) o130), (cvo (by (simp)) (by (simp)) o129), o126, o127, o128, by omega, hO2.put hn hG hi2 oM hz, by (rw [List.length_append]; omega), rfl⟩
        ·
         have hz : S3.getD ((gens.getD j []).getD (o2.getD i 0).toNat 0).toNat 0 ≠ 0 := oM
         refine wp_skip (bn (tn ?_))
         refine gI a25 s20 ok22 (gT (Ty.nat (j + 1)) rfl (fun A B E H I => rP ((y_add (kp (I 47 rfl) E q147) rfl wX).mono (fun τ _ h => cN (σ := τ) h))) (gS rfl (fun A B E H I d0 => rP (y_move (eI d0))) (gE ok22 fun a31 s27 ok28 D21 => ?_))); have o131 := Own.k0 o96 D21.stp; have o132 := Own.k0 o97 D21.stp; have o133 := Own.k0 o98 D21.stp; have o134 := OwnP.k0 o99 D21.stp; have o135 := Own.k0 o100 D21.stp
         exact tn ⟨gens.length - ((j+1)), by omega, s27, (j+1), o2, S3, x6_2, x3_2, rfl, (F23.step0 D21.stp), ok28, (cJ (D21.m 1 rfl)), (D21.k q148), (D21.k q149), (D21.k q150), (D21.k q151), (D21.k q152), (D21.k q153), (D21.k q154), (D21.k q155), (D21.k q156), o131, o132, o133, o134, o135, by omega, hO2.old hn hG hi2 oM hz, hi2, rfl⟩
       ·
        have ej : j = gens.length := oM; have hO3 := (ej ▸ hO2 : OBf n gens b o2 S3 i gens.length).next hi2
        refine wp_exit (tx (tx (bx (bn (tn ?_)))))
        refine gI a22 s17 ok19 (gM q117 (gT (Ty.nat (i + 1)) rfl (fun A B E H I d0 => rP ((y_add (eI d0) rfl wX).mono (fun τ _ h => cN (σ := τ) h))) (gB 0 (gE ok19 fun a32 s28 ok29 D22 => ?_)))); have o136 := Own.k0 o81 D22.stp; have o137 := Own.k0 o82 D22.stp; have o138 := Own.k0 o83 D22.stp; have o139 := OwnP.k0 o84 D22.stp; have o140 := Own.k0 o85 D22.stp
        exact tn ⟨n + 1 - ((i + 1)), by omega, s28, (i + 1), o2, S3, x6_2, x3_2, rfl, (F20.step0 D22.stp), ok29, (cJ (D22.m 2 rfl)), (D22.k q115), (D22.k q116), (D22.k q118), (D22.k q119), (D22.k q120), (D22.k q121), (cvo (by (simp)) (by (simp)) o136), (cvo (by (simp)) (by (simp)) o137), o138, o139, o140, hO3, rfl⟩
     ·
      obtain ⟨hsrt, hS3, hob0⟩ := hO.done hn hG (show i = o.length by omega); have hob : orbsL n gens (b + 1) = orbsL n gens b ++ [sortI o] := (by rw [hsrt]; exact hob0); have hsil : (sortI o).length = o.length := (by simp [sortI])
      refine wp_exit (tx (tx (bx (tn (wp_seq ?_)))))
      refine gI a18 s15 ok16 (gM q87 (gE2 ok16 fun a33 s29 ok30 D23 => ?_)); have o141 := Own.k0 o66 D23.stp; have o142 := Own.k0 o67 D23.stp; have o143 := Own.k0 o68 D23.stp; have o144 := OwnP.k0 o69 D23.stp; have o145 := Own.k0 o70 D23.stp
      have q250 : At (Ty.val x6_1) s29 a33 (.tmp 74) := D23.done 0 dE
      refine tL ok30 (y_callL (L := [41]) [(21, 41)] [(41, 21)] #[a33.eval (.tmp 74)] rfl dE Try.func93 rfl rfl my1 (sortI_fn (x6_1) (o) _ lW _ (uL q250) (Own.ren (cvo (by (simp)) (by (simp)) o141) (GW.ren_lend _ _ dE rfl)) oX)) fun a34 s30 hs7 ok31 r7 sm5 => ?_
      obtain ⟨t7, ⟨hT1, o146⟩, B1⟩ := r7
      have o147 : Own s30 21 3 1 x6_1 (List.length (sortI (o))) (List.map Ty.int (sortI (o))) := Own.ren o146 (B1.ren dE rfl)
      refine wpList_nil (tn ?_)
      obtain ⟨t8, e1, h1, q258⟩ := Own.seal o147 dE
      rw [← e1]
      have F34 := ((F17.step0 D23.stp).sl hs7).step h1 dE; have o152 := Own.keepL (Own.kl o142 hs7) (h1.toL (L := [21]) (by simp)) dE dE; have o153 := Own.keepL (Own.kl o143 hs7) (h1.toL (L := [21]) (by simp)) dE dE; have o154 := OwnP.keepL (OwnP.kl o144 hs7) (h1.toL (L := [21]) (by simp)) dE dE; have o155 := Own.keepL (Own.kl o145 hs7) (h1.toL (L := [21]) (by simp)) dE dE
      have q259 : At (Ty.lst Ty.int (sortI (o))) t8 a34 (.tmp 6) := by have e : a34.eval (.tmp 6) = x6_1 := (kq hs7 sm5 6 (D23.k q87)); show Ty.has _ _ _; rw [e]; exact q258
      have q260 := Ty.up (Ty.val x3_1) (h1.le dE) (kq hs7 sm5 3 (D23.k q88)); have q261 := Ty.up (Ty.nat b) (h1.le dE) (kq hs7 sm5 20 (D23.k q89)); have q262 := Ty.up (Ty.val x4_0) (h1.le dE) (kq hs7 sm5 4 (D23.k q90)); have q263 := Ty.up (Ty.val gv) (h1.le dE) (kq hs7 sm5 0 (D23.k q91)); have q264 := Ty.up (Ty.nat n) (h1.le dE) (kq hs7 sm5 19 (D23.k q92))
      refine gI a34 t8 ok31 (gM q262 (gM q259 (gT (Ty.sl 1 1 [(Ty.lst Ty.int (sortI (o)))]) rfl (fun A B E H I d0 => rP (y_build1o Try.underlying24 Try.inf22 rfl (one_sl) (eI d0))) (gE2 ok31 fun a35 s31 ok32 D24 => ?_)))); have o156 := Own.k0 o152 D24.stp; have o157 := Own.k0 o153 D24.stp; have o158 := OwnP.k0 o154 D24.stp; have o159 := Own.k0 o155 D24.stp
      have q270 : At (Ty.val x4_0) s31 a35 (.tmp 76) := D24.done 0 dE
      have q271 := D24.m 2 rfl
      have b2 := sl_le q271
      refine tL ok32 (YldM.toL (m_append Try.underlying24 Try.inf22 dE rfl dE (al (R := (Pr.own 22 22 1 (List.length (orbsL n gens b)) (List.map Ty.ints (orbsL n gens b)))) q270 o157) q271 (by intro U hU; simp at hU; subst hU; exact one_sl) oM oM)) fun a36 s32 hs8 ok33 r8 sm6 => ?_
      have q274 := kq hs8 sm6 4 (D24.k q262)
      obtain ⟨x4, hx4⟩ : ∃ x, a36.eval (.tmp 79) = x := ⟨_, rfl⟩
      have q277 : At (Ty.val x4) s32 a36 (.tmp 79) := hx4
      have o160 := al2 (R := (Pr.own 22 22 1 (List.length ((orbsL n gens b) ++ [(sortI (o))])) (List.map Ty.ints ((orbsL n gens b) ++ [(sortI (o))])))) hx4 (cvo (by simp) (by first | (rw [List.map_append]; rfl) | simp) r8)
      clear r8
      refine tL ok33 (Yld.toL (y_as q277)) fun a37 s33 hs9 ok34 r9 sm7 => ?_
      have q282 : At (Ty.val x4) s33 a37 (.tmp 4) := r9
      clear r9; refine wpList_nil (bn (tn ?_))
      refine gI a37 s33 ok34 (gT (Ty.nat (b + 1)) rfl (fun A B E H I => rP ((y_add (kp (I 20 rfl) E (kq hs9 sm7 20 (kq hs8 sm6 20 (D24.k q261)))) rfl wX).mono (fun τ _ h => cN (σ := τ) h))) (gS rfl (fun A B E H I d0 => rP (y_move (eI d0))) (gE ok34 fun a38 s34 ok35 D25 => ?_))); have o168 := Own.k0 (Own.kl (Own.kl o156 hs8) hs9) D25.stp; have o169 := OwnP.k0 (OwnP.kl (OwnP.kl o158 hs8) hs9) D25.stp; have o170 := Own.k0 (Own.kl (Own.kl o159 hs8) hs9) D25.stp; have o171 := Own.k0 (Own.kl o160 hs9) D25.stp
      exact tn ⟨n - ((b+1)), by omega, s34, (b+1), S2, x3_1, x4, rfl, ((((F34.step0 D24.stp).sl hs8).sl hs9).step0 D25.stp), ok35, (cJ (D25.m 1 rfl)), (D25.k (kq hs9 sm7 3 (kq hs8 sm6 3 (D24.k q260)))), (D25.k q282), (D25.k (kq hs9 sm7 0 (kq hs8 sm6 0 (D24.k q263)))), (D25.k (kq hs9 sm7 19 (kq hs8 sm6 19 (D24.k q264)))), (cvo (by (simp)) (by (simp)) o168), (cvo (by (rw [hob])) (by (rw [hob])) o171), o169, o170, by omega, hS3, rfl⟩
  ·
   have eb : b = n := oM
   refine wp_exit (tx (tx (bx (tn (wp_seq ?_)))))
   refine gI a8 s6 ok7 (gM q21 (gB 0 (gE ok7 fun a39 s35 ok36 D26 => ?_))); have o172 := Own.k0 o20 D26.stp; have o173 := Own.k0 o21 D26.stp; have o174 := OwnP.k0 o22 D26.stp; have o175 := Own.k0 o23 D26.stp
   have q288 : At (Ty.val x4_0) s35 a39 (.tmp 2) := D26.done 1
   refine tn (wp_ret ?_)
   obtain ⟨t9, e2, h2, q289⟩ := Own.seal o173 dE
   rw [← e2]
   have F40 := (F7.step0 D26.stp).step h2 dE; have o176 := OwnP.keepL o174 (h2.toL (L := [22]) (by simp)) dE dE; have o177 := Own.keepL o175 (h2.toL (L := [22]) (by simp)) dE dE
   have q290 : At (Ty.lst Ty.ints (orbsL n gens b)) t9 a39 (.tmp 2) := by have e : a39.eval (.tmp 2) = x4_0 := q288; show Ty.has _ _ _; rw [e]; exact q289
   exact retL1 rfl ok36 F40 ⟨(cvt (by (rw [show b = n by omega])) q290), o176, o177⟩


set_option maxHeartbeats 4000000 in
set_option maxRecDepth 100000 in
theorem rOrbits_fn (n : Nat) (L : List (List Int)) (G : List (List Int)) (σ : GW)  (v0 v1 : Value) (hv0 : Ty.has (Ty.nat n) σ v0) (hv1 : Ty.has (Ty.lst Ty.ints L) σ v1)  (hn : 1 ≤ n ∧ n ≤ 12) (hG : ∀ x ∈ G, RowN n x) (hL : ∀ x, x ∈ L ↔ Cl n (fun y => y ∈ G) x) (hl : L.length ≤ 6000) :
    FnC Try.prog 78 #[v0, v1] σ (Ty.lst Ty.ints (orbsL n G n)) := by
 refine fn_intro0 Try.func78 rfl Try.ntmps78 (Nat.le_of_ble_eq_true rfl) (fun s0 a0 hle F0 ok0 hargs => ?_)
 have p0 := pA hle (hargs 0 _ rfl) hv0
 have p1 := pA hle (hargs 1 _ rfl) hv1
 have b1 := sl_le p1
 clear hargs; refine wp_seq ?_
 refine gI a0 s0 ok0 (gC (Ty.val (Value.slice none 0 0)) (gE ok0 fun a1 s1 ok1 D1 => ?_)); refine tn (wp_seq ?_)
 refine gI a1 s1 ok1 (gC (Ty.val (Value.slice none 0 0)) (gE ok1 fun a2 s2 ok2 D2 => ?_)); refine tn (wp_seq (wp_seq ?_))
 refine gI a2 s2 ok2 (gC (Ty.int (0 : Int)) (gE ok2 fun a3 s3 ok3 D3 => ?_)); refine tn (wp_block ?_)
 have o1 : Own s3 22 22 1 (Value.slice none 0 0) 0 (List.map Ty.ints ([] : List (List Int))) := Own.nil _ _ _ _
 refine loop (fun n1 a4 w1 => ∃ (t1 : GW) (b : Nat) (x5_0 : Value), t1.w = w1 ∧ FromL [] s0 t1 ∧ Ok 57 [] a4 ∧ At (Ty.nat b) t1 a4 (.tmp 6) ∧ At (Ty.val x5_0) t1 a4 (.tmp 5) ∧ At (Ty.nat n) t1 a4 (.tmp 0) ∧ At (Ty.lst Ty.ints L) t1 a4 (.tmp 1) ∧ Own t1 22 22 1 x5_0 (List.length (orbsL n G b)) (List.map Ty.ints (orbsL n G b)) ∧ (b ≤ n) ∧ n1 = n - b) (n - (0)) ?_ ?_
 ·
  exact ⟨s3, 0, (Value.slice none 0 0), rfl, (((F0.step0 D1.stp).step0 D2.stp).step0 D3.stp), ok3, (cJ (D3.m 0 rfl)), (D3.k (D2.m 0 rfl)), (D3.k (D2.k (D1.k p0))), (D3.k (D2.k (D1.k p1))), (cvo (by (first | rfl | simp [orbsL])) (by (first | rfl | simp [orbsL])) o1), by omega, rfl⟩
 ·
  rintro n2 a5 w2 ⟨t2, b, x5_0, rfl, F4, ok4, q10, q11, q12, q13, o2, hb, rfl⟩
  have hol := orbs_len (n := n) (G := G) (m := b)
  refine wp_seq (wp_seq ?_)
  refine gI a5 t2 ok4 (gM q10 (gM q12 (gS rfl (fun A B E H I d0 d1 => rP (y_lss (eI d0) (eI d1))) (gE ok4 fun a6 s4 ok5 D4 => ?_)))); have F5 := F4.step0 D4.stp; have q15 := D4.k q11; have q16 := D4.k q12; have o3 := Own.k0 o2 D4.stp; refine tn ?_
  refine cond_p (p := (((b : Nat) : Int) < ((n : Nat) : Int))) (D4.m 2 rfl) (fun c1 => ?_) (fun c1 => ?_)
  ·
   refine wp_skip (tn (wp_seq (wp_block (wp_seq ?_))))
   refine gI a6 s4 ok5 (gM q16 (gR (Pr.own 20 3 1 n (List.map Ty.int (List.replicate n 0))) rfl (by intro A B E H I d0 d1; have e0 := ed d0 rfl rfl rfl; exact rP ((y_make (k := 20) (T := Ty.int 0) (n := n) Try.underlying22 Try.inf3 rfl (fun _ => rfl) e0 e0 oM oM).mono (fun _ _ h => cvo (by simp) (by simp) h))) (gE2 ok5 fun a7 s5 ok6 D5 => ?_))); have o4 := Own.k0 o3 D5.stp
   obtain ⟨x1, hx1⟩ : ∃ x, a7.eval (.tmp 17) = x := ⟨_, rfl⟩
   have q23 : At (Ty.val x1) s5 a7 (.tmp 17) := hx1
   have o5 := al2 (R := (Pr.own 20 3 1 n (List.map Ty.int (List.replicate n 0)))) hx1 (D5.done 1 dE)
   refine tL ok6 (Yld.toL (y_as q23)) fun a8 s6 hs1 ok7 r1 sm1 => ?_
   have q28 : At (Ty.val x1) s6 a8 (.tmp 7) := r1
   clear r1; refine wpList_nil (tn (wp_seq (wp_seq ?_)))
   refine gI a8 s6 ok7 (gC (Ty.int (0 : Int)) (gE ok7 fun a9 s7 ok8 D6 => ?_)); have o8 := Own.k0 (Own.kl o4 hs1) D6.stp; have o9 := Own.k0 (Own.kl o5 hs1) D6.stp; refine tn (wp_block ?_)
   refine loop (fun n3 a10 w3 => ∃ (t3 : GW) (i : Nat) (S : (List Int)) (x7_1 : Value), t3.w = w3 ∧ FromL [] s0 t3 ∧ Ok 57 [] a10 ∧ At (Ty.nat i) t3 a10 (.tmp 8) ∧ At (Ty.val x7_1) t3 a10 (.tmp 7) ∧ At (Ty.nat b) t3 a10 (.tmp 6) ∧ At (Ty.val x5_0) t3 a10 (.tmp 5) ∧ At (Ty.nat n) t3 a10 (.tmp 0) ∧ At (Ty.lst Ty.ints L) t3 a10 (.tmp 1) ∧ Own t3 20 3 1 x7_1 (List.length S) (List.map Ty.int S) ∧ Own t3 22 22 1 x5_0 (List.length (orbsL n G b)) (List.map Ty.ints (orbsL n G b)) ∧ (i ≤ L.length) ∧ (ThO n L b i S) ∧ n3 = L.length - i) (L.length - (0)) ?_ ?_
   ·
    exact ⟨s7, 0, (List.replicate n 0), x1, rfl, (((F5.step0 D5.stp).sl hs1).step0 D6.stp), ok8, (cJ (D6.m 0 rfl)), (D6.k q28), (D6.k (kq hs1 sm1 6 (D5.k (D4.k q10)))), (D6.k (kq hs1 sm1 5 (D5.k q15))), (D6.k (kq hs1 sm1 0 (D5.k q16))), (D6.k (kq hs1 sm1 1 (D5.k (D4.k q13)))), (cvo (by (first | rfl | simp)) (by (first | rfl | simp)) o9), o8, by omega, ThO.start, rfl⟩
   ·
    rintro n4 a11 w4 ⟨t4, i, S, x7_1, rfl, F9, ok9, q35, q36, q37, q38, q39, q40, o10, o11, hi, hT, rfl⟩
    have hsl := hT.len
    refine wp_seq (wp_seq ?_)
    refine gI a11 t4 ok9 (gM q35 (gM q40 (gS rfl (fun A B E H I d0 => rP (y_len Try.underlying24 (eI d0))) (gS rfl (fun A B E H I d0 d1 => rP (y_lss (eI d0) (eI d1))) (gE ok9 fun a12 s8 ok10 D7 => ?_))))); have F10 := F9.step0 D7.stp; have q41 := D7.k q35; have q42 := D7.k q36; have q43 := D7.k q37; have q44 := D7.k q38; have q45 := D7.k q39; have q46 := D7.k q40; have o12 := Own.k0 o10 D7.stp; have o13 := Own.k0 o11 D7.stp; refine tn ?_
    refine cond_p (p := (((i : Nat) : Int) < (((List.length L) : Nat) : Int))) (D7.m 3 rfl) (fun c2 => ?_) (fun c2 => ?_)
    ·
     have hrr := ((hL _).1 (mem_atD [] (show i < L.length by omega))).row hn hG; have hrb := hrr.at (show b < n by omega); have hrl := hrr.len
     refine wp_skip (tn (wp_seq (wp_block ?_)))
     refine gI a12 s8 ok10 (gM q42 (gM q46 (gM q41 (gT (Ty.ref [(Ty.lst Ty.int (L.getD i []))]) rfl (fun A B E H I d0 d1 => rP (y_index1 Try.underlying24 Try.inf22 (eI d0) (eI d1) oM (lst_get Ty.ints L [] i oM))) (gS rfl (fun A B E H I d0 => rP (y_load Try.underlying22 rfl (eI d0) rfl)) (gM q43 (gT (Ty.ref [(Ty.int ((L.getD i []).getD b 0))]) rfl (fun A B E H I d0 d1 => rP (y_index1 Try.underlying22 Try.inf3 (eI d0) (eI d1) oM (lst_get Ty.int (L.getD i []) 0 b oM))) (gS rfl (fun A B E H I d0 => rP (y_load Try.underlying3 rfl (eI d0) rfl)) (gT (Ty.val (cellPtr x7_1 (((L.getD i []).getD b 0)).toNat)) rfl (fun A B E H I d0 d1 d2 d3 d4 d5 d6 d7 d8 d9 => rP (own_index1 (i := ((L.getD i []).getD b 0)) Try.underlying22 Try.inf3 (Own.k0 o12 E) (eI d0) (eI d1) oM oM)) (gE2 ok10 fun a13 s9 ok11 D8 => ?_)))))))))); have o14 := Own.k0 o12 D8.stp; have o15 := Own.k0 o13 D8.stp
     refine tailL0 (L := [20]) (R := (fun _ τ => Own τ 20 3 1 x7_1 (List.length S) ((List.map Ty.int S).set (((L.getD i []).getD b 0)).toNat (Ty.int (1 : Int))))) rfl rfl (YldM.toL (m_store Try.inf3 dE o14 (D8.m 8 rfl) (by simp only [List.length_map, List.length_set]; omega) rfl (one_val rfl))) (fun v1 s10 hs2 r2 => ?_)
     have q55 := kpL hs2 dE rfl (D8.k q41); have q56 := kpL hs2 dE rfl (D8.k q42); have q57 := kpL hs2 dE rfl (D8.k q43); have q58 := kpL hs2 dE rfl (D8.k q44); have q59 := kpL hs2 dE rfl (D8.k q45); have q60 := kpL hs2 dE rfl (D8.k q46)
     have o16 : Own s10 20 3 1 x7_1 (List.length (S.set (((L.getD i []).getD b 0)).toNat (1 : Int))) (List.map Ty.int (S.set (((L.getD i []).getD b 0)).toNat (1 : Int))) := (cvo (by simp) (by first | (simp; done) | (rw [List.map_set]; done) | (rw [List.map_set]; rfl)) r2)
     clear r2; refine wpList_nil (bn (tn ?_))
     refine gI a13 s10 ok11 (gM q55 (gT (Ty.nat (i + 1)) rfl (fun A B E H I d0 => rP ((y_add (eI d0) rfl wX).mono (fun τ _ h => cN (σ := τ) h))) (gB 0 (gE ok11 fun a14 s11 ok12 D9 => ?_)))); have o18 := Own.k0 (Own.kl o15 hs2) D9.stp; have o19 := Own.k0 o16 D9.stp
     exact tn ⟨L.length - ((i+1)), by omega, s11, (i+1), (S.set ((L.getD i []).getD b 0).toNat 1), x7_1, rfl, (((F10.step0 D8.stp).sl hs2).step0 D9.stp), ok12, (cJ (D9.m 2 rfl)), (D9.k q56), (D9.k q57), (D9.k q58), (D9.k q59), (D9.k q60), (cvo (by (simp)) (by (simp)) o19), o18, by omega, hT.put hrb, rfl⟩
    ·
     have ei : i = L.length := oM; have hD := fun k (hk : k < n) => (ei ▸ hT : ThO n L b L.length S).done hL (k := k) hk
     refine wp_exit (tx (tx (bx (tn (wp_seq ?_)))))
     refine gI a12 s8 ok10 (gC (Ty.val (Value.slice none 0 0)) (gE ok10 fun a15 s12 ok13 D10 => ?_)); have o20 := Own.k0 o12 D10.stp; have o21 := Own.k0 o13 D10.stp; refine tn (wp_seq (wp_seq ?_))
     refine gI a15 s12 ok13 (gC (Ty.int (0 : Int)) (gE ok13 fun a16 s13 ok14 D11 => ?_)); have o22 := Own.k0 o20 D11.stp; have o23 := Own.k0 o21 D11.stp; refine tn (wp_block ?_)
     have o24 : Own s13 21 3 1 (Value.slice none 0 0) 0 (List.map Ty.int ([] : List Int)) := Own.nil _ _ _ _
     refine loop (fun n5 a17 w5 => ∃ (t5 : GW) (k : Nat) (x9_2 : Value), t5.w = w5 ∧ FromL [] s0 t5 ∧ Ok 57 [] a17 ∧ At (Ty.nat k) t5 a17 (.tmp 10) ∧ At (Ty.val x9_2) t5 a17 (.tmp 9) ∧ At (Ty.val x7_1) t5 a17 (.tmp 7) ∧ At (Ty.nat b) t5 a17 (.tmp 6) ∧ At (Ty.val x5_0) t5 a17 (.tmp 5) ∧ At (Ty.nat n) t5 a17 (.tmp 0) ∧ At (Ty.lst Ty.ints L) t5 a17 (.tmp 1) ∧ Own t5 21 3 1 x9_2 (List.length (orbT n G b k)) (List.map Ty.int (orbT n G b k)) ∧ Own t5 20 3 1 x7_1 (List.length S) (List.map Ty.int S) ∧ Own t5 22 22 1 x5_0 (List.length (orbsL n G b)) (List.map Ty.ints (orbsL n G b)) ∧ (k ≤ n) ∧ n5 = n - k) (n - (0)) ?_ ?_
     ·
      exact ⟨s13, 0, (Value.slice none 0 0), rfl, ((F10.step0 D10.stp).step0 D11.stp), ok14, (cJ (D11.m 0 rfl)), (D11.k (D10.m 0 rfl)), (D11.k (D10.k q42)), (D11.k (D10.k q43)), (D11.k (D10.k q44)), (D11.k (D10.k q45)), (D11.k (D10.k q46)), (cvo (by (first | rfl | simp [orbT])) (by (first | rfl | simp [orbT])) o24), o22, o23, by omega, rfl⟩
     ·
      rintro n6 a18 w6 ⟨t6, k, x9_2, rfl, F16, ok15, q81, q82, q83, q84, q85, q86, q87, o25, o26, o27, hk, rfl⟩
      have hkl := orbT_len (n := n) (G := G) (b := b) (m := k)
      refine wp_seq (wp_seq ?_)
      refine gI a18 t6 ok15 (gM q81 (gM q86 (gS rfl (fun A B E H I d0 d1 => rP (y_lss (eI d0) (eI d1))) (gE ok15 fun a19 s14 ok16 D12 => ?_)))); have F17 := F16.step0 D12.stp; have q88 := D12.k q81; have q89 := D12.k q82; have q90 := D12.k q83; have q91 := D12.k q84; have q92 := D12.k q85; have q93 := D12.k q86; have q94 := D12.k q87; have o28 := Own.k0 o25 D12.stp; have o29 := Own.k0 o26 D12.stp; have o30 := Own.k0 o27 D12.stp; refine tn ?_
      refine cond_p (p := (((k : Nat) : Int) < ((n : Nat) : Int))) (D12.m 2 rfl) (fun c3 => ?_) (fun c3 => ?_)
      ·
       refine wp_skip (tn (wp_seq (wp_block (wp_seq ?_))))
       refine gI a19 s14 ok16 (gM q90 (gM q88 (gT (Ty.val (cellPtr x7_1 k)) rfl (fun A B E H I d0 d1 => rP (own_index1 (i := ((k : Nat) : Int)) Try.underlying22 Try.inf3 (Own.k0 o29 E) (eI d0) (eI d1) oM oM)) (gS rfl (fun A B E H I d0 => rP (own_load Try.underlying3 rfl (Own.k0 o29 E) (eI d0) (lst_get Ty.int S 0 k oM))) (gS rfl (fun A B E H I d0 => rP (y_gtr (eI d0) rfl)) (gE ok16 fun a20 s15 ok17 D13 => ?_)))))); have F18 := F17.step0 D13.stp; have q96 := D13.k q88; have q97 := D13.k q89; have q98 := D13.k q90; have q99 := D13.k q91; have q100 := D13.k q92; have q101 := D13.k q93; have q102 := D13.k q94; have o31 := Own.k0 o28 D13.stp; have o32 := Own.k0 o29 D13.stp; have o33 := Own.k0 o30 D13.stp; refine tn ?_
       refine cond_p (p := ((0 : Int) < (S.getD k 0))) (D13.m 4 rfl) (fun c4 => ?_) (fun c4 => ?_)
       ·
        have hO := (hD k oM).1 oM
        refine gI a20 s15 ok17 (gM q97 (gM q96 (gT (Ty.sl 1 1 [(Ty.nat k)]) rfl (fun A B E H I d0 => rP (y_build1o Try.underlying22 Try.inf3 rfl (one_val rfl) (eI d0))) (gE2 ok17 fun a21 s16 ok18 D14 => ?_)))); have o34 := Own.k0 o31 D14.stp; have o35 := Own.k0 o32 D14.stp; have o36 := Own.k0 o33 D14.stp
        have q111 : At (Ty.val x9_2) s16 a21 (.tmp 43) := D14.done 0 dE
        have q112 := D14.m 2 rfl
        have b2 := sl_le q112
        refine tL ok18 (YldM.toL (m_append Try.underlying22 Try.inf3 dE rfl dE (al (R := (Pr.own 21 3 1 (List.length (orbT n G b k)) (List.map Ty.int (orbT n G b k)))) q111 o34) q112 (by intro U hU; simp at hU; subst hU; exact one_val rfl) oM oM)) fun a22 s17 hs3 ok19 r3 sm2 => ?_
        have q114 := kq hs3 sm2 9 (D14.k q97)
        obtain ⟨x2, hx2⟩ : ∃ x, a22.eval (.tmp 46) = x := ⟨_, rfl⟩
        have q120 : At (Ty.val x2) s17 a22 (.tmp 46) := hx2
        have o37 := al2 (R := (Pr.own 21 3 1 (List.length ((orbT n G b k) ++ [((k : Nat) : Int)])) (List.map Ty.int ((orbT n G b k) ++ [((k : Nat) : Int)])))) hx2 (cvo (by simp) (by first | (rw [List.map_append]; rfl) | simp) r3)
        clear r3
        refine tL ok19 (Yld.toL (y_as q120)) fun a23 s18 hs4 ok20 r4 sm3 => ?_
        have q127 : At (Ty.val x2) s18 a23 (.tmp 9) := r4
        clear r4; refine wpList_nil (bn (tn ?_))
        refine gI a23 s18 ok20 (gM (kq hs4 sm3 10 (kq hs3 sm2 10 (D14.k q96))) (gT (Ty.nat (k + 1)) rfl (fun A B E H I d0 => rP ((y_add (eI d0) rfl wX).mono (fun τ _ h => cN (σ := τ) h))) (gB 0 (gE ok20 fun a24 s19 ok21 D15 => ?_)))); have o43 := Own.k0 (Own.kl (Own.kl o35 hs3) hs4) D15.stp; have o44 := Own.k0 (Own.kl (Own.kl o36 hs3) hs4) D15.stp; have o45 := Own.k0 (Own.kl o37 hs4) D15.stp
        exact tn ⟨n - ((k+1)), by omega, s19, (k+1), x2, rfl, ((((F18.step0 D14.stp).sl hs3).sl hs4).step0 D15.stp), ok21, (cJ (D15.m 2 rfl)), (D15.k q127), (D15.k (kq hs4 sm3 7 (kq hs3 sm2 7 (D14.k q98)))), (D15.k (kq hs4 sm3 6 (kq hs3 sm2 6 (D14.k q99)))), (D15.k (kq hs4 sm3 5 (kq hs3 sm2 5 (D14.k q100)))), (D15.k (kq hs4 sm3 0 (kq hs3 sm2 0 (D14.k q101)))), (D15.k (kq hs4 sm3 1 (kq hs3 sm2 1 (D14.k q102)))), (cvo (by (rw [orbT_yes hO])) (by (rw [orbT_yes hO])) o45), o43, o44, by omega, rfl⟩
       ·
        have hO : ¬ InO n G b k := fun h_ => absurd ((hD k oM).2 h_) oM
        refine wp_skip (bn (tn ?_))
        refine gI a20 s15 ok17 (gM q96 (gT (Ty.nat (k + 1)) rfl (fun A B E H I d0 => rP ((y_add (eI d0) rfl wX).mono (fun τ _ h => cN (σ := τ) h))) (gB 0 (gE ok17 fun a25 s20 ok22 D16 => ?_)))); have o46 := Own.k0 o31 D16.stp; have o47 := Own.k0 o32 D16.stp; have o48 := Own.k0 o33 D16.stp
        exact tn ⟨n - ((k+1)), by omega, s20, (k+1), x9_2, rfl, (F18.step0 D16.stp), ok22, (cJ (D16.m 2 rfl)), (D16.k q97), (D16.k q98), (D16.k q99), (D16.k q100), (D16.k q101), (D16.k q102), (cvo (by (rw [orbT_no hO])) (by (rw [orbT_no hO])) o46), o47, o48, by omega, rfl⟩
      ·
       have ek : k = n := oM; obtain ⟨hh1, hh2⟩ : 0 < (orbT n G b k).length ∧ ((orbT n G b k).getD 0 0 = (b : Int) ↔ ∀ k, k < b → ¬ InO n G b k) := by (rw [ek]; exact orbT_head oM)
       refine wp_exit (tx (tx (bx (tn (wp_seq ?_)))))
       refine gI a19 s14 ok16 (gM q89 (gT (Ty.val (cellPtr x9_2 ((0 : Int)).toNat)) rfl (fun A B E H I d0 => rP (own_index1 (i := (0 : Int)) Try.underlying22 Try.inf3 (Own.k0 o28 E) (eI d0) rfl oM oM)) (gS rfl (fun A B E H I d0 => rP (own_load Try.underlying3 rfl (Own.k0 o28 E) (eI d0) (lst_get Ty.int (orbT n G b k) 0 ((0 : Int)).toNat oM))) (gM q91 (gS rfl (fun A B E H I d0 d1 => rP (y_eql (eI d0) (eI d1))) (gE ok16 fun a26 s21 ok23 D17 => ?_)))))); have F24 := F17.step0 D17.stp; have q143 := D17.k q91; have q144 := D17.k q92; have q145 := D17.k q93; have q146 := D17.k q94; have o49 := Own.k0 o28 D17.stp; have o50 := Own.k0 o29 D17.stp; have o51 := Own.k0 o30 D17.stp; have q147 := D17.m 4 rfl; refine tn ?_
       refine cond_p (p := (((orbT n G b k).getD ((0 : Int)).toNat 0) = ((b : Nat) : Int))) q147 (fun c5 => ?_) (fun c5 => ?_)
       ·
        have hob : orbsL n G (b + 1) = orbsL n G b ++ [orbT n G b k] := by (rw [ek]; exact orbs_yes (hh2.1 (by first | exact c5 | omega)))
        obtain ⟨t7, e1, h1, q148⟩ := Own.seal o49 dE
        rw [← e1]
        have F25 := F24.step h1 dE; have o52 := Own.keepL o51 (h1.toL (L := [21]) (by simp)) dE dE
        have q149 : At (Ty.lst Ty.int (orbT n G b k)) t7 a26 (.tmp 9) := by have e : a26.eval (.tmp 9) = x9_2 := (D17.k q89); show Ty.has _ _ _; rw [e]; exact q148
        have q150 := Ty.up (Ty.nat b) (h1.le dE) q143; have q151 := Ty.up (Ty.val x5_0) (h1.le dE) q144; have q152 := Ty.up (Ty.nat n) (h1.le dE) q145; have q153 := Ty.up (Ty.lst Ty.ints L) (h1.le dE) q146; have q154 := Ty.up (Ty.bool (decide (((orbT n G b k).getD ((0 : Int)).toNat 0) = ((b : Nat) : Int)))) (h1.le dE) q147
        refine gI a26 t7 ok23 (gM q151 (gM q149 (gT (Ty.sl 1 1 [(Ty.lst Ty.int (orbT n G b k))]) rfl (fun A B E H I d0 => rP (y_build1o Try.underlying24 Try.inf22 rfl (one_sl) (eI d0))) (gE2 ok23 fun a27 s22 ok24 D18 => ?_)))); have o53 := Own.k0 o52 D18.stp
        have q159 : At (Ty.val x5_0) s22 a27 (.tmp 52) := D18.done 0 dE
        have q160 := D18.m 2 rfl
        have b3 := sl_le q160
        refine tL ok24 (YldM.toL (m_append Try.underlying24 Try.inf22 dE rfl dE (al (R := (Pr.own 22 22 1 (List.length (orbsL n G b)) (List.map Ty.ints (orbsL n G b)))) q159 o53) q160 (by intro U hU; simp at hU; subst hU; exact one_sl) oM oM)) fun a28 s23 hs5 ok25 r5 sm4 => ?_
        have q162 := kq hs5 sm4 5 (D18.k q151)
        obtain ⟨x3, hx3⟩ : ∃ x, a28.eval (.tmp 55) = x := ⟨_, rfl⟩
        have q165 : At (Ty.val x3) s23 a28 (.tmp 55) := hx3
        have o54 := al2 (R := (Pr.own 22 22 1 (List.length ((orbsL n G b) ++ [(orbT n G b k)])) (List.map Ty.ints ((orbsL n G b) ++ [(orbT n G b k)])))) hx3 (cvo (by simp) (by first | (rw [List.map_append]; rfl) | simp) r5)
        clear r5
        refine tL ok25 (Yld.toL (y_as q165)) fun a29 s24 hs6 ok26 r6 sm5 => ?_
        have q169 : At (Ty.val x3) s24 a29 (.tmp 5) := r6
        clear r6; refine wpList_nil (bn (tn ?_))
        refine gI a29 s24 ok26 (gM (kq hs6 sm5 6 (kq hs5 sm4 6 (D18.k q150))) (gT (Ty.nat (b + 1)) rfl (fun A B E H I d0 => rP ((y_add (eI d0) rfl wX).mono (fun τ _ h => cN (σ := τ) h))) (gB 0 (gE ok26 fun a30 s25 ok27 D19 => ?_)))); have o56 := Own.k0 (Own.kl o54 hs6) D19.stp
        exact tn ⟨n - ((b+1)), by omega, s25, (b+1), x3, rfl, ((((F25.step0 D18.stp).sl hs5).sl hs6).step0 D19.stp), ok27, (cJ (D19.m 2 rfl)), (D19.k q169), (D19.k (kq hs6 sm5 0 (kq hs5 sm4 0 (D18.k q152)))), (D19.k (kq hs6 sm5 1 (kq hs5 sm4 1 (D18.k q153)))), (cvo (by (rw [hob])) (by (rw [hob])) o56), by omega, rfl⟩
       ·
        have hob : orbsL n G (b + 1) = orbsL n G b := orbs_no fun h_ => absurd (hh2.2 h_) (by first | exact c5 | omega)
        refine wp_skip (bn (tn ?_))
        refine gI a26 s21 ok23 (gM q143 (gT (Ty.nat (b + 1)) rfl (fun A B E H I d0 => rP ((y_add (eI d0) rfl wX).mono (fun τ _ h => cN (σ := τ) h))) (gB 0 (gE ok23 fun a31 s26 ok28 D20 => ?_)))); have o57 := Own.k0 o49 D20.stp; have o58 := Own.k0 o51 D20.stp
        exact tn ⟨n - ((b+1)), by omega, s26, (b+1), x5_0, rfl, (F24.step0 D20.stp), ok28, (cJ (D20.m 2 rfl)), (D20.k q144), (D20.k q145), (D20.k q146), (cvo (by (rw [hob])) (by (rw [hob])) o58), by omega, rfl⟩
  ·
   have eb : b = n := oM
   refine wp_exit (tx (tx (bx (tn (wp_seq ?_)))))
   refine gI a6 s4 ok5 (gM q15 (gB 0 (gE ok5 fun a32 s27 ok29 D21 => ?_))); have o59 := Own.k0 o3 D21.stp
   have q178 : At (Ty.val x5_0) s27 a32 (.tmp 4) := D21.done 1
   refine tn (wp_ret ?_)
   obtain ⟨t8, e2, h2, q179⟩ := Own.seal o59 dE
   rw [← e2]
   have F32 := (F5.step0 D21.stp).step h2 dE
   have q180 : At (Ty.lst Ty.ints (orbsL n G b)) t8 a32 (.tmp 4) := by have e : a32.eval (.tmp 4) = x5_0 := q178; show Ty.has _ _ _; rw [e]; exact q179
   exact retL1 rfl ok29 F32 (cvt (by (rw [show b = n by omega])) q180)


set_option maxHeartbeats 4000000 in
set_option maxRecDepth 100000 in
theorem firstO_fn (n : Nat) (σ : GW) (hlow : Low [] σ) (v0 : Value) (hv0 : Ty.has (Ty.nat n) σ v0)  (hn : n ≤ 1000000) :
    FnL Try.prog 102 #[v0] σ [] (fun v τ => ∃ (z : Value), (Ty.has (Ty.val z) τ v) ∧ (Own τ 42 3 1 z (List.length (roundsL n)) (List.map Ty.int (roundsL n)))) := by
 refine fn_introL hlow Try.func102 rfl Try.ntmps102 (Nat.le_of_ble_eq_true rfl) (fun a0 F0 ok0 hargs => ?_)
 have p0 := pB (hargs 0 _ rfl) hv0
 clear hargs; refine wp_seq ?_
 refine gI a0 σ ok0 (gC (Ty.val (Value.slice none 0 0)) (gE ok0 fun a1 s1 ok1 D1 => ?_)); refine tn (wp_seq ?_)
 refine gI a1 s1 ok1 (gM (D1.k p0) (gR (Pr.own 42 3 1 n (List.map Ty.int (List.replicate n 0))) rfl (by intro A B E H I d0 d1; have e0 := ed d0 rfl rfl rfl; exact rP ((y_make (k := 42) (T := Ty.int 0) (n := n) Try.underlying22 Try.inf3 rfl (fun _ => rfl) e0 e0 oM oM).mono (fun _ _ h => cvo (by simp) (by simp) h))) (gE2 ok1 fun a2 s2 ok2 D2 => ?_)))
 obtain ⟨x1, hx1⟩ : ∃ x, a2.eval (.tmp 6) = x := ⟨_, rfl⟩
 have q2 : At (Ty.val x1) s2 a2 (.tmp 6) := hx1
 have o1 := al2 (R := (Pr.own 42 3 1 n (List.map Ty.int (List.replicate n 0)))) hx1 (D2.done 1 dE)
 refine tL ok2 (Yld.toL (y_as q2)) fun a3 s3 hs1 ok3 r1 sm1 => ?_
 have o2 := Own.kl o1 hs1
 have q3 : At (Ty.val x1) s3 a3 (.tmp 3) := r1
 clear r1; refine wpList_nil (tn (wp_seq (wp_seq ?_)))
 refine gI a3 s3 ok3 (gM q3 (gT (Ty.nat n) rfl (fun A B E H I d0 => rP (own_len Try.underlying22 (al (R := (Pr.own 42 3 1 n (List.map Ty.int (List.replicate n 0)))) (eI d0) (Own.k0 o2 E)))) (gT (Ty.int (0 : Int)) rfl (fun A B E H I => rP (y_move rfl)) (gE ok3 fun a4 s4 ok4 D3 => ?_)))); have o3 := Own.k0 o2 D3.stp; refine tn (wp_block ?_)
 refine loop (fun n1 a5 w1 => ∃ (t1 : GW) (k : Nat) (x3_0 : Value), t1.w = w1 ∧ FromL [] σ t1 ∧ Ok 18 [] a5 ∧ At (Ty.nat k) t1 a5 (.tmp 9) ∧ At (Ty.val x3_0) t1 a5 (.tmp 3) ∧ At (Ty.nat n) t1 a5 (.tmp 8) ∧ Own t1 42 3 1 x3_0 (List.length (firstTo n k)) (List.map Ty.int (firstTo n k)) ∧ (k ≤ n) ∧ n1 = n - k) (n - (0)) ?_ ?_
 ·
  exact ⟨s4, 0, x1, rfl, ((((F0.step0 D1.stp).step0 D2.stp).sl hs1).step0 D3.stp), ok4, (cJ (D3.m 2 rfl)), (D3.k q3), (D3.m 1 rfl), (cvo (by (simp [firstTo_zero])) (by (simp [firstTo_zero])) o3), by omega, rfl⟩
 ·
  rintro n2 a6 w2 ⟨t2, k, x3_0, rfl, F5, ok5, q7, q8, q9, o4, hk, rfl⟩
  have hp := firstTo_len n k
  refine wp_seq ?_
  refine gI a6 t2 ok5 (gS rfl (fun A B E H I => rP (y_lss (kp (I 9 rfl) E q7) (kp (I 8 rfl) E q9))) (gE ok5 fun a7 s5 ok6 D4 => ?_)); have F6 := F5.step0 D4.stp; have q10 := D4.k q7; have q11 := D4.k q8; have o5 := Own.k0 o4 D4.stp; refine tn (wp_seq ?_)
  refine cond_p (p := (((k : Nat) : Int) < ((n : Nat) : Int))) (D4.m 0 rfl) (fun c1 => ?_) (fun c1 => ?_)
  ·
   refine wp_skip (tn (wp_seq (wp_block (wp_seq ?_))))
   refine gI a7 s5 ok6 (gM q10 (gB 0 (gE ok6 fun a8 s6 ok7 D5 => ?_))); have q15 := D5.k q11; have o6 := Own.k0 o5 D5.stp; have q17 := D5.m 1 rfl; refine tn ?_
   refine gI a8 s6 ok7 (gM q15 (gM q17 (gM q17 (gT (Ty.val (cellPtr x3_0 k)) rfl (fun A B E H I d0 d1 d2 d3 d4 => rP (own_index1 (i := ((k : Nat) : Int)) Try.underlying22 Try.inf3 (Own.k0 o6 E) (eI d0) (eI d1) oM oM)) (gE2 ok7 fun a9 s7 ok8 D6 => ?_))))); have o7 := Own.k0 o6 D6.stp
   refine tailL0 (L := [42]) (R := (fun _ τ => Own τ 42 3 1 x3_0 (List.length (firstTo n k)) ((List.map Ty.int (firstTo n k)).set k (Ty.nat k)))) rfl rfl (YldM.toL (m_store Try.inf3 dE o7 (D6.m 3 rfl) (by simp only [List.length_map, List.length_set]; omega) (D6.m 2 rfl) (one_val rfl))) (fun v1 s8 hs2 r2 => ?_)
   have q23 := kpL hs2 dE rfl (D6.k (D5.k q10)); have q24 := kpL hs2 dE rfl (D6.k q15); have q25 := kpL hs2 dE rfl (D6.k (D5.k (D4.k q9)))
   have o8 : Own s8 42 3 1 x3_0 (List.length ((firstTo n k).set k ((k : Nat) : Int))) (List.map Ty.int ((firstTo n k).set k ((k : Nat) : Int))) := (cvo (by simp) (by first | (simp; done) | (rw [List.map_set]; done) | (rw [List.map_set]; rfl)) r2)
   clear r2; refine wpList_nil (bn (tn ?_))
   refine gI a9 s8 ok8 (gT (Ty.nat (k + 1)) rfl (fun A B E H I => rP ((y_add (kp (I 9 rfl) E q23) rfl wX).mono (fun τ _ h => cN (σ := τ) h))) (gS rfl (fun A B E H I d0 => rP (y_move (eI d0))) (gE ok8 fun a10 s9 ok9 D7 => ?_))); have o9 := Own.k0 o8 D7.stp
   exact tn ⟨n - ((k+1)), by omega, s9, (k+1), x3_0, rfl, ((((F6.step0 D5.stp).step0 D6.stp).sl hs2).step0 D7.stp), ok9, (cJ (D7.m 1 rfl)), (D7.k q24), (D7.k q25), (cvo (by (rw [firstTo_step n k])) (by (rw [firstTo_step n k])) o9), by omega, rfl⟩
  ·
   refine wp_exit (tx (tx (bx (tn (wp_seq ?_)))))
   refine gI a7 s5 ok6 (gM q11 (gB 0 (gE ok6 fun a11 s10 ok10 D8 => ?_))); have o10 := Own.k0 o5 D8.stp
   have q30 : At (Ty.val x3_0) s10 a11 (.tmp 2) := D8.done 1
   refine tn (wp_ret ?_)
   exact retL1 rfl ok10 (F6.step0 D8.stp) ⟨x3_0, q30, (cvo (by (obtain rfl : k = n := oM; rw [firstTo_all])) (by (obtain rfl : k = n := oM; rw [firstTo_all])) o10)⟩


set_option maxHeartbeats 4000000 in
set_option maxRecDepth 100000 in
theorem roundsO_fn (n : Nat) (σ : GW) (hlow : Low [] σ) (v0 : Value) (hv0 : Ty.has (Ty.nat n) σ v0)  (hn : 1 ≤ n ∧ n ≤ 12) :
    FnL Try.prog 74 #[v0] σ [] (fun v τ => ∃ (z : Value), (Ty.has (Ty.tup2 (Ty.val z) (Ty.int (0 : Int))) τ v) ∧ (Own τ 42 3 1 z (List.length (roundsL n)) (List.map Ty.int (roundsL n)))) := by
 refine fn_introL hlow Try.func74 rfl Try.ntmps74 (Nat.le_of_ble_eq_true rfl) (fun a0 F0 ok0 hargs => ?_)
 have p0 := pB (hargs 0 _ rfl) hv0
 clear hargs; refine wp_seq ?_
 refine gI a0 σ ok0 (gC (Ty.val (Value.slice none 0 0)) (gC (Ty.int (0 : Int)) (gE ok0 fun a1 s1 ok1 D1 => ?_))); have q1 := D1.k p0; refine tn (wp_seq (wp_seq ?_))
 refine gI a1 s1 ok1 (gM q1 (gS rfl (fun A B E H I d0 => rP (y_lss (eI d0) rfl)) (gS rfl (fun A B E H I d0 => rP (y_move (eI d0))) (gS rfl (fun A B E H I d0 => gu H (eI d0) fun hg => y_move (kp (I 0 rfl) E q1)) (gS rfl (fun A B E H I d0 d1 => gu H (eI d1) fun hg => y_gtr ((ef d0 rfl).1 hg) rfl) (gS rfl (fun A B E H I d0 d1 => rP (y_pick_or (eI d0) rfl (eI d1))) (gE ok1 fun a2 s2 ok2 D2 => ?_))))))); refine tn ?_
 refine cond_t (D2.m 5 rfl) (fun c1 => ?_) (fun c1 => ?_)
 ·
  exfalso
  simp only [Bool.or_eq_true, decide_eq_true_eq] at c1; omega
 ·
  obtain ⟨d1, d2⟩ := Bool.or_eq_false_iff.mp c1
  replace d1 := of_decide_eq_false d1
  replace d2 := of_decide_eq_false d2
  refine wp_skip (tn (wp_seq ?_))
  refine gI a2 s2 ok2 (gM (D2.k q1) (gE2 ok2 fun a3 s3 ok3 D3 => ?_))
  refine tL ok3 (y_callL (L := []) [] [(42, 61)] _ rfl dE Try.func102 rfl rfl my1 (firstO_fn (n) _ lW _ (uL (D3.m 0 rfl))  oM)) fun a4 s4 hs1 ok4 r1 sm1 => ?_
  obtain ⟨t1, ⟨x1, hT1, o1⟩, B1⟩ := r1
  have q5 : At (Ty.val x1) s4 a4 (.tmp 11) := Ty.up _ B1.le hT1
  have o2 : Own s4 61 3 1 x1 (List.length (roundsL n)) (List.map Ty.int (roundsL n)) := Own.ren o1 (B1.ren dE rfl)
  refine tL ok4 (Yld.toL (y_as q5)) fun a5 s5 hs2 ok5 r2 sm2 => ?_
  have q6 : At (Ty.val x1) s5 a5 (.tmp 2) := r2
  clear r2
  refine tL (R := (fun v τ => Pr.has (Ty.pr (Ty.int (0 : Int))) τ v)) ok5 (Yld.toL (y_assign rfl)) fun a6 s6 hs3 ok6 r3 sm3 => ?_
  have q8 : At (Ty.int (0 : Int)) s6 a6 (.tmp 3) := r3
  clear r3; refine wpList_nil (tn (wp_ret ?_))
  obtain ⟨t2, e1, h1, o5⟩ := Own.retag (k' := 42) (Own.kl (Own.kl o2 hs2) hs3) dE dE
  rw [← e1]
  have F7 := ((((((F0.step0 D1.stp).step0 D2.stp).step0 D3.stp).sl hs1).sl hs2).sl hs3).step h1 dE; have q9 := Ty.up (Ty.val x1) (h1.le dE) (kq hs3 sm3 2 q6); have q10 := Ty.up (Ty.int (0 : Int)) (h1.le dE) q8
  exact retL2 rfl ok6 F7 ⟨x1, (hasT2 q9 q10), o5⟩


set_option maxHeartbeats 4000000 in
set_option maxRecDepth 100000 in
theorem gTurn_fn (x : List Int) (sw : List Int) (n : Nat) (σ : GW)  (v0 v1 : Value) (hv0 : Ty.has (Ty.lst Ty.int x) σ v0) (hv1 : Ty.has (Ty.ref [(Ty.lst Ty.int sw)]) σ v1)  (E : RowN n sw) (hx : RowN n x) :
    FnC Try.prog 91 #[v0, v1] σ (Ty.lst Ty.int (byL sw (byL x sw))) := by
 have hnn := E.nn
 have hsl := E.len
 have hxl := hx.len
 have hsr := E.row
 have hxr := hx.row
 have hsb := E.bds hxl
 have hxs := hx.by E
 have hxsl := hxs.len
 have hxsr := hxs.row
 have hxsb := hxs.bds hsl
 refine fn_intro0 Try.func91 rfl Try.ntmps91 (Nat.le_of_ble_eq_true rfl) (fun s0 a0 hle F0 ok0 hargs => ?_)
 have p0 := pA hle (hargs 0 _ rfl) hv0
 have b1 := sl_le p0
 have p1 := pA hle (hargs 1 _ rfl) hv1
 clear hargs; refine wp_seq ?_
 refine gI a0 s0 ok0 (gC (Ty.val (Value.slice none 0 0)) (gE ok0 fun a1 s1 ok1 D1 => ?_)); have q2 := D1.k p1; refine tn (wp_seq ?_)
 refine gI a1 s1 ok1 (gS rfl (fun A B E H I => rP (y_load Try.underlying22 rfl (kp (I 1 rfl) E q2) rfl)) (gM (D1.k p0) (gS rfl (fun A B E H I => rP (y_load Try.underlying22 rfl (kp (I 1 rfl) E q2) rfl)) (gS rfl (fun A B E H I d0 d1 => rP (y_call _ Try.func64 rfl rfl my2 (product_fn (x) (sw) _ _ _ (eI d0) (eI d1) (by first | assumption | omega) (by first | assumption | omega) (by first | assumption | omega)))) (gS rfl (fun A B E H I d0 d1 d2 => rP (y_call _ Try.func64 rfl rfl my2 (product_fn (sw) ((byL (x) (sw))) _ _ _ (eI d0) (eI d1) (by first | assumption | omega) (by first | assumption | omega) (by first | assumption | omega)))) (gB 0 (gE ok1 fun a2 s2 ok2 D2 => ?_))))))); refine tn (wp_ret ?_)
 exact retL1 rfl ok2 ((F0.step0 D1.stp).step0 D2.stp) (cvt (by (first | rfl | omega | (simp_all; done) | (simp_all; omega))) (D2.m 5 rfl))


end Go.Proofs.Ytkjifbgofckfeaa
