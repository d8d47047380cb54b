/- The functions that the law BookOpens reaches, each by its contract. Part 6. -/
import Derived.Test.YtfgkhpkbehhflaaDoorBookOpensW5
namespace Go.Proofs.YtfgkhpkbehhflaaDoor
open Go.KL

set_option maxHeartbeats 4000000 in
set_option maxRecDepth 100000 in
theorem stable_fn (dv : Value) (D : List Rec) (n : Nat) (σ : GW) (hlow : Low [40] σ) (v0 v1 v2 : Value) (hv0 : Ty.has (Ty.val dv) σ v0) (hv1 : Ty.has (Ty.nat n) σ v1) (hv2 : Ty.has (Ty.val (Value.func (Fn.func 20) #[] #[])) σ v2) (ho_dv : Own σ 40 42 4 dv (List.length D) (List.flatMap recC D)) (hn : n = D.length) (hDl : D.length ≤ 1000000) (hday : DayOk D) :
    FnL Tryd.prog 34 #[v0, v1, v2] σ [40] (fun v τ => ∃ (D2 : List Rec), True ∧ (Own τ 40 42 4 dv (List.length D2) (List.flatMap recC D2)) ∧ (Sg 0 n D D2) ∧ (Srt D2 0 n)) := by
 refine fn_introL hlow Tryd.func34 rfl Tryd.ntmps34 (Nat.le_of_ble_eq_true rfl) (fun a0 F0 ok0 hargs => ?_)
 have p0 := pB (hargs 0 _ rfl) hv0
 have p1 := pB (hargs 1 _ rfl) hv1
 have p2 := pB (hargs 2 _ rfl) hv2
 clear hargs; refine wp_seq ?_
 refine gI a0 σ ok0 (gC (Ty.int (20 : Int)) (gE ok0 fun a1 s1 ok1 D1 => ?_)); have o1 := Own.k0 ho_dv D1.stp; have q4 := D1.m 0 rfl; refine tn (wp_seq ?_)
 refine gI a1 s1 ok1 (gM q4 (gC (Ty.int (0 : Int)) (gB 0 (gE ok1 fun a2 s2 ok2 D2 => ?_)))); have o2 := Own.k0 o1 D2.stp; refine tn (wp_seq (wp_block ?_))
 refine loop (fun n1 a3 w1 => ∃ (t1 : GW) (E : List Rec) (q : Nat), t1.w = w1 ∧ FromL [40] σ t1 ∧ Ok 63 [] a3 ∧ At (Ty.nat (q * 20)) t1 a3 (.tmp 7) ∧ At (Ty.nat (q * 20 + 20)) t1 a3 (.tmp 8) ∧ At (Ty.val dv) t1 a3 (.tmp 0) ∧ At (Ty.nat n) t1 a3 (.tmp 1) ∧ At (Ty.val (Value.func (Fn.func 20) #[] #[])) t1 a3 (.tmp 2) ∧ At (Ty.int (20 : Int)) t1 a3 (.tmp 6) ∧ Own t1 40 42 4 dv (List.length E) (List.flatMap recC E) ∧ (Sg 0 n D E) ∧ (∀ k, k < q → Srt E (k * 20) (k * 20 + 20)) ∧ (q * 20 ≤ n) ∧ n1 = n - q * 20) (n - (0) * 20) ?_ ?_
 ·
  exact ⟨s2, D, 0, rfl, ((F0.step0 D1.stp).step0 D2.stp), ok2, (cJ (D2.m 1 rfl)), (cJ (D2.m 2 rfl)), (D2.k (D1.k p0)), (D2.k (D1.k p1)), (D2.k (D1.k p2)), (D2.k q4), (cvo (by (simp)) (by (simp)) o2), Sg.refl _ _ _, fun k hk => absurd hk (Nat.not_lt_zero k), by omega, rfl⟩
 ·
  rintro n2 a4 w2 ⟨t2, E, q, rfl, F3, ok3, q11, q12, q13, q14, q15, q16, o3, hsg, hB, ha, rfl⟩
  have hEl_ := hsg.len
  have hdE_ := hsg.day hday
  refine wp_seq (wp_seq ?_)
  refine gI a4 t2 ok3 (gM q12 (gM q14 (gS rfl (fun B H I J O d0 d1 => rP (y_leq (eI d0) (eI d1))) (gE ok3 fun a5 s3 ok4 D3 => ?_)))); have F4 := F3.step0 D3.stp; have q17 := D3.k q11; have q18 := D3.k q12; have q19 := D3.k q13; have q20 := D3.k q14; have q21 := D3.k q15; have q22 := D3.k q16; have o4 := Own.k0 o3 D3.stp; refine tn ?_
  refine cond_p (p := ((((q * 20 + 20) : Nat) : Int) ≤ ((n : Nat) : Int))) (D3.m 2 rfl) (fun c1 => ?_) (fun c1 => ?_)
  ·
   refine wp_skip (tn (wp_block (wp_seq ?_)))
   refine gI a5 s3 ok4 (gM q19 (gM q17 (gM q18 (gM q21 (gE2 ok4 fun a6 s4 ok5 D4 => ?_))))); have o5 := Own.k0 o4 D4.stp
   refine tL ok5 (y_callL (L := [40]) [(40, 40)] [(40, 40)] #[a6.eval (.tmp 14), a6.eval (.tmp 15), a6.eval (.tmp 16), a6.eval (.tmp 17)] rfl dE Tryd.func45 rfl rfl my4 (insSort_fn (dv) (E) ((q * 20)) ((q * 20 + 20)) _ lW _ _ _ _ (uL (D4.m 0 rfl)) (uL (cvi (σ := s4) oX (D4.m 1 rfl))) (uL (cvi (σ := s4) oX (D4.m 2 rfl))) (uL (D4.m 3 rfl)) (Own.ren (cvo (by (simp)) (by (simp)) o5) (GW.ren_lend _ _ dE rfl)) oX oX oX oX)) fun a7 s5 hs1 ok6 r1 sm1 => ?_
   have q33 := kq hs1 sm1 8 (D4.k q18)
   obtain ⟨t3, ⟨g1, hT1, o6, hp1, hp2⟩, B1⟩ := r1
   have o7 : Own s5 40 42 4 dv (List.length (g1)) (List.flatMap recC (g1)) := Own.ren o6 (B1.ren dE rfl)
   refine wpList_nil (tn (wp_seq ?_))
   refine gI a7 s5 ok6 (gM q33 (gB 0 (gE ok6 fun a8 s6 ok7 D5 => ?_))); have q43 := D5.k (kq hs1 sm1 6 (D4.k q22)); have o8 := Own.k0 o7 D5.stp; refine tn ?_
   refine gI a8 s6 ok7 (gM (D5.k q33) (gM q43 (gT (Ty.nat ((q * 20 + 20) + 20)) rfl (fun B H I J O d0 d1 => rP ((y_add (eI d0) (eI d1) wX).mono (fun τ _ h => cN (σ := τ) h))) (gB 0 (gE ok7 fun a9 s7 ok8 D6 => ?_))))); have o9 := Own.k0 o8 D6.stp; refine bn ?_
   exact tn ⟨n - ((q + 1)) * 20, by omega, s7, g1, (q + 1), rfl, ((((F4.step0 D4.stp).sl hs1).step0 D5.stp).step0 D6.stp), ok8, (cJ (D6.k (D5.m 1 rfl))), (cJ (D6.m 3 rfl)), (D6.k (D5.k (kq hs1 sm1 0 (D4.k q19)))), (D6.k (D5.k (kq hs1 sm1 1 (D4.k q20)))), (D6.k (D5.k (kq hs1 sm1 2 (D4.k q21)))), (D6.k q43), o9, hsg.trans (hp1.mono (Nat.zero_le _) oM), blk_first hB hp1 hp2, by omega, rfl⟩
  ·
   refine wp_exit (tx (tx (bx (tn (wp_seq ?_)))))
   refine gI a5 s3 ok4 (gM q19 (gM q17 (gM q20 (gM q21 (gE2 ok4 fun a10 s8 ok9 D7 => ?_))))); have o10 := Own.k0 o4 D7.stp
   refine tL ok9 (y_callL (L := [40]) [(40, 40)] [(40, 40)] #[a10.eval (.tmp 23), a10.eval (.tmp 24), a10.eval (.tmp 25), a10.eval (.tmp 26)] rfl dE Tryd.func45 rfl rfl my4 (insSort_fn (dv) (E) ((q * 20)) (n) _ lW _ _ _ _ (uL (D7.m 0 rfl)) (uL (cvi (σ := s8) oX (D7.m 1 rfl))) (uL (cvi (σ := s8) oX (D7.m 2 rfl))) (uL (D7.m 3 rfl)) (Own.ren (cvo (by (simp)) (by (simp)) o10) (GW.ren_lend _ _ dE rfl)) oX oX oX oX)) fun a11 s9 hs2 ok10 r2 sm2 => ?_
   obtain ⟨t4, ⟨g2, hT2, o11, hp3, hp4⟩, B2⟩ := r2
   have o12 : Own s9 40 42 4 dv (List.length (g2)) (List.flatMap recC (g2)) := Own.ren o11 (B2.ren dE rfl)
   refine wpList_nil (tn (wp_block ?_))
   refine loop (fun n3 a12 w3 => ∃ (t5 : GW) (F : List Rec) (s : Nat), t5.w = w3 ∧ FromL [40] σ t5 ∧ Ok 63 [] a12 ∧ At (Ty.nat s) t5 a12 (.tmp 6) ∧ At (Ty.val dv) t5 a12 (.tmp 0) ∧ At (Ty.nat n) t5 a12 (.tmp 1) ∧ At (Ty.val (Value.func (Fn.func 20) #[] #[])) t5 a12 (.tmp 2) ∧ Own t5 40 42 4 dv (List.length F) (List.flatMap recC F) ∧ (Sg 0 n D F) ∧ (Blk F s 0 n) ∧ (1 ≤ s ∧ s ≤ 2 * n + 20) ∧ n3 = n - s) (n - (20)) ?_ ?_
   ·
    exact ⟨s9, g2, 20, rfl, ((F4.step0 D7.stp).sl hs2), ok10, (cJ (kq hs2 sm2 6 (D7.k q22))), (kq hs2 sm2 0 (D7.k q19)), (kq hs2 sm2 1 (D7.k q20)), (kq hs2 sm2 2 (D7.k q21)), o12, hsg.trans (hp3.mono (Nat.zero_le _) (Nat.le_refl _)), blk_last hB oM hp3 hp4, by omega, rfl⟩
   ·
    rintro n4 a13 w4 ⟨t6, F, s, rfl, F11, ok11, q64, q65, q66, q67, o13, hsg, hB, hs1, rfl⟩
    have hFl_ := hsg.len
    have hdF_ := hsg.day hday
    refine wp_seq (wp_seq ?_)
    refine gI a13 t6 ok11 (gM q64 (gM q66 (gS rfl (fun B H I J O d0 d1 => rP (y_lss (eI d0) (eI d1))) (gE ok11 fun a14 s10 ok12 D8 => ?_)))); have F12 := F11.step0 D8.stp; have q68 := D8.k q64; have o14 := Own.k0 o13 D8.stp; refine tn ?_
    refine cond_p (p := (((s : Nat) : Int) < ((n : Nat) : Int))) (D8.m 2 rfl) (fun c2 => ?_) (fun c2 => ?_)
    ·
     refine wp_skip (tn (wp_block (wp_seq ?_)))
     refine gI a14 s10 ok12 (gM q68 (gT (Ty.nat (2 * s)) rfl (fun B H I J O d0 d1 => rP ((y_mul rfl (eI d0) wX).mono (fun τ _ h => cN (σ := τ) h))) (gC (Ty.int (0 : Int)) (gB 0 (gE ok12 fun a15 s11 ok13 D9 => ?_))))); have o15 := Own.k0 o14 D9.stp
     have q79 : At (Ty.nat (s + s)) s11 a15 (.tmp 8) := (cvi (by (omega)) (D9.m 3 rfl))
     refine tn (wp_seq (wp_block ?_))
     refine loop (fun n5 a16 w5 => ∃ (t7 : GW) (G : List Rec) (q : Nat) (A : Nat), t7.w = w5 ∧ FromL [40] σ t7 ∧ Ok 63 [] a16 ∧ At (Ty.nat A) t7 a16 (.tmp 7) ∧ At (Ty.nat (A + (s + s))) t7 a16 (.tmp 8) ∧ At (Ty.nat s) t7 a16 (.tmp 6) ∧ At (Ty.val dv) t7 a16 (.tmp 0) ∧ At (Ty.nat n) t7 a16 (.tmp 1) ∧ At (Ty.val (Value.func (Fn.func 20) #[] #[])) t7 a16 (.tmp 2) ∧ Own t7 40 42 4 dv (List.length G) (List.flatMap recC G) ∧ (Sg 0 n D G) ∧ (Blk G s q n) ∧ (A = q * (s + s)) ∧ (A ≤ n) ∧ n5 = n - A) (n - (0)) ?_ ?_
     ·
      exact ⟨s11, F, 0, 0, rfl, (F12.step0 D9.stp), ok13, (cJ (D9.m 2 rfl)), (cJ q79), (D9.k q68), (D9.k (D8.k q65)), (D9.k (D8.k q66)), (D9.k (D8.k q67)), (cvo (by (simp)) (by (simp)) o15), hsg, hB, by rw [Nat.zero_mul], by omega, rfl⟩
     ·
      rintro n6 a17 w6 ⟨t8, G, q, A, rfl, F14, ok14, q80, q81, q82, q83, q84, q85, o16, hsgG, hB2, hA, hAn, rfl⟩
      have hGl_ := hsgG.len
      have hdG_ := hsgG.day hday
      have hbp := blk_pair hB2
      rw [← hA] at hbp
      refine wp_seq (wp_seq ?_)
      refine gI a17 t8 ok14 (gM q81 (gM q84 (gS rfl (fun B H I J O d0 d1 => rP (y_leq (eI d0) (eI d1))) (gE ok14 fun a18 s12 ok15 D10 => ?_)))); have F15 := F14.step0 D10.stp; have q86 := D10.k q80; have q87 := D10.k q81; have q88 := D10.k q82; have q89 := D10.k q83; have q90 := D10.k q84; have q91 := D10.k q85; have o17 := Own.k0 o16 D10.stp; refine tn ?_
      refine cond_p (p := ((((A + (s + s)) : Nat) : Int) ≤ ((n : Nat) : Int))) (D10.m 2 rfl) (fun c3 => ?_) (fun c3 => ?_)
      ·
       have hsP1 : Srt G A (A + s) := (by have h_ := hbp.1; rwa [Nat.min_eq_left oM] at h_); have hsP2 : Srt G (A + s) (A + (s + s)) := (by have h_ := hbp.2; rwa [Nat.min_eq_left oM, Nat.add_assoc] at h_)
       refine wp_skip (tn (wp_block (wp_seq ?_)))
       refine gI a18 s12 ok15 (gM q89 (gM q86 (gM q86 (gM q88 (gT (Ty.nat (A + s)) rfl (fun B H I J O d0 d1 => rP ((y_add (eI d0) (eI d1) wX).mono (fun τ _ h => cN (σ := τ) h))) (gM q87 (gM q91 (gE2 ok15 fun a19 s13 ok16 D11 => ?_)))))))); have o18 := Own.k0 o17 D11.stp
       refine tL ok16 (y_callL (L := [40]) [(40, 40)] [(40, 40)] #[a19.eval (.tmp 36), a19.eval (.tmp 37), a19.eval (.tmp 40), a19.eval (.tmp 41), a19.eval (.tmp 42)] rfl dE Tryd.func46 rfl rfl my5 (symMerge_fn ((((A + (s + s))) - (A))) (dv) (G) (A) ((A + s)) ((A + (s + s))) _ lW _ _ _ _ _ (uL (D11.m 0 rfl)) (uL (cvi (σ := s13) (by first | omega | assumption | rfl | exact hH.p1 | exact hH.p2 | exact hg1.srt hH.p3 (.inr (Nat.le_refl _)) | exact hg1.srt hH.p4 (.inr oM) | exact hH.sg.day hday | exact hg1.day (hH.sg.day hday) | (rw [hg1.len]; omega)) (D11.m 1 rfl))) (uL (cvi (σ := s13) (by first | omega | assumption | rfl | exact hH.p1 | exact hH.p2 | exact hg1.srt hH.p3 (.inr (Nat.le_refl _)) | exact hg1.srt hH.p4 (.inr oM) | exact hH.sg.day hday | exact hg1.day (hH.sg.day hday) | (rw [hg1.len]; omega)) (D11.m 4 rfl))) (uL (cvi (σ := s13) (by first | omega | assumption | rfl | exact hH.p1 | exact hH.p2 | exact hg1.srt hH.p3 (.inr (Nat.le_refl _)) | exact hg1.srt hH.p4 (.inr oM) | exact hH.sg.day hday | exact hg1.day (hH.sg.day hday) | (rw [hg1.len]; omega)) (D11.m 5 rfl))) (uL (D11.m 6 rfl)) (Own.ren (cvo (by (simp)) (by (simp)) o18) (GW.ren_lend _ _ dE rfl)) (by first | omega | assumption | rfl | exact hH.p1 | exact hH.p2 | exact hg1.srt hH.p3 (.inr (Nat.le_refl _)) | exact hg1.srt hH.p4 (.inr oM) | exact hH.sg.day hday | exact hg1.day (hH.sg.day hday) | (rw [hg1.len]; omega)) (by first | omega | assumption | rfl | exact hH.p1 | exact hH.p2 | exact hg1.srt hH.p3 (.inr (Nat.le_refl _)) | exact hg1.srt hH.p4 (.inr oM) | exact hH.sg.day hday | exact hg1.day (hH.sg.day hday) | (rw [hg1.len]; omega)) (by first | omega | assumption | rfl | exact hH.p1 | exact hH.p2 | exact hg1.srt hH.p3 (.inr (Nat.le_refl _)) | exact hg1.srt hH.p4 (.inr oM) | exact hH.sg.day hday | exact hg1.day (hH.sg.day hday) | (rw [hg1.len]; omega)) (by first | omega | assumption | rfl | exact hH.p1 | exact hH.p2 | exact hg1.srt hH.p3 (.inr (Nat.le_refl _)) | exact hg1.srt hH.p4 (.inr oM) | exact hH.sg.day hday | exact hg1.day (hH.sg.day hday) | (rw [hg1.len]; omega)) (by first | omega | assumption | rfl | exact hH.p1 | exact hH.p2 | exact hg1.srt hH.p3 (.inr (Nat.le_refl _)) | exact hg1.srt hH.p4 (.inr oM) | exact hH.sg.day hday | exact hg1.day (hH.sg.day hday) | (rw [hg1.len]; omega)) (by first | omega | assumption | rfl | exact hH.p1 | exact hH.p2 | exact hg1.srt hH.p3 (.inr (Nat.le_refl _)) | exact hg1.srt hH.p4 (.inr oM) | exact hH.sg.day hday | exact hg1.day (hH.sg.day hday) | (rw [hg1.len]; omega)) (by first | omega | assumption | rfl | exact hH.p1 | exact hH.p2 | exact hg1.srt hH.p3 (.inr (Nat.le_refl _)) | exact hg1.srt hH.p4 (.inr oM) | exact hH.sg.day hday | exact hg1.day (hH.sg.day hday) | (rw [hg1.len]; omega)) (by first | omega | assumption | rfl | exact hH.p1 | exact hH.p2 | exact hg1.srt hH.p3 (.inr (Nat.le_refl _)) | exact hg1.srt hH.p4 (.inr oM) | exact hH.sg.day hday | exact hg1.day (hH.sg.day hday) | (rw [hg1.len]; omega)))) fun a20 s14 hs3 ok17 r3 sm3 => ?_
       have q103 := kq hs3 sm3 8 (D11.k q87)
       obtain ⟨t9, ⟨g3, hT3, o19, hp5, hp6⟩, B3⟩ := r3
       have o20 : Own s14 40 42 4 dv (List.length (g3)) (List.flatMap recC (g3)) := Own.ren o19 (B3.ren dE rfl)
       refine wpList_nil (tn (wp_seq ?_))
       refine gI a20 s14 ok17 (gM q103 (gB 0 (gE ok17 fun a21 s15 ok18 D12 => ?_))); have q110 := D12.k (kq hs3 sm3 6 (D11.k q88)); have o21 := Own.k0 o20 D12.stp; refine tn ?_
       refine gI a21 s15 ok18 (gM (D12.k q103) (gM q110 (gT (Ty.nat (2 * s)) rfl (fun B H I J O d0 => rP ((y_mul rfl (eI d0) wX).mono (fun τ _ h => cN (σ := τ) h))) (gT (Ty.nat ((A + (s + s)) + (2 * s))) rfl (fun B H I J O d0 d1 => rP ((y_add (eI d0) (eI d1) wX).mono (fun τ _ h => cN (σ := τ) h))) (gB 0 (gE ok18 fun a22 s16 ok19 D13 => ?_)))))); have o22 := Own.k0 o21 D13.stp
       have q121 : At (Ty.nat ((A + (s + s)) + (s + s))) s16 a22 (.tmp 8) := (cvi (by (omega)) (D13.m 4 rfl))
       refine bn ?_
       exact tn ⟨n - ((A + (s + s))), by omega, s16, g3, (q + 1), (A + (s + s)), rfl, ((((F15.step0 D11.stp).sl hs3).step0 D12.stp).step0 D13.stp), ok19, (cJ (D13.k (D12.m 1 rfl))), (cJ q121), (D13.k q110), (D13.k (D12.k (kq hs3 sm3 0 (D11.k q89)))), (D13.k (D12.k (kq hs3 sm3 1 (D11.k q90)))), (D13.k (D12.k (kq hs3 sm3 2 (D11.k q91)))), o22, hsgG.trans (hp5.mono (Nat.zero_le _) oM), blk_step hB2 (by rw [← hA]; exact hp5) (by rw [← hA]; exact hp6), by rw [Nat.add_mul, Nat.one_mul, ← hA], by omega, rfl⟩
      ·
       refine wp_exit (tx (tx (bx (tn (wp_seq (wp_seq ?_))))))
       refine gI a18 s12 ok15 (gM q86 (gM q88 (gT (Ty.nat (A + s)) rfl (fun B H I J O d0 d1 => rP ((y_add (eI d0) (eI d1) wX).mono (fun τ _ h => cN (σ := τ) h))) (gB 0 (gE ok15 fun a23 s17 ok20 D14 => ?_))))); have q125 := D14.k q90; have o23 := Own.k0 o17 D14.stp; have q127 := D14.m 3 rfl; refine tn (wp_seq ?_)
       refine gI a23 s17 ok20 (gM q127 (gM q125 (gS rfl (fun B H I J O d0 d1 => rP (y_lss (eI d0) (eI d1))) (gE ok20 fun a24 s18 ok21 D15 => ?_)))); have F21 := (F15.step0 D14.stp).step0 D15.stp; have q129 := D15.k (D14.k q88); have q130 := D15.k (D14.k q89); have q131 := D15.k q125; have q132 := D15.k (D14.k q91); have o24 := Own.k0 o23 D15.stp; refine tn ?_
       refine cond_p (p := ((((A + s) : Nat) : Int) < ((n : Nat) : Int))) (D15.m 2 rfl) (fun c4 => ?_) (fun c4 => ?_)
       ·
        have hsP1 : Srt G A (A + s) := (by have h_ := hbp.1; rwa [Nat.min_eq_left oM] at h_); have hsP2 : Srt G (A + s) n := (by have h_ := hbp.2; rwa [Nat.min_eq_right oM] at h_)
        refine gI a24 s18 ok21 (gM q130 (gM (D15.k (D14.k q86)) (gM (D15.k q127) (gM q131 (gM q132 (gE2 ok21 fun a25 s19 ok22 D16 => ?_)))))); have o25 := Own.k0 o24 D16.stp
        refine tL ok22 (y_callL (L := [40]) [(40, 40)] [(40, 40)] #[a25.eval (.tmp 55), a25.eval (.tmp 56), a25.eval (.tmp 57), a25.eval (.tmp 58), a25.eval (.tmp 59)] rfl dE Tryd.func46 rfl rfl my5 (symMerge_fn (((n) - (A))) (dv) (G) (A) ((A + s)) (n) _ lW _ _ _ _ _ (uL (D16.m 0 rfl)) (uL (cvi (σ := s19) (by first | omega | assumption | rfl | exact hH.p1 | exact hH.p2 | exact hg1.srt hH.p3 (.inr (Nat.le_refl _)) | exact hg1.srt hH.p4 (.inr oM) | exact hH.sg.day hday | exact hg1.day (hH.sg.day hday) | (rw [hg1.len]; omega)) (D16.m 1 rfl))) (uL (cvi (σ := s19) (by first | omega | assumption | rfl | exact hH.p1 | exact hH.p2 | exact hg1.srt hH.p3 (.inr (Nat.le_refl _)) | exact hg1.srt hH.p4 (.inr oM) | exact hH.sg.day hday | exact hg1.day (hH.sg.day hday) | (rw [hg1.len]; omega)) (D16.m 2 rfl))) (uL (cvi (σ := s19) (by first | omega | assumption | rfl | exact hH.p1 | exact hH.p2 | exact hg1.srt hH.p3 (.inr (Nat.le_refl _)) | exact hg1.srt hH.p4 (.inr oM) | exact hH.sg.day hday | exact hg1.day (hH.sg.day hday) | (rw [hg1.len]; omega)) (D16.m 3 rfl))) (uL (D16.m 4 rfl)) (Own.ren (cvo (by (simp)) (by (simp)) o25) (GW.ren_lend _ _ dE rfl)) (by first | omega | assumption | rfl | exact hH.p1 | exact hH.p2 | exact hg1.srt hH.p3 (.inr (Nat.le_refl _)) | exact hg1.srt hH.p4 (.inr oM) | exact hH.sg.day hday | exact hg1.day (hH.sg.day hday) | (rw [hg1.len]; omega)) (by first | omega | assumption | rfl | exact hH.p1 | exact hH.p2 | exact hg1.srt hH.p3 (.inr (Nat.le_refl _)) | exact hg1.srt hH.p4 (.inr oM) | exact hH.sg.day hday | exact hg1.day (hH.sg.day hday) | (rw [hg1.len]; omega)) (by first | omega | assumption | rfl | exact hH.p1 | exact hH.p2 | exact hg1.srt hH.p3 (.inr (Nat.le_refl _)) | exact hg1.srt hH.p4 (.inr oM) | exact hH.sg.day hday | exact hg1.day (hH.sg.day hday) | (rw [hg1.len]; omega)) (by first | omega | assumption | rfl | exact hH.p1 | exact hH.p2 | exact hg1.srt hH.p3 (.inr (Nat.le_refl _)) | exact hg1.srt hH.p4 (.inr oM) | exact hH.sg.day hday | exact hg1.day (hH.sg.day hday) | (rw [hg1.len]; omega)) (by first | omega | assumption | rfl | exact hH.p1 | exact hH.p2 | exact hg1.srt hH.p3 (.inr (Nat.le_refl _)) | exact hg1.srt hH.p4 (.inr oM) | exact hH.sg.day hday | exact hg1.day (hH.sg.day hday) | (rw [hg1.len]; omega)) (by first | omega | assumption | rfl | exact hH.p1 | exact hH.p2 | exact hg1.srt hH.p3 (.inr (Nat.le_refl _)) | exact hg1.srt hH.p4 (.inr oM) | exact hH.sg.day hday | exact hg1.day (hH.sg.day hday) | (rw [hg1.len]; omega)) (by first | omega | assumption | rfl | exact hH.p1 | exact hH.p2 | exact hg1.srt hH.p3 (.inr (Nat.le_refl _)) | exact hg1.srt hH.p4 (.inr oM) | exact hH.sg.day hday | exact hg1.day (hH.sg.day hday) | (rw [hg1.len]; omega)) (by first | omega | assumption | rfl | exact hH.p1 | exact hH.p2 | exact hg1.srt hH.p3 (.inr (Nat.le_refl _)) | exact hg1.srt hH.p4 (.inr oM) | exact hH.sg.day hday | exact hg1.day (hH.sg.day hday) | (rw [hg1.len]; omega)))) fun a26 s20 hs4 ok23 r4 sm4 => ?_
        obtain ⟨t10, ⟨g4, hT4, o26, hp7, hp8⟩, B4⟩ := r4
        have o27 : Own s20 40 42 4 dv (List.length (g4)) (List.flatMap recC (g4)) := Own.ren o26 (B4.ren dE rfl)
        refine wpList_nil (tn ?_)
        refine gI a26 s20 ok23 (gM (kq hs4 sm4 6 (D16.k q129)) (gT (Ty.nat (s * 2)) rfl (fun B H I J O d0 => rP ((y_mul (eI d0) rfl wX).mono (fun τ _ h => cN (σ := τ) h))) (gB 0 (gE ok23 fun a27 s21 ok24 D17 => ?_)))); have o28 := Own.k0 o27 D17.stp
        have q153 : At (Ty.nat (s + s)) s21 a27 (.tmp 6) := (cvi (by (omega)) (D17.m 2 rfl))
        refine bn ?_
        exact tn ⟨n - ((s + s)), by omega, s21, g4, (s + s), rfl, (((F21.step0 D16.stp).sl hs4).step0 D17.stp), ok24, (cJ q153), (D17.k (kq hs4 sm4 0 (D16.k q130))), (D17.k (kq hs4 sm4 1 (D16.k q131))), (D17.k (kq hs4 sm4 2 (D16.k q132))), o28, hsgG.trans (hp7.mono (Nat.zero_le _) (Nat.le_refl _)), blk_done hB2 oM (by rw [← hA]; exact hp7) (by rw [← hA]; exact hp8), by omega, rfl⟩
       ·
        have hsL : Srt G A n := (by have h_ := hbp.1; rwa [Nat.min_eq_right oM] at h_)
        refine wp_skip (tn ?_)
        refine gI a24 s18 ok21 (gM q129 (gT (Ty.nat (s * 2)) rfl (fun B H I J O d0 => rP ((y_mul (eI d0) rfl wX).mono (fun τ _ h => cN (σ := τ) h))) (gB 0 (gE ok21 fun a28 s22 ok25 D18 => ?_)))); have o29 := Own.k0 o24 D18.stp
        have q158 : At (Ty.nat (s + s)) s22 a28 (.tmp 6) := (cvi (by (omega)) (D18.m 2 rfl))
        refine bn ?_
        exact tn ⟨n - ((s + s)), by omega, s22, G, (s + s), rfl, (F21.step0 D18.stp), ok25, (cJ q158), (D18.k q130), (D18.k q131), (D18.k q132), (cvo (by (simp)) (by (simp)) o29), hsgG, blk_done hB2 oM (Sg.refl _ _ _) (by rw [← hA]; exact hsL), by omega, rfl⟩
    ·
     have hfinS := blk_end hB oM
     refine wp_exit (tx (tx (bx ?_)))
     exact nL0 rfl ok12 F12 ⟨F, trivial, (cvo (by (simp)) (by (simp)) o14), (by exact hsg), (by exact hfinS)⟩


set_option maxHeartbeats 4000000 in
set_option maxRecDepth 100000 in
theorem sortStable_fn (dv : Value) (D : List Rec) (σ : GW) (hlow : Low [40] σ) (v0 v1 : Value) (hv0 : Ty.has (Ty.val dv) σ v0) (hv1 : Ty.has (Ty.val (Value.func (Fn.func 20) #[] #[])) σ v1) (ho_dv : Own σ 40 42 4 dv (List.length D) (List.flatMap recC D)) (hDl : D.length ≤ 1000000) (hday : DayOk D) :
    FnL Tryd.prog 19 #[v0, v1] σ [40] (fun v τ => ∃ (D2 : List Rec), True ∧ (Own τ 40 42 4 dv (List.length D2) (List.flatMap recC D2)) ∧ (Sg 0 D.length D D2) ∧ (Srt D2 0 D.length)) := by
 refine fn_introL hlow Tryd.func19 rfl Tryd.ntmps19 (Nat.le_of_ble_eq_true rfl) (fun a0 F0 ok0 hargs => ?_)
 have p0 := pB (hargs 0 _ rfl) hv0
 have p1 := pB (hargs 1 _ rfl) hv1
 clear hargs
 refine gI a0 σ ok0 (gM p0 (gM p0 (gT (Ty.nat (List.length D)) rfl (fun B H I J O d0 => rP (own_len Tryd.underlying26 (al (R := (Pr.own 40 42 4 (List.length D) (List.flatMap recC D))) (eI d0) (Own.k0 ho_dv I)))) (gM p1 (gE2 ok0 fun a1 s1 ok1 D1 => ?_))))); have o1 := Own.k0 ho_dv D1.stp
 refine tL ok1 (y_callL (L := [40]) [(40, 40)] [(40, 40)] #[a1.eval (.tmp 4), a1.eval (.tmp 6), a1.eval (.tmp 7)] rfl dE Tryd.func34 rfl rfl my3 (stable_fn (dv) (D) ((List.length D)) _ lW _ _ _ (uL (D1.m 0 rfl)) (uL (cvi (σ := s1) (by first | omega | assumption | rfl | exact hsg.day hday | exact hsgG.day hday | exact hsP1 | exact hsP2) (D1.m 2 rfl))) (uL (D1.m 3 rfl)) (Own.ren o1 (GW.ren_lend _ _ dE rfl)) (by first | omega | assumption | rfl | exact hsg.day hday | exact hsgG.day hday | exact hsP1 | exact hsP2) (by first | omega | assumption | rfl | exact hsg.day hday | exact hsgG.day hday | exact hsP1 | exact hsP2) (by first | omega | assumption | rfl | exact hsg.day hday | exact hsgG.day hday | exact hsP1 | exact hsP2))) fun a2 s2 hs1 ok2 r1 sm1 => ?_
 obtain ⟨t1, ⟨g1, hT1, o2, hp1, hp2⟩, B1⟩ := r1
 have o3 : Own s2 40 42 4 dv (List.length (g1)) (List.flatMap recC (g1)) := Own.ren o2 (B1.ren dE rfl)
 refine wpList_nil ?_
 exact nL0 rfl ok2 ((F0.step0 D1.stp).sl hs1) ⟨(g1), trivial, (cvo (by (simp)) (by (simp)) o3), (by assumption), (by assumption)⟩


set_option maxHeartbeats 4000000 in
set_option maxRecDepth 100000 in
theorem bAllR_fn (xs : List Rec) (σ : GW)  (v0 : Value) (hv0 : Ty.has (Ty.ref [(Ty.lst (Ty.ent 66) xs)]) σ v0)  (hok : ∀ r ∈ xs, mayR r = 0) (hxl : xs.length ≤ 1000000) :
    FnC Tryd.prog 8 #[v0] σ (Ty.lstc 4 recC (byDay xs)) := by
 have hday := dayOk_of hok
 refine fn_intro0 Tryd.func8 rfl Tryd.ntmps8 (Nat.le_of_ble_eq_true rfl) (fun s0 a0 hle F0 ok0 hargs => ?_)
 have p0 := pA hle (hargs 0 _ rfl) hv0
 clear hargs; refine wp_seq ?_
 refine gI a0 s0 ok0 (gC (Ty.val (Value.slice none 0 0)) (gE ok0 fun a1 s1 ok1 D1 => ?_)); refine tn (wp_seq ?_)
 refine gI a1 s1 ok1 (gM (D1.k p0) (gE2 ok1 fun a2 s2 ok2 D2 => ?_))
 refine tL ok2 (y_callL (L := []) [] [(42, 61)] _ rfl dE Tryd.func18 rfl rfl my1 (bRecsR_fn (xs) _ lW _ (uL (D2.m 0 rfl))  oX oX)) fun a3 s3 hs1 ok3 r1 sm1 => ?_
 obtain ⟨t1, ⟨x1, hT1, o1⟩, B1⟩ := r1
 have q3 : At (Ty.val x1) s3 a3 (.tmp 5) := Ty.up _ B1.le hT1
 have o2 : Own s3 61 42 4 x1 (List.length xs) (List.flatMap recC xs) := Own.ren o1 (B1.ren dE rfl)
 refine tL ok3 (Yld.toL (y_as q3)) fun a4 s4 hs2 ok4 r2 sm2 => ?_
 have q4 : At (Ty.val x1) s4 a4 (.tmp 3) := r2
 clear r2; refine wpList_nil (tn (wp_seq ?_))
 refine gI a4 s4 ok4 (gM q4 (gE2 ok4 fun a5 s5 ok5 D3 => ?_)); have o4 := Own.k0 (Own.kl o2 hs2) D3.stp
 have q6 : At (Ty.val x1) s5 a5 (.tmp 6) := D3.done 0 dE
 refine tL ok5 (y_callL (L := [40]) [(61, 40)] [(40, 61)] #[a5.eval (.tmp 6), a5.eval ((Operand.func 20))] rfl dE Tryd.func19 rfl rfl my2 (sortStable_fn (x1) (xs) _ lW _ _ (uL q6) (uL rfl) (Own.ren (cvo (by (simp)) (by (simp)) o4) (GW.ren_lend _ _ dE rfl)) (by first | omega | assumption | rfl) (by first | omega | assumption | rfl))) fun a6 s6 hs3 ok6 r3 sm3 => ?_
 obtain ⟨t2, ⟨g1, hT2, o5, hp1, hp2⟩, B2⟩ := r3
 have o6 : Own s6 61 42 4 x1 (List.length (g1)) (List.flatMap recC (g1)) := Own.ren o5 (B2.ren dE rfl)
 refine wpList_nil (tn (wp_seq ?_))
 refine gI a6 s6 ok6 (gM (kq hs3 sm3 3 (D3.k q4)) (gB 0 (gE ok6 fun a7 s7 ok7 D4 => ?_))); have o7 := Own.k0 o6 D4.stp
 have q9 : At (Ty.val x1) s7 a7 (.tmp 2) := D4.done 1
 refine tn (wp_ret ?_)
 obtain ⟨t3, e1, h1, q10⟩ := Own.seal o7 dE
 rw [← e1]
 have F8 := (((((((F0.step0 D1.stp).step0 D2.stp).sl hs1).sl hs2).step0 D3.stp).sl hs3).step0 D4.stp).step h1 dE
 have q11 : At (Ty.lstc 4 recC (g1)) t3 a7 (.tmp 2) := by have e : a7.eval (.tmp 2) = x1 := q9; show Ty.has _ _ _; rw [e]; exact q10
 exact retL1 rfl ok7 F8 (cvt (by (rw [byDay_sg hp1 hp2])) q11)


set_option maxHeartbeats 4000000 in
set_option maxRecDepth 100000 in
theorem rByDay_fn (l : List Rec) (σ : GW)  (v0 : Value) (hv0 : Ty.has (Ty.lstc 4 recC l) σ v0)  (hl : l.length ≤ 1000000) :
    FnC Tryd.prog 9 #[v0] σ (Ty.lstc 4 recC (byDay l)) := by
 refine fn_intro0 Tryd.func9 rfl Tryd.ntmps9 (Nat.le_of_ble_eq_true rfl) (fun s0 a0 hle F0 ok0 hargs => ?_)
 have p0 := pA hle (hargs 0 _ rfl) hv0
 have b1 := sl_le p0
 clear hargs; refine wp_seq ?_
 refine gI a0 s0 ok0 (gC (Ty.val (Value.slice none 0 0)) (gE ok0 fun a1 s1 ok1 D1 => ?_)); refine tn (wp_seq ?_)
 refine gI a1 s1 ok1 (gC (Ty.val (Value.slice none 0 0)) (gE ok1 fun a2 s2 ok2 D2 => ?_)); refine tn (wp_seq (wp_seq ?_))
 refine gI a2 s2 ok2 (gC (Ty.int (0 : Int)) (gE ok2 fun a3 s3 ok3 D3 => ?_)); refine tn (wp_block ?_)
 refine loop (fun n1 a4 w1 => ∃ (t1 : GW) (i : Nat), t1.w = w1 ∧ FromL [] s0 t1 ∧ Ok 47 [] a4 ∧ At (Ty.nat i) t1 a4 (.tmp 4) ∧ At (Ty.lstc 4 recC (byDay (l.take i))) t1 a4 (.tmp 3) ∧ At (Ty.lstc 4 recC l) t1 a4 (.tmp 0) ∧ (i ≤ l.length) ∧ n1 = l.length - i) (l.length - (0)) ?_ ?_
 ·
  exact ⟨s3, 0, rfl, (((F0.step0 D1.stp).step0 D2.stp).step0 D3.stp), ok3, (cJ (D3.m 0 rfl)), (nil_lstc (by (first | rfl | simp)) (D3.k (D2.m 0 rfl))), (D3.k (D2.k (D1.k p0))), by omega, rfl⟩
 ·
  rintro n2 a5 w2 ⟨t2, i, rfl, F4, ok4, q7, q8, q9, hi, rfl⟩
  have hbl_ := byDay_len (l := l) (i := i) oM
  have hbs_ : SrtL (byDay (l.take i)) := (byDay_ok _).1
  refine wp_seq (wp_seq ?_)
  refine gI a5 t2 ok4 (gM q7 (gM q9 (gS rfl (fun B H I J O d0 => rP (y_len Tryd.underlying26 (eI d0))) (gS rfl (fun B H I J O d0 d1 => rP (y_lss (eI d0) (eI d1))) (gE ok4 fun a6 s4 ok5 D4 => ?_))))); have F5 := F4.step0 D4.stp; have q11 := D4.k q8; refine tn ?_
  refine cond_p (p := (((i : Nat) : Int) < (((List.length l) : Nat) : Int))) (D4.m 3 rfl) (fun c1 => ?_) (fun c1 => ?_)
  ·
   refine wp_skip (tn (wp_seq (wp_block (wp_seq ?_))))
   refine gI a6 s4 ok5 (gM q11 (gS rfl (fun B H I J O d0 => rP (y_len Tryd.underlying26 (eI d0))) (gB 0 (gE ok5 fun a7 s5 ok6 D5 => ?_)))); refine tn (wp_seq (wp_block ?_))
   refine loop (fun n3 a8 w3 => ∃ (t3 : GW) (k : Nat), t3.w = w3 ∧ FromL [] s0 t3 ∧ Ok 47 [] a8 ∧ At (Ty.nat k) t3 a8 (.tmp 5) ∧ At (Ty.nat i) t3 a8 (.tmp 4) ∧ At (Ty.lstc 4 recC (byDay (l.take i))) t3 a8 (.tmp 3) ∧ At (Ty.lstc 4 recC l) t3 a8 (.tmp 0) ∧ (k ≤ i) ∧ (k = (byDay (l.take i)).length ∨ (l.getD i Rec0).1 < (rD (byDay (l.take i)) k).1) ∧ n3 = k + 1) ((i) + 1) ?_ ?_
   ·
    exact ⟨s5, i, rfl, (F5.step0 D5.stp), ok6, (cvi (by (rw [hbl_])) (D5.m 2 rfl)), (D5.k (D4.k q7)), (D5.k q11), (D5.k (D4.k q9)), by omega, .inl hbl_.symm, rfl⟩
   ·
    rintro n4 a9 w4 ⟨t4, k, rfl, F7, ok7, q18, q19, q20, q21, hk, hgt, rfl⟩
    refine wp_seq (wp_seq ?_)
    refine gI a9 t4 ok7 (gM q18 (gS rfl (fun B H I J O d0 => rP (y_gtr (eI d0) rfl)) (gS rfl (fun B H I J O d0 => rP (y_move (eI d0))) (gS rfl (fun B H I J O d0 => gu J (eI d0) fun hg => y_move (kp (O 3 rfl) I q20)) (gS rfl (fun B H I J O d0 => gu J (eI d0) fun hg => y_move (kp (O 5 rfl) I q18)) (gT (Ty.grd ((decide ((0 : Int) < ((k : Nat) : Int))) = true) (Ty.nat (k - 1))) rfl (fun B H I J O d0 d1 => gut J (eI d1) fun hg hp => (y_sub ((ef d0 rfl).1 hg) rfl wX).mono (fun τ _ h => cvi (σ := τ) oM h)) (gT (Ty.grd ((decide ((0 : Int) < ((k : Nat) : Int))) = true) (Ty.ref [(Ty.int (((byDay (l.take i)).getD (k - 1) Rec0)).1), (Ty.int (((byDay (l.take i)).getD (k - 1) Rec0)).2.1), (Ty.val (Value.string (((byDay (l.take i)).getD (k - 1) Rec0)).2.2.1)), (Ty.lst Ty.str (((byDay (l.take i)).getD (k - 1) Rec0)).2.2.2)])) rfl (fun B H I J O d0 d1 d2 => gut J (eI d2) fun hg hp => y_indexc (i := (((k - 1) : Nat) : Int)) Rec0 Tryd.underlying26 Tryd.inf42 ((ef d0 rfl).1 hg) ((ef d1 rfl).1 hg) oM oM dE (fun _ => rfl)) (gS rfl (fun B H I J O d0 d1 => gut J (eI d1) fun hg hp => y_field Tryd.fld42_0 Tryd.inf3 dE ((ef d0 rfl).1 hg) rfl) (gS rfl (fun B H I J O d0 d1 => gu J (eI d1) fun hg => y_load Tryd.underlying3 rfl ((ef d0 rfl).1 hg) rfl) (gS rfl (fun B H I J O d0 => gu J (eI d0) fun hg => y_move (kp (O 0 rfl) I q21)) (gS rfl (fun B H I J O d0 => gu J (eI d0) fun hg => y_move (kp (O 4 rfl) I q19)) ?_)))))))))))
    refine gT (Ty.grd ((decide ((0 : Int) < ((k : Nat) : Int))) = true) (Ty.ref [(Ty.int ((l.getD i Rec0)).1), (Ty.int ((l.getD i Rec0)).2.1), (Ty.val (Value.string ((l.getD i Rec0)).2.2.1)), (Ty.lst Ty.str ((l.getD i Rec0)).2.2.2)])) rfl (fun B H I J O d0 d1 d2 => gut J (eI d2) fun hg hp => y_indexc (i := ((i : Nat) : Int)) Rec0 Tryd.underlying26 Tryd.inf42 ((ef d0 rfl).1 hg) ((ef d1 rfl).1 hg) oM oM dE (fun _ => rfl)) (gS rfl (fun B H I J O d0 d1 => gut J (eI d1) fun hg hp => y_field Tryd.fld42_0 Tryd.inf3 dE ((ef d0 rfl).1 hg) rfl) (gS rfl (fun B H I J O d0 d1 => gu J (eI d1) fun hg => y_load Tryd.underlying3 rfl ((ef d0 rfl).1 hg) rfl) (gS rfl (fun B H I J O d0 d1 d2 => gu J (eI d2) fun hg => y_gtr ((ef d0 rfl).1 hg) ((ef d1 rfl).1 hg)) (gS rfl (fun B H I J O d0 d1 => rP (y_pick_and (eI d0) (eI d1) rfl)) (gE ok7 fun a10 s6 ok8 D6 => ?_))))); have F8 := F7.step0 D6.stp; have q22 := D6.k q18; have q23 := D6.k q19; have q24 := D6.k q20; have q25 := D6.k q21; refine tn ?_
    refine cond_t (D6.m 15 rfl) (fun c2 => ?_) (fun c2 => ?_)
    ·
     obtain ⟨d1, d2⟩ := Bool.and_eq_true_iff.mp c2
     replace d1 := of_decide_eq_true d1
     replace d2 := of_decide_eq_true d2
     have hk0 : 0 < k := (by simp only [Bool.and_eq_true, decide_eq_true_eq] at c2; omega); have hlt : (l.getD i Rec0).1 < (rD (byDay (l.take i)) (k - 1)).1 := (by simp only [Bool.and_eq_true, decide_eq_true_eq] at c2; have h_ := c2.2; show (l.getD i Rec0).1 < ((byDay (l.take i)).getD (k - 1) Rec0).1; omega)
     refine wp_skip (tn (wp_block ?_))
     refine gI a10 s6 ok8 (gM q22 (gT (Ty.nat (k - 1)) rfl (fun B H I J O d0 => rP ((y_sub (eI d0) rfl wX).mono (fun τ _ h => cvi (σ := τ) oM h))) (gB 0 (gE ok8 fun a11 s7 ok9 D7 => ?_)))); refine bn ?_
     exact tn ⟨((k - 1)) + 1, by omega, s7, (k - 1), rfl, (F8.step0 D7.stp), ok9, (cJ (D7.m 2 rfl)), (D7.k q23), (D7.k q24), (D7.k q25), by omega, .inr hlt, rfl⟩
    ·
     have hf : k = 0 ∨ (rD (byDay (l.take i)) (k - 1)).1 ≤ (l.getD i Rec0).1 := (by simp only [Bool.and_eq_false_iff, decide_eq_false_iff_not] at c2; rcases c2 with h_ | h_; exact .inl oM; exact .inr (by show ((byDay (l.take i)).getD (k - 1) Rec0).1 ≤ (l.getD i Rec0).1; omega)); have hput := put_eq (r := (l.getD i Rec0)) (k := k) oM hbs_ hf hgt
     refine wp_exit (tx (tx (bx (tn ?_))))
     refine gI a10 s6 ok8 (gM q24 (gM q22 (gM q22 (gT (Ty.capd (Ty.lstc 4 recC ((byDay (l.take i)).take k))) rfl (fun B H I J O d0 d1 d2 => rP (y_capR (F := recC) (l := k) Tryd.underlying26 Tryd.inf42 (eI d0) (eI d1) (eI d2) oM (fun _ => rfl))) (gM q25 (gM q23 (gT (Ty.ref [(Ty.int ((l.getD i Rec0)).1), (Ty.int ((l.getD i Rec0)).2.1), (Ty.val (Value.string ((l.getD i Rec0)).2.2.1)), (Ty.lst Ty.str ((l.getD i Rec0)).2.2.2)]) rfl (fun B H I J O d0 d1 => rP (y_indexc (i := ((i : Nat) : Int)) Rec0 Tryd.underlying26 Tryd.inf42 (eI d0) (eI d1) oM oM dE (fun _ => rfl))) (gS rfl (fun B H I J O d0 => rP (y_loadagg Tryd.underlying42 Tryd.inf42 (eI d0))) (gT (Ty.capd (Ty.lstc 4 recC [((l.getD i Rec0))])) rfl (fun B H I J O d0 => rP (y_build1x Tryd.underlying26 Tryd.inf42 rfl dE dE rfl (eI d0))) (gM q24 (gM q22 (gT (Ty.lstc 4 recC ((byDay (l.take i)).drop k)) rfl (fun B H I J O d0 d1 => rP (y_dropR (F := recC) (l := k) Tryd.underlying26 Tryd.inf42 (eI d0) (eI d1) oM (fun _ => rfl))) (gT (Ty.lstc 4 recC ([((l.getD i Rec0))] ++ ((byDay (l.take i)).drop k))) rfl (fun B H I J O d0 d1 => rP (y_appx (F := recC) Tryd.underlying26 Tryd.inf42 dE (eI d0) (eI d1) (by (try simp only [List.length_append, List.length_take, List.length_drop, List.length_singleton, List.length_cons, List.length_nil]); omega) (by (try simp only [List.length_append, List.length_take, List.length_drop, List.length_singleton, List.length_cons, List.length_nil]); omega))) ?_)))))))))))))
     refine gT (Ty.lstc 4 recC (((byDay (l.take i)).take k) ++ ([((l.getD i Rec0))] ++ ((byDay (l.take i)).drop k)))) rfl (fun B H I J O d0 d1 d2 => rP (y_appx (F := recC) Tryd.underlying26 Tryd.inf42 dE (eI d0) (eI d1) (by (try simp only [List.length_append, List.length_take, List.length_drop, List.length_singleton, List.length_cons, List.length_nil]); omega) (by (try simp only [List.length_append, List.length_take, List.length_drop, List.length_singleton, List.length_cons, List.length_nil]); omega))) (gB 0 (gE ok8 fun a12 s8 ok10 D8 => ?_)); refine bn (tn ?_)
     refine gI a12 s8 ok10 (gM (D8.k q23) (gT (Ty.nat (i + 1)) rfl (fun B H I J O d0 => rP ((y_add (eI d0) rfl wX).mono (fun τ _ h => cN (σ := τ) h))) (gB 0 (gE ok10 fun a13 s9 ok11 D9 => ?_))))
     exact tn ⟨l.length - ((i+1)), by omega, s9, (i+1), rfl, ((F8.step0 D8.stp).step0 D9.stp), ok11, (cJ (D9.m 2 rfl)), (cvt (by (rw [hput, byDay_step oM])) (D9.k (D8.m 14 rfl))), (D9.k (D8.k q25)), by omega, rfl⟩
  ·
   have hie : i = l.length := oM
   refine wp_exit (tx (tx (bx (tn (wp_seq ?_)))))
   refine gI a6 s4 ok5 (gM q11 (gB 0 (gE ok5 fun a14 s10 ok12 D10 => ?_))); refine tn (wp_ret ?_)
   exact retL1 rfl ok12 (F5.step0 D10.stp) (cvt (by (rw [hie, List.take_length])) (D10.m 1 rfl))


set_option maxHeartbeats 4000000 in
set_option maxRecDepth 100000 in
theorem rSame_fn (dy : Int) (ch : Int) (mt : ByteArray) (rg : List ByteArray) (σ : GW)  (v0 v1 : Value) (hv0 : Ty.has (Ty.agg [(Ty.int dy), (Ty.int ch), (Ty.val (Value.string mt)), (Ty.lst Ty.str rg)]) σ v0) (hv1 : Ty.has (Ty.agg [(Ty.int dy), (Ty.int ch), (Ty.val (Value.string mt)), (Ty.lst Ty.str rg)]) σ v1)  (hzr : rg.length ≤ 1099511627776) :
    FnC Tryd.prog 17 #[v0, v1] σ (Ty.bool true) := by
 refine fn_intro0 Tryd.func17 rfl Tryd.ntmps17 (Nat.le_of_ble_eq_true rfl) (fun s0 a0 hle F0 ok0 hargs => ?_)
 have p0 := pA hle (hargs 0 _ rfl) hv0
 have p1 := pA hle (hargs 1 _ rfl) hv1
 clear hargs; refine wp_seq ?_
 refine gI a0 s0 ok0 (gS rfl (fun B H I J O => rP (y_boxagg (kp (O 0 rfl) I p0))) (gS rfl (fun B H I J O => rP (y_boxagg (kp (O 1 rfl) I p1))) (gC (Ty.bool false) (gE ok0 fun a1 s1 ok1 D1 => ?_)))); have q1 := D1.m 0 rfl; have q2 := D1.m 1 rfl; refine tn (wp_seq (wp_seq ?_))
 refine gI a1 s1 ok1 (gS rfl (fun B H I J O => rP (y_field Tryd.fld42_0 Tryd.inf3 dE (kp (O 2 rfl) I q1) rfl)) (gS rfl (fun B H I J O d0 => rP (y_load Tryd.underlying3 rfl (eI d0) rfl)) (gS rfl (fun B H I J O => rP (y_field Tryd.fld42_0 Tryd.inf3 dE (kp (O 3 rfl) I q2) rfl)) (gS rfl (fun B H I J O d0 => rP (y_load Tryd.underlying3 rfl (eI d0) rfl)) (gS rfl (fun B H I J O d0 d1 => rP (y_neq (eI d0) (eI d1))) (gS rfl (fun B H I J O d0 => rP (y_move (eI d0))) (gS rfl (fun B H I J O d0 => guf J (eI d0) fun hg hp => y_field Tryd.fld42_1 Tryd.inf3 dE (kp (O 2 rfl) I q1) rfl) (gS rfl (fun B H I J O d0 d1 => gu J (eI d1) fun hg => y_load Tryd.underlying3 rfl ((ef d0 rfl).1 hg) rfl) (gS rfl (fun B H I J O d0 => guf J (eI d0) fun hg hp => y_field Tryd.fld42_1 Tryd.inf3 dE (kp (O 3 rfl) I q2) rfl) (gS rfl (fun B H I J O d0 d1 => gu J (eI d1) fun hg => y_load Tryd.underlying3 rfl ((ef d0 rfl).1 hg) rfl) (gS rfl (fun B H I J O d0 d1 d2 => gu J (eI d2) fun hg => y_neq ((ef d0 rfl).1 hg) ((ef d1 rfl).1 hg)) (gS rfl (fun B H I J O d0 d1 => rP (y_pick_or (eI d0) rfl (eI d1))) (gS rfl (fun B H I J O d0 d1 => rP (y_move (eI d0))) (gT (Ty.grd (((decide (dy ≠ dy)) || (decide (ch ≠ ch))) = false) (Ty.ref [(Ty.val (Value.string mt)), (Ty.lst Ty.str rg)])) rfl (by intro B H I J O d0; refine run_guard J rfl rfl dE (eI d0) (fun hg => ?_); obtain ⟨d1, d2⟩ := Bool.or_eq_false_iff.mp hg; have d1 := of_decide_eq_false d1; have d2 := of_decide_eq_false d2; exact y_field Tryd.fld42_2 Tryd.inf9 dE (kp (O 2 rfl) I q1) rfl) ?_))))))))))))))
 refine gT (Ty.grd (((decide (dy ≠ dy)) || (decide (ch ≠ ch))) = false) (Ty.val (Value.string mt))) rfl (by intro B H I J O d0 d1; refine run_guard J rfl rfl dE (eI d1) (fun hg => ?_); obtain ⟨d3, d4⟩ := Bool.or_eq_false_iff.mp hg; have d3 := of_decide_eq_false d3; have d4 := of_decide_eq_false d4; exact y_load Tryd.underlying9 rfl ((ef d0 rfl).1 hg) rfl) (gT (Ty.grd (((decide (dy ≠ dy)) || (decide (ch ≠ ch))) = false) (Ty.ref [(Ty.val (Value.string mt)), (Ty.lst Ty.str rg)])) rfl (by intro B H I J O d0; refine run_guard J rfl rfl dE (eI d0) (fun hg => ?_); obtain ⟨d5, d6⟩ := Bool.or_eq_false_iff.mp hg; have d5 := of_decide_eq_false d5; have d6 := of_decide_eq_false d6; exact y_field Tryd.fld42_2 Tryd.inf9 dE (kp (O 3 rfl) I q2) rfl) (gT (Ty.grd (((decide (dy ≠ dy)) || (decide (ch ≠ ch))) = false) (Ty.val (Value.string mt))) rfl (by intro B H I J O d0 d1; refine run_guard J rfl rfl dE (eI d1) (fun hg => ?_); obtain ⟨d7, d8⟩ := Bool.or_eq_false_iff.mp hg; have d7 := of_decide_eq_false d7; have d8 := of_decide_eq_false d8; exact y_load Tryd.underlying9 rfl ((ef d0 rfl).1 hg) rfl) (gT (Ty.grd (((decide (dy ≠ dy)) || (decide (ch ≠ ch))) = false) (Ty.bool (!(decide (mt = mt))))) rfl (by intro B H I J O d0 d1 d2; refine run_guard J rfl rfl dE (eI d2) (fun hg => ?_); obtain ⟨d9, d10⟩ := Bool.or_eq_false_iff.mp hg; have d9 := of_decide_eq_false d9; have d10 := of_decide_eq_false d10; exact y_sneq Tryd.underlying9 ((ef d0 rfl).1 hg) ((ef d1 rfl).1 hg)) (gS rfl (fun B H I J O d0 d1 => rP (y_pick_or (eI d0) rfl (eI d1))) (gS rfl (fun B H I J O d0 d1 => rP (y_move (eI d0))) ?_)))))
 refine gT (Ty.grd ((((decide (dy ≠ dy)) || (decide (ch ≠ ch))) || (!(decide (mt = mt)))) = false) (Ty.ref [(Ty.lst Ty.str rg)])) rfl (by intro B H I J O d0; refine run_guard J rfl rfl dE (eI d0) (fun hg => ?_); obtain ⟨d11, d12⟩ := Bool.or_eq_false_iff.mp hg; obtain ⟨d13, d14⟩ := Bool.or_eq_false_iff.mp d11; have d13 := of_decide_eq_false d13; have d14 := of_decide_eq_false d14; exact y_field Tryd.fld42_3 Tryd.inf40 dE (kp (O 2 rfl) I q1) rfl) (gT (Ty.grd ((((decide (dy ≠ dy)) || (decide (ch ≠ ch))) || (!(decide (mt = mt)))) = false) (Ty.lst Ty.str rg)) rfl (by intro B H I J O d0 d1; refine run_guard J rfl rfl dE (eI d1) (fun hg => ?_); obtain ⟨d15, d16⟩ := Bool.or_eq_false_iff.mp hg; obtain ⟨d17, d18⟩ := Bool.or_eq_false_iff.mp d15; have d17 := of_decide_eq_false d17; have d18 := of_decide_eq_false d18; exact y_load Tryd.underlying40 rfl ((ef d0 rfl).1 hg) rfl) (gT (Ty.grd ((((decide (dy ≠ dy)) || (decide (ch ≠ ch))) || (!(decide (mt = mt)))) = false) (Ty.nat (List.length rg))) rfl (by intro B H I J O d0 d1; refine run_guard J rfl rfl dE (eI d1) (fun hg => ?_); obtain ⟨d19, d20⟩ := Bool.or_eq_false_iff.mp hg; obtain ⟨d21, d22⟩ := Bool.or_eq_false_iff.mp d19; have d21 := of_decide_eq_false d21; have d22 := of_decide_eq_false d22; exact y_len Tryd.underlying40 ((ef d0 rfl).1 hg)) (gT (Ty.grd ((((decide (dy ≠ dy)) || (decide (ch ≠ ch))) || (!(decide (mt = mt)))) = false) (Ty.ref [(Ty.lst Ty.str rg)])) rfl (by intro B H I J O d0; refine run_guard J rfl rfl dE (eI d0) (fun hg => ?_); obtain ⟨d23, d24⟩ := Bool.or_eq_false_iff.mp hg; obtain ⟨d25, d26⟩ := Bool.or_eq_false_iff.mp d23; have d25 := of_decide_eq_false d25; have d26 := of_decide_eq_false d26; exact y_field Tryd.fld42_3 Tryd.inf40 dE (kp (O 3 rfl) I q2) rfl) ?_)))
 refine gT (Ty.grd ((((decide (dy ≠ dy)) || (decide (ch ≠ ch))) || (!(decide (mt = mt)))) = false) (Ty.lst Ty.str rg)) rfl (by intro B H I J O d0 d1; refine run_guard J rfl rfl dE (eI d1) (fun hg => ?_); obtain ⟨d27, d28⟩ := Bool.or_eq_false_iff.mp hg; obtain ⟨d29, d30⟩ := Bool.or_eq_false_iff.mp d27; have d29 := of_decide_eq_false d29; have d30 := of_decide_eq_false d30; exact y_load Tryd.underlying40 rfl ((ef d0 rfl).1 hg) rfl) (gT (Ty.grd ((((decide (dy ≠ dy)) || (decide (ch ≠ ch))) || (!(decide (mt = mt)))) = false) (Ty.nat (List.length rg))) rfl (by intro B H I J O d0 d1; refine run_guard J rfl rfl dE (eI d1) (fun hg => ?_); obtain ⟨d31, d32⟩ := Bool.or_eq_false_iff.mp hg; obtain ⟨d33, d34⟩ := Bool.or_eq_false_iff.mp d31; have d33 := of_decide_eq_false d33; have d34 := of_decide_eq_false d34; exact y_len Tryd.underlying40 ((ef d0 rfl).1 hg)) (gT (Ty.grd ((((decide (dy ≠ dy)) || (decide (ch ≠ ch))) || (!(decide (mt = mt)))) = false) (Ty.bool (decide ((((List.length rg) : Nat) : Int) ≠ (((List.length rg) : Nat) : Int))))) rfl (by intro B H I J O d0 d1 d2; refine run_guard J rfl rfl dE (eI d2) (fun hg => ?_); obtain ⟨d35, d36⟩ := Bool.or_eq_false_iff.mp hg; obtain ⟨d37, d38⟩ := Bool.or_eq_false_iff.mp d35; have d37 := of_decide_eq_false d37; have d38 := of_decide_eq_false d38; exact y_neq ((ef d0 rfl).1 hg) ((ef d1 rfl).1 hg)) (gS rfl (fun B H I J O d0 d1 => rP (y_pick_or (eI d0) rfl (eI d1))) (gE ok1 fun a2 s2 ok2 D2 => ?_)))); refine tn ?_
 refine cond_t (D2.m 27 rfl) (fun c1 => ?_) (fun c1 => ?_)
 ·
  exfalso
  simp at c1
 ·
  obtain ⟨d39, d40⟩ := Bool.or_eq_false_iff.mp c1
  obtain ⟨d41, d42⟩ := Bool.or_eq_false_iff.mp d39
  obtain ⟨d43, d44⟩ := Bool.or_eq_false_iff.mp d41
  replace d43 := of_decide_eq_false d43
  replace d44 := of_decide_eq_false d44
  replace d40 := of_decide_eq_false d40
  refine wp_skip (tn (wp_seq (wp_seq ?_)))
  refine gI a2 s2 ok2 (gC (Ty.int (0 : Int)) (gE ok2 fun a3 s3 ok3 D3 => ?_)); refine tn (wp_block ?_)
  refine loop (fun n1 a4 w1 => ∃ (t1 : GW) (k : Nat), t1.w = w1 ∧ FromL [] s0 t1 ∧ Ok 52 [] a4 ∧ At (Ty.nat k) t1 a4 (.tmp 5) ∧ At (Ty.ref [(Ty.int dy), (Ty.int ch), (Ty.val (Value.string mt)), (Ty.lst Ty.str rg)]) t1 a4 (.tmp 2) ∧ At (Ty.ref [(Ty.int dy), (Ty.int ch), (Ty.val (Value.string mt)), (Ty.lst Ty.str rg)]) t1 a4 (.tmp 3) ∧ (k ≤ rg.length) ∧ n1 = rg.length - k) (rg.length - (0)) ?_ ?_
  ·
   exact ⟨s3, 0, rfl, (((F0.step0 D1.stp).step0 D2.stp).step0 D3.stp), ok3, (cJ (D3.m 0 rfl)), (D3.k (D2.k q1)), (D3.k (D2.k q2)), by omega, rfl⟩
  ·
   rintro n2 a5 w2 ⟨t2, k, rfl, F4, ok4, q9, q10, q11, hk, rfl⟩
   refine wp_seq (wp_seq ?_)
   refine gI a5 t2 ok4 (gM q9 (gS rfl (fun B H I J O => rP (y_field Tryd.fld42_3 Tryd.inf40 dE (kp (O 2 rfl) I q10) rfl)) (gS rfl (fun B H I J O d0 => rP (y_load Tryd.underlying40 rfl (eI d0) rfl)) (gS rfl (fun B H I J O d0 => rP (y_len Tryd.underlying40 (eI d0))) (gS rfl (fun B H I J O d0 d1 => rP (y_lss (eI d0) (eI d1))) (gE ok4 fun a6 s4 ok5 D4 => ?_)))))); have F5 := F4.step0 D4.stp; have q12 := D4.k q9; have q13 := D4.k q10; have q14 := D4.k q11; refine tn ?_
   refine cond_p (p := (((k : Nat) : Int) < (((List.length rg) : Nat) : Int))) (D4.m 4 rfl) (fun c2 => ?_) (fun c2 => ?_)
   ·
    refine wp_skip (tn (wp_seq (wp_block (wp_seq ?_))))
    refine gI a6 s4 ok5 (gS rfl (fun B H I J O => rP (y_field Tryd.fld42_3 Tryd.inf40 dE (kp (O 2 rfl) I q13) rfl)) (gS rfl (fun B H I J O d0 => rP (y_load Tryd.underlying40 rfl (eI d0) rfl)) (gM q12 (gT (Ty.ref [(Ty.val (Value.string (rg.getD k ByteArray.empty)))]) rfl (fun B H I J O d0 d1 => rP (y_index1 Tryd.underlying40 Tryd.inf9 (eI d0) (eI d1) oM (lst_get Ty.str rg ByteArray.empty k oM))) (gS rfl (fun B H I J O d0 => rP (y_load Tryd.underlying9 rfl (eI d0) rfl)) (gS rfl (fun B H I J O => rP (y_field Tryd.fld42_3 Tryd.inf40 dE (kp (O 3 rfl) I q14) rfl)) (gS rfl (fun B H I J O d0 => rP (y_load Tryd.underlying40 rfl (eI d0) rfl)) (gM q12 (gT (Ty.ref [(Ty.val (Value.string (rg.getD k ByteArray.empty)))]) rfl (fun B H I J O d0 d1 => rP (y_index1 Tryd.underlying40 Tryd.inf9 (eI d0) (eI d1) oM (lst_get Ty.str rg ByteArray.empty k oM))) (gS rfl (fun B H I J O d0 => rP (y_load Tryd.underlying9 rfl (eI d0) rfl)) (gT (Ty.bool (!(decide ((rg.getD k ByteArray.empty) = (rg.getD k ByteArray.empty))))) rfl (fun B H I J O d0 d1 => rP (y_sneq Tryd.underlying9 (eI d0) (eI d1))) (gE ok5 fun a7 s5 ok6 D5 => ?_)))))))))))); refine tn ?_
    refine cond_t (D5.m 10 rfl) (fun c3 => ?_) (fun c3 => ?_)
    ·
     exfalso
     simp at c3
    ·
     refine wp_skip (bn (tn ?_))
     refine gI a7 s5 ok6 (gM (D5.k q12) (gT (Ty.nat (k + 1)) rfl (fun B H I J O d0 => rP ((y_add (eI d0) rfl wX).mono (fun τ _ h => cN (σ := τ) h))) (gB 0 (gE ok6 fun a8 s6 ok7 D6 => ?_))))
     exact tn ⟨rg.length - ((k+1)), by omega, s6, (k+1), rfl, ((F5.step0 D5.stp).step0 D6.stp), ok7, (cJ (D6.m 2 rfl)), (D6.k (D5.k q13)), (D6.k (D5.k q14)), by omega, rfl⟩
   ·
    refine wp_exit (tx (tx (bx (tn (wp_seq ?_)))))
    refine gI a6 s4 ok5 (gC (Ty.bool true) (gE ok5 fun a9 s7 ok8 D7 => ?_)); refine tn (wp_ret ?_)
    exact retL1 rfl ok8 (F5.step0 D7.stp) (D7.m 0 rfl)


set_option maxHeartbeats 4000000 in
set_option maxRecDepth 100000 in
theorem rSames_fn (l : List Rec) (σ : GW)  (v0 v1 : Value) (hv0 : Ty.has (Ty.lstc 4 recC l) σ v0) (hv1 : Ty.has (Ty.lstc 4 recC l) σ v1)  (hl : l.length ≤ 1000000) (hrg : ∀ r ∈ l, r.2.2.2.length ≤ 12) :
    FnC Tryd.prog 7 #[v0, v1] σ (Ty.bool true) := by
 refine fn_intro0 Tryd.func7 rfl Tryd.ntmps7 (Nat.le_of_ble_eq_true rfl) (fun s0 a0 hle F0 ok0 hargs => ?_)
 have p0 := pA hle (hargs 0 _ rfl) hv0
 have b1 := sl_le p0
 have p1 := pA hle (hargs 1 _ rfl) hv1
 have b2 := sl_le p1
 clear hargs; refine wp_seq ?_
 refine gI a0 s0 ok0 (gC (Ty.bool false) (gE ok0 fun a1 s1 ok1 D1 => ?_)); have q1 := D1.k p0; have q2 := D1.k p1; refine tn (wp_seq (wp_seq ?_))
 refine gI a1 s1 ok1 (gM q1 (gS rfl (fun B H I J O d0 => rP (y_len Tryd.underlying26 (eI d0))) (gM q2 (gS rfl (fun B H I J O d0 => rP (y_len Tryd.underlying26 (eI d0))) (gS rfl (fun B H I J O d0 d1 => rP (y_neq (eI d0) (eI d1))) (gE ok1 fun a2 s2 ok2 D2 => ?_)))))); refine tn ?_
 refine cond_p (p := ((((List.length l) : Nat) : Int) ≠ (((List.length l) : Nat) : Int))) (D2.m 4 rfl) (fun c1 => ?_) (fun c1 => ?_)
 ·
  exfalso
  simp at c1
 ·
  refine wp_skip (tn (wp_seq (wp_seq ?_)))
  refine gI a2 s2 ok2 (gC (Ty.int (0 : Int)) (gE ok2 fun a3 s3 ok3 D3 => ?_)); refine tn (wp_block ?_)
  refine loop (fun n1 a4 w1 => ∃ (t1 : GW) (k : Nat), t1.w = w1 ∧ FromL [] s0 t1 ∧ Ok 29 [] a4 ∧ At (Ty.nat k) t1 a4 (.tmp 5) ∧ At (Ty.lstc 4 recC l) t1 a4 (.tmp 0) ∧ At (Ty.lstc 4 recC l) t1 a4 (.tmp 1) ∧ (k ≤ l.length) ∧ n1 = l.length - k) (l.length - (0)) ?_ ?_
  ·
   exact ⟨s3, 0, rfl, (((F0.step0 D1.stp).step0 D2.stp).step0 D3.stp), ok3, (cJ (D3.m 0 rfl)), (D3.k (D2.k q1)), (D3.k (D2.k q2)), by omega, rfl⟩
  ·
   rintro n2 a5 w2 ⟨t2, k, rfl, F4, ok4, q9, q10, q11, hk, rfl⟩
   refine wp_seq (wp_seq ?_)
   refine gI a5 t2 ok4 (gM q9 (gM q10 (gS rfl (fun B H I J O d0 => rP (y_len Tryd.underlying26 (eI d0))) (gS rfl (fun B H I J O d0 d1 => rP (y_lss (eI d0) (eI d1))) (gE ok4 fun a6 s4 ok5 D4 => ?_))))); have F5 := F4.step0 D4.stp; have q12 := D4.k q9; have q13 := D4.k q10; have q14 := D4.k q11; refine tn ?_
   refine cond_p (p := (((k : Nat) : Int) < (((List.length l) : Nat) : Int))) (D4.m 3 rfl) (fun c2 => ?_) (fun c2 => ?_)
   ·
    have hr_ := hrg _ (getD_memR (xs := l) (k := k) oM)
    refine wp_skip (tn (wp_seq (wp_block (wp_seq ?_))))
    refine gI a6 s4 ok5 (gM q13 (gM q12 (gT (Ty.ref [(Ty.int ((l.getD k Rec0)).1), (Ty.int ((l.getD k Rec0)).2.1), (Ty.val (Value.string ((l.getD k Rec0)).2.2.1)), (Ty.lst Ty.str ((l.getD k Rec0)).2.2.2)]) rfl (fun B H I J O d0 d1 => rP (y_indexc (i := ((k : Nat) : Int)) Rec0 Tryd.underlying26 Tryd.inf42 (eI d0) (eI d1) oM oM dE (fun _ => rfl))) (gS rfl (fun B H I J O d0 => rP (y_loadagg Tryd.underlying42 Tryd.inf42 (eI d0))) (gM q14 (gM q12 (gT (Ty.ref [(Ty.int ((l.getD k Rec0)).1), (Ty.int ((l.getD k Rec0)).2.1), (Ty.val (Value.string ((l.getD k Rec0)).2.2.1)), (Ty.lst Ty.str ((l.getD k Rec0)).2.2.2)]) rfl (fun B H I J O d0 d1 => rP (y_indexc (i := ((k : Nat) : Int)) Rec0 Tryd.underlying26 Tryd.inf42 (eI d0) (eI d1) oM oM dE (fun _ => rfl))) (gS rfl (fun B H I J O d0 => rP (y_loadagg Tryd.underlying42 Tryd.inf42 (eI d0))) (gS rfl (fun B H I J O d0 d1 => rP (y_call _ Tryd.func17 rfl rfl my2 (rSame_fn (((l.getD k Rec0)).1) (((l.getD k Rec0)).2.1) (((l.getD k Rec0)).2.2.1) (((l.getD k Rec0)).2.2.2) _ _ _ (eI d0) (eI d1) oM))) (gB 0 (gE ok5 fun a7 s5 ok6 D5 => ?_))))))))))); refine tn (wp_seq ?_)
    refine gI a7 s5 ok6 (gM (D5.m 9 rfl) (gS rfl (fun B H I J O d0 => rP (y_not (eI d0))) (gE ok6 fun a8 s6 ok7 D6 => ?_))); refine tn ?_
    refine cond_t (D6.m 1 rfl) (fun c3 => ?_) (fun c3 => ?_)
    ·
     exfalso
     simp at c3
    ·
     refine wp_skip (bn (tn ?_))
     refine gI a8 s6 ok7 (gM (D6.k (D5.k q12)) (gT (Ty.nat (k + 1)) rfl (fun B H I J O d0 => rP ((y_add (eI d0) rfl wX).mono (fun τ _ h => cN (σ := τ) h))) (gB 0 (gE ok7 fun a9 s7 ok8 D7 => ?_))))
     exact tn ⟨l.length - ((k+1)), by omega, s7, (k+1), rfl, (((F5.step0 D5.stp).step0 D6.stp).step0 D7.stp), ok8, (cJ (D7.m 2 rfl)), (D7.k (D6.k (D5.k q13))), (D7.k (D6.k (D5.k q14))), by omega, rfl⟩
   ·
    refine wp_exit (tx (tx (bx (tn (wp_seq ?_)))))
    refine gI a6 s4 ok5 (gC (Ty.bool true) (gE ok5 fun a10 s8 ok9 D8 => ?_)); refine tn (wp_ret ?_)
    exact retL1 rfl ok9 (F5.step0 D8.stp) (D8.m 0 rfl)

theorem Tryd.inf57 : Info Tryd.prog 57 (.pointer none) 1 8 := by unfold Info; kernel_rfl
theorem Tryd.inf59 : Info Tryd.prog 59 (.agg #[.pointer none, .slice none 0 0]) 2 32 := by unfold Info; kernel_rfl
theorem Tryd.fld59_0 : fieldOf Tryd.prog 59 0 = some (57, 0) := by kernel_rfl
set_option maxHeartbeats 4000000 in
set_option maxRecDepth 100000 in
theorem copyCheck_fn (b buf : Value) (nb : Bool) (σ : GW) (hlow : Low [40] σ) (v0 : Value) (hv0 : Ty.has (Ty.val b) σ v0) (ho_b : OwnPT 59 σ 40 b [(Ty.val (bAddr nb b)), (Ty.val buf)])  :
    FnL Tryd.prog 35 #[v0] σ [40] (fun v τ => True ∧ (OwnPT 59 τ 40 b [(Ty.val (bAddr false b)), (Ty.val buf)])) := by
 refine fn_introL hlow Tryd.func35 rfl Tryd.ntmps35 (Nat.le_of_ble_eq_true rfl) (fun a0 F0 ok0 hargs => ?_)
 have p0 := pB (hargs 0 _ rfl) hv0
 clear hargs; refine wp_seq ?_
 refine gI a0 σ ok0 (gM p0 (gT (Ty.val b) rfl (fun B H I J O d0 => rP (y_nilp (OwnPT.toP (OwnPT.k0 ho_b I)) (eI d0))) (gT (Ty.val (ptrAt b 0)) rfl (fun B H I J O d0 => rP (ownp_field Tryd.fld59_0 Tryd.inf57 dE (OwnPT.toP (OwnPT.k0 ho_b I)) (eI d0))) (gS rfl (fun B H I J O d0 => rP (ownp_load Tryd.underlying57 rfl (OwnPT.toP (OwnPT.k0 ho_b I)) (eI d0) rfl)) (gT (Ty.bool nb) rfl (fun B H I J O d0 => rP (y_bnil Tryd.underlying57 Tryd.inf59 (OwnPT.k0 ho_b I) (eI d0) rfl)) (gE ok0 fun a1 s1 ok1 D1 => ?_)))))); have F1 := F0.step0 D1.stp; have q1 := D1.k p0; have o1 := OwnPT.k0 ho_b D1.stp; refine tn ?_
 refine cond_t (D1.m 4 rfl) (fun c1 => ?_) (fun c1 => ?_)
 ·
  refine gI a1 s1 ok1 (gM q1 (gM q1 (gT (Ty.val b) rfl (fun B H I J O d0 => rP (y_tounsafe Tryd.underlying57 Tryd.underlying89 Tryd.inf59 dE (OwnPT.k0 o1 I) (Nat.le_of_ble_eq_true rfl) (eI d0))) (gT (Ty.val b) rfl (fun B H I J O d0 => rP (y_extern (R := (Ty.val b)) #[b] (by simp only [List.map_toArray, List.map_cons, List.map_nil, (show B.eval (.tmp 9) = _ from (eI d0))]) (by rw [run_callFunc_extern Tryd.func47 (by kernel_rfl) (by kernel_rfl) (by kernel_rfl) (e := Extern.AbiNoEscape.same) (by kernel_rfl), Lib.run_noEscape]; rfl) rfl)) (gT (Ty.val b) rfl (fun B H I J O d0 => rP (y_fromunsafe Tryd.underlying89 Tryd.underlying57 Tryd.inf59 (OwnPT.k0 o1 I) (eI d0) (by kernel_rfl))) (gT (Ty.val b) rfl (fun B H I J O d0 d1 d2 d3 d4 d5 => rP (y_nilp (OwnPT.toP (OwnPT.k0 o1 I)) (eI d0))) (gT (Ty.val (ptrAt b 0)) rfl (fun B H I J O d0 d1 d2 d3 d4 d5 => rP (ownp_field Tryd.fld59_0 Tryd.inf57 dE (OwnPT.toP (OwnPT.k0 o1 I)) (eI d0))) (gE2 ok1 fun a2 s2 ok2 D2 => ?_)))))))); have o2 := OwnPT.k0 o1 D2.stp
  refine tailL0 (L := [40]) (R := (fun _ τ => OwnPT 59 τ 40 b ([(Ty.val (bAddr nb b)), (Ty.val buf)].set 0 (Ty.val b)))) rfl rfl (YldM.toL (m_storept Tryd.inf57 dE o2 (D2.m 6 rfl) (Nat.le_of_ble_eq_true rfl) (D2.m 4 rfl) (one_val (OwnPT.one o2)))) (fun v1 s3 hs1 r1 => ?_)
  have o3 : OwnPT 59 s3 40 b [(Ty.val b), (Ty.val buf)] := r1
  clear r1; refine wpList_nil ?_
  exact nL0 rfl ok2 ((F1.step0 D2.stp).sl hs1) ⟨trivial, (ownpt_cell 0 (Ty.val (bAddr false b)) o3 rfl (fun _ _ h => (cvt (by (first | rfl | omega | (simp_all; done) | (simp_all; omega))) h)))⟩
 ·
  refine wp_seq ?_
  refine gI a1 s1 ok1 (gM q1 (gT (Ty.val b) rfl (fun B H I J O d0 => rP (y_nilp (OwnPT.toP (OwnPT.k0 o1 I)) (eI d0))) (gT (Ty.val (ptrAt b 0)) rfl (fun B H I J O d0 => rP (ownp_field Tryd.fld59_0 Tryd.inf57 dE (OwnPT.toP (OwnPT.k0 o1 I)) (eI d0))) (gS rfl (fun B H I J O d0 => rP (ownp_load Tryd.underlying57 rfl (OwnPT.toP (OwnPT.k0 o1 I)) (eI d0) rfl)) (gM q1 (gT (Ty.bool false) rfl (fun B H I J O d0 d1 => rP (y_bself Tryd.underlying57 Tryd.inf59 (OwnPT.k0 o1 I) (bAddr_f (by assumption) (eI d0)) (eI d1))) (gE ok1 fun a3 s4 ok3 D3 => ?_))))))); have o4 := OwnPT.k0 o1 D3.stp; refine tn ?_
  refine cond_t (D3.m 5 rfl) (fun c2 => (by cases c2)) (fun _ => ?_)
  refine wp_skip ?_
  exact nL0 rfl ok3 (F1.step0 D3.stp) ⟨trivial, (ownpt_cell 0 (Ty.val (bAddr false b)) o4 rfl (fun _ _ h => (cvt (by (rw [c1])) h)))⟩

theorem Tryd.inf22 : Info Tryd.prog 22 (.slice none 0 0) 1 24 := by unfold Info; kernel_rfl
theorem Tryd.fld59_1 : fieldOf Tryd.prog 59 1 = some (22, 1) := by kernel_rfl
set_option maxHeartbeats 4000000 in
set_option maxRecDepth 100000 in
theorem writeString_fn (b buf : Value) (nb : Bool) (l : List UInt8) (s : ByteArray) (σ : GW) (hlow : Low [40, 41] σ) (v0 v1 : Value) (hv0 : Ty.has (Ty.val b) σ v0) (hv1 : Ty.has (Ty.val (Value.string s)) σ v1) (ho_b : OwnPT 59 σ 40 b [(Ty.val (bAddr nb b)), (Ty.val buf)]) (ho_buf : Own σ 41 5 1 buf (List.length l) (List.map Ty.byte l)) (hl : l.length ≤ 1000000000) (I : s.size ≤ 1000000000) :
    FnL Tryd.prog 21 #[v0, v1] σ [40, 41] (fun v τ => ∃ (bz : Value), (Ty.has (Ty.tup2 (Ty.nat (ByteArray.size s)) (Ty.val Value.nilIface)) τ v) ∧ (OwnPT 59 τ 40 b [(Ty.val (bAddr false b)), (Ty.val bz)]) ∧ (Own τ 41 5 1 bz (List.length (l ++ (ByteArray.data s).toList)) (List.map Ty.byte (l ++ (ByteArray.data s).toList)))) := by
 refine fn_introL hlow Tryd.func21 rfl Tryd.ntmps21 (Nat.le_of_ble_eq_true rfl) (fun a0 F0 ok0 hargs => ?_)
 have p0 := pB (hargs 0 _ rfl) hv0
 have p1 := pB (hargs 1 _ rfl) hv1
 clear hargs; refine wp_seq ?_
 refine gI a0 σ ok0 (gC (Ty.int (0 : Int)) (gC (Ty.val Value.nilIface) (gE ok0 fun a1 s1 ok1 D1 => ?_))); have q1 := D1.k p0; have o1 := OwnPT.k0 ho_b D1.stp; have o2 := Own.k0 ho_buf D1.stp; refine tn (wp_seq ?_)
 refine gI a1 s1 ok1 (gM q1 (gE2 ok1 fun a2 s2 ok2 D2 => ?_)); have o3 := OwnPT.k0 o1 D2.stp; have o4 := Own.k0 o2 D2.stp
 refine tL ok2 (y_callL (L := [40]) [(40, 40)] [(40, 40)] #[a2.eval (.tmp 6)] rfl dE Tryd.func35 rfl rfl my1 (copyCheck_fn (b) (buf) (nb) _ lW _ (uL (D2.m 0 rfl)) (OwnPT.ren o3 (GW.ren_lend _ _ dE rfl)) )) fun a3 s3 hs1 ok3 r1 sm1 => ?_
 have q6 := kq hs1 sm1 0 (D2.k q1); have q7 := kq hs1 sm1 1 (D2.k (D1.k p1))
 obtain ⟨t1, ⟨hT1, o5⟩, B1⟩ := r1
 have o6 : OwnPT 59 s3 40 b [(Ty.val (bAddr false b)), (Ty.val buf)] := OwnPT.ren o5 (B1.ren dE rfl)
 refine wpList_nil (tn (wp_seq ?_))
 refine gI a3 s3 ok3 (gM q6 (gM q6 (gT (Ty.val b) rfl (fun B H I J O d0 => rP (y_nilp (OwnPT.toP (OwnPT.k0 o6 I)) (eI d0))) (gT (Ty.val (ptrAt b 1)) rfl (fun B H I J O d0 => rP (ownp_field Tryd.fld59_1 Tryd.inf22 dE (OwnPT.toP (OwnPT.k0 o6 I)) (eI d0))) (gS rfl (fun B H I J O d0 => rP (ownp_load Tryd.underlying22 rfl (OwnPT.toP (OwnPT.k0 o6 I)) (eI d0) rfl)) (gM q7 (gE2 ok3 fun a4 s4 ok4 D3 => ?_))))))); have o8 := Own.k0 (Own.kl o4 hs1) D3.stp; have o9 := OwnPT.k0 o6 D3.stp
 refine tL (R := (fun v τ => Own τ 41 5 1 v ((List.length l) + ByteArray.size s) ((List.map Ty.byte l) ++ (ByteArray.data s).toList.map Ty.byte))) ok4 (YldM.toL (m_appendS Tryd.underlying22 Tryd.underlying9 Tryd.inf5 dE (al (R := (Pr.own 41 5 1 (List.length l) (List.map Ty.byte l))) (D3.m 4 rfl) o8) (D3.m 5 rfl) oM)) fun a5 s5 hs2 ok5 r2 sm2 => ?_
 have o11 := OwnPT.keepL o9 hs2 dE dE
 obtain ⟨x1, hx1⟩ : ∃ x, a5.eval (.tmp 14) = x := ⟨_, rfl⟩
 have q15 : At (Ty.val x1) s5 a5 (.tmp 14) := hx1
 have o10 := al2 (R := (Pr.own 41 5 1 (List.length (l ++ (ByteArray.data s).toList)) (List.map Ty.byte (l ++ (ByteArray.data s).toList)))) hx1 (cvo (by first | (simp; done) | (simp; omega)) (by rw [List.map_append]) r2)
 clear r2
 refine tL (R := (fun v τ => Pr.has (Ty.pr (Ty.val b)) τ v)) ok5 (Yld.toL (y_nilp (OwnPT.toP o11) (kq hs2 sm2 8 (D3.m 0 rfl)))) fun a6 s6 hs3 ok6 r3 sm3 => ?_
 have o12 := OwnPT.keepL o11 hs3 dE dE
 have q18 : At (Ty.val b) s6 a6 (.tmp 15) := r3
 clear r3
 refine tL (R := (fun v τ => Pr.has (Ty.pr (Ty.val (ptrAt b 1))) τ v)) ok6 (Yld.toL (ownp_field Tryd.fld59_1 Tryd.inf22 dE (OwnPT.toP o12) q18)) fun a7 s7 hs4 ok7 r4 sm4 => ?_
 have o14 := OwnPT.keepL o12 hs4 dE dE; have o15 := Own.kl (Own.kl o10 hs3) hs4
 have q21 : At (Ty.val (ptrAt b 1)) s7 a7 (.tmp 16) := r4
 clear r4
 refine tailL0 (L := [40]) (R := (fun _ τ => OwnPT 59 τ 40 b ([(Ty.val (bAddr false b)), (Ty.val buf)].set 1 (Ty.val x1)))) rfl rfl (YldM.toL (m_storept Tryd.inf22 dE o14 q21 (Nat.le_of_ble_eq_true rfl) (kq hs4 sm4 14 (kq hs3 sm3 14 q15)) (one_val (Own.one o15)))) (fun v1 s8 hs5 r5 => ?_)
 have q22 := kpL hs5 dE rfl (kq hs4 sm4 1 (kq hs3 sm3 1 (kq hs2 sm2 1 (D3.k q7))))
 have o16 : OwnPT 59 s8 40 b [(Ty.val (bAddr false b)), (Ty.val x1)] := r5
 clear r5; refine wpList_nil (tn (wp_seq ?_))
 refine gI a7 s8 ok7 (gM q22 (gT (Ty.nat (ByteArray.size s)) rfl (fun B H I J O d0 => rP (y_len_str Tryd.underlying9 (eI d0))) (gB 0 (gC (Ty.val Value.nilIface) (gE ok7 fun a8 s9 ok8 D4 => ?_))))); have o18 := Own.k0 (Own.kl o15 hs5) D4.stp; have o19 := OwnPT.k0 o16 D4.stp; refine tn (wp_ret ?_)
 exact retL2 rfl ok8 (((((((((F0.step0 D1.stp).step0 D2.stp).sl hs1).step0 D3.stp).sl hs2).sl hs3).sl hs4).sl hs5).step0 D4.stp) ⟨x1, (hasT2 (D4.m 2 rfl) (D4.m 3 rfl)), o19, o18⟩


set_option maxHeartbeats 4000000 in
set_option maxRecDepth 100000 in
theorem bString_fn (b buf : Value) (nb : Bool) (l : List UInt8) (σ : GW) (hlow : Low [40, 41] σ) (v0 : Value) (hv0 : Ty.has (Ty.val b) σ v0) (ho_b : OwnPT 59 σ 40 b [(Ty.val (bAddr nb b)), (Ty.val buf)]) (ho_buf : Own σ 41 5 1 buf (List.length l) (List.map Ty.byte l))  :
    FnL Tryd.prog 22 #[v0] σ [40, 41] (fun v τ => (Ty.has (Ty.val (Value.string (bsL l))) τ v)) := by
 refine fn_introL hlow Tryd.func22 rfl Tryd.ntmps22 (Nat.le_of_ble_eq_true rfl) (fun a0 F0 ok0 hargs => ?_)
 have p0 := pB (hargs 0 _ rfl) hv0
 clear hargs; refine wp_seq ?_
 refine gI a0 σ ok0 (gC (Ty.val (Value.string (ByteArray.mk #[]))) (gE ok0 fun a1 s1 ok1 D1 => ?_)); have q1 := D1.k p0; have o1 := OwnPT.k0 ho_b D1.stp; have o2 := Own.k0 ho_buf D1.stp; refine tn (wp_seq ?_)
 refine gI a1 s1 ok1 (gM q1 (gT (Ty.val b) rfl (fun B H I J O d0 => rP (y_nilp (OwnPT.toP (OwnPT.k0 o1 I)) (eI d0))) (gT (Ty.val (ptrAt b 1)) rfl (fun B H I J O d0 => rP (ownp_field Tryd.fld59_1 Tryd.inf22 dE (OwnPT.toP (OwnPT.k0 o1 I)) (eI d0))) (gS rfl (fun B H I J O d0 => rP (ownp_load Tryd.underlying22 rfl (OwnPT.toP (OwnPT.k0 o1 I)) (eI d0) rfl)) (gT (Ty.dptr buf (List.length l)) rfl (fun B H I J O d0 => rP (y_sdata Tryd.underlying81 (Own.k0 o2 I) (eI d0))) (gM q1 (gT (Ty.val b) rfl (fun B H I J O d0 => rP (y_nilp (OwnPT.toP (OwnPT.k0 o1 I)) (eI d0))) (gT (Ty.val (ptrAt b 1)) rfl (fun B H I J O d0 => rP (ownp_field Tryd.fld59_1 Tryd.inf22 dE (OwnPT.toP (OwnPT.k0 o1 I)) (eI d0))) (gS rfl (fun B H I J O d0 => rP (ownp_load Tryd.underlying22 rfl (OwnPT.toP (OwnPT.k0 o1 I)) (eI d0) rfl)) (gT (Ty.nat (List.length l)) rfl (fun B H I J O d0 => rP (own_len Tryd.underlying22 (al (R := (Pr.own 41 5 1 (List.length l) (List.map Ty.byte l))) (eI d0) (Own.k0 o2 I)))) (gE2 ok1 fun a2 s2 ok2 D2 => ?_))))))))))); have o3 := OwnPT.k0 o1 D2.stp; have o4 := Own.k0 o2 D2.stp
 refine tL (R := (fun v τ => (Ty.val (Value.string (bsL l))).has τ v)) ok2 (YldM.toL (m_sstr dE Tryd.underlying81 (by kernel_rfl) o4 (D2.m 4 rfl) (D2.m 9 rfl))) fun a3 s3 hs1 ok3 r1 sm1 => ?_
 have o5 := OwnPT.keepL o3 hs1 dE dE
 have q4 : At (Ty.val (Value.string (bsL l))) s3 a3 (.tmp 13) := r1
 clear r1
 refine tL ok3 (Yld.toL (y_as q4)) fun a4 s4 hs2 ok4 r2 sm2 => ?_
 have o6 := OwnPT.keepL o5 hs2 dE dE
 have q5 : At (Ty.val (Value.string (bsL l))) s4 a4 (.tmp 2) := r2
 clear r2; refine wpList_nil (tn (wp_ret ?_))
 exact retL1 rfl ok4 ((((F0.step0 D1.stp).step0 D2.stp).sl hs1).sl hs2) q5


theorem joinS_fn (xs : List ByteArray) (σ : GW) (v0 v1 : Value) (hv0 : Ty.has (Ty.lst Ty.str xs) σ v0) (hv1 : Ty.has (Ty.val (Value.string (ByteArray.mk #[44]))) σ v1) (hN : xs.length ≤ 1000000) (hl : (joinR xs).length ≤ 1000000000) : FnC Tryd.prog 109 #[v0, v1] σ (Ty.str (jnB xs)) := by
  obtain rfl : v1 = _ := hv1
  exact join_of hv0 (fun a c => Go.Proofs.Any.strings_Join_none joinL joinX a c _ σ.w) (fun b o c h1 h2 h3 => Go.Proofs.Any.strings_Join joinL joinX b o c xs _ σ.w h1 h2 oM h3 (Nat.le_trans hl dE))


set_option maxHeartbeats 4000000 in
set_option maxRecDepth 100000 in
theorem pLine_fn (dy : Int) (ch : Int) (mt : ByteArray) (rg : List ByteArray) (σ : GW)  (v0 : Value) (hv0 : Ty.has (Ty.agg [(Ty.int dy), (Ty.int ch), (Ty.val (Value.string mt)), (Ty.lst Ty.str rg)]) σ v0)  (hok : mayR (dy, ch, mt, rg) = 0) (hzm : mt.size ≤ 1000000) (hjz : (joinR rg).length ≤ 1000000) (hglb0 : Gbk Tryd.prog GA GB σ) :
    FnC Tryd.prog 108 #[v0] σ (Ty.val (Value.string (bsL (lineR (dy, ch, mt, rg))))) := by
 have hz124 : (ByteArray.mk #[124]).size = 1 := rfl
 have hz35 : (ByteArray.mk #[35]).size = 1 := rfl
 have hz10 : (ByteArray.mk #[10]).size = 1 := rfl
 have hro := mayR_ok hok
 have hd0_ : 0 ≤ dy := hro.d0
 have hd1_ : dy ≤ 1000000 := hro.d1
 have hc0_ : 1 ≤ ch := hro.c0
 have hc1_ : ch ≤ 1000000 := hro.c1
 have hn2_ : rg.length ≤ 12 := hro.n2
 have hz1_ := dcB_le (n := dy.toNat) oM
 have hz2_ := dcB_le (n := ch.toNat) oM
 have hz3_ : (jnB rg).size = (joinR rg).length := bsL_size _
 refine fn_intro0 Tryd.func108 rfl Tryd.ntmps108 (Nat.le_of_ble_eq_true rfl) (fun s0 a0 hle F0 ok0 hargs => ?_)
 have p0 := pA hle (hargs 0 _ rfl) hv0
 clear hargs
 have hglb : Gbk Tryd.prog GA GB s0 := Gbk.up hle hglb0
 refine wp_seq ?_
 refine gI a0 s0 ok0 (gS rfl (fun B H I J O => rP (y_boxagg (kp (O 0 rfl) I p0))) (gC (Ty.val (Value.string (ByteArray.mk #[]))) (gE ok0 fun a1 s1 ok1 D1 => ?_))); have F1 := F0.step0 D1.stp; have q1 := D1.m 0 rfl; refine tn (wp_seq ?_)
 refine gI a1 s1 ok1 (gS rfl (fun B H I J O => rP (y_field Tryd.fld66_0 Tryd.inf42 dE (kp (O 1 rfl) I q1) rfl)) (gS rfl (fun B H I J O d0 => rP (y_field Tryd.fld42_0 Tryd.inf3 dE (eI d0) rfl)) (gS rfl (fun B H I J O d0 => rP (y_load Tryd.underlying3 rfl (eI d0) rfl)) (gS rfl (fun B H I J O d0 => rP (y_call _ Tryd.func42 rfl rfl my1 (itoaN_fn ((dy).toNat) _ _ (cvi (σ := H) (by first | omega | assumption | exact Gbk.up (GW.le_lend _ _) (Gbk.fl @F rfl hglb0) | exact Gbk.up I.le0 (Gbk.fl @F rfl hglb0) | exact Gbk.up (GW.le_lend _ _) (Gbk.fl @F rfl hglb) | exact Gbk.up I.le0 (Gbk.fl @F rfl hglb)) (ef d0 rfl)) (by first | omega | assumption | exact Gbk.up (GW.le_lend _ _) (Gbk.fl F1 rfl hglb0) | exact Gbk.up I.le0 (Gbk.fl F1 rfl hglb0) | exact Gbk.up (GW.le_lend _ _) (Gbk.fl F1 rfl hglb) | exact Gbk.up I.le0 (Gbk.fl F1 rfl hglb)) (by first | omega | assumption | exact Gbk.up (GW.le_lend _ _) (Gbk.fl F1 rfl hglb0) | exact Gbk.up I.le0 (Gbk.fl F1 rfl hglb0) | exact Gbk.up (GW.le_lend _ _) (Gbk.fl F1 rfl hglb) | exact Gbk.up I.le0 (Gbk.fl F1 rfl hglb))))) (gT (Ty.val (Value.string ((dcB ((dy).toNat)) ++ (ByteArray.mk #[124])))) rfl (fun B H I J O d0 => rP (y_scat (eI d0) rfl (by (try simp only [ByteArray.size_append]); omega))) (gS rfl (fun B H I J O => rP (y_field Tryd.fld66_0 Tryd.inf42 dE (kp (O 1 rfl) I q1) rfl)) (gS rfl (fun B H I J O d0 => rP (y_field Tryd.fld42_1 Tryd.inf3 dE (eI d0) rfl)) (gS rfl (fun B H I J O d0 => rP (y_load Tryd.underlying3 rfl (eI d0) rfl)) ?_))))))))
 refine gS rfl (fun B H I J O d0 d1 => rP (y_call _ Tryd.func42 rfl rfl my1 (itoaN_fn ((ch).toNat) _ _ (cvi (σ := H) (by first | omega | assumption | exact Gbk.up (GW.le_lend _ _) (Gbk.fl @F rfl hglb0) | exact Gbk.up I.le0 (Gbk.fl @F rfl hglb0) | exact Gbk.up (GW.le_lend _ _) (Gbk.fl @F rfl hglb) | exact Gbk.up I.le0 (Gbk.fl @F rfl hglb)) (ef d0 rfl)) (by first | omega | assumption | exact Gbk.up (GW.le_lend _ _) (Gbk.fl F1 rfl hglb0) | exact Gbk.up I.le0 (Gbk.fl F1 rfl hglb0) | exact Gbk.up (GW.le_lend _ _) (Gbk.fl F1 rfl hglb) | exact Gbk.up I.le0 (Gbk.fl F1 rfl hglb)) (by first | omega | assumption | exact Gbk.up (GW.le_lend _ _) (Gbk.fl F1 rfl hglb0) | exact Gbk.up I.le0 (Gbk.fl F1 rfl hglb0) | exact Gbk.up (GW.le_lend _ _) (Gbk.fl F1 rfl hglb) | exact Gbk.up I.le0 (Gbk.fl F1 rfl hglb))))) (gT (Ty.val (Value.string (((dcB ((dy).toNat)) ++ (ByteArray.mk #[124])) ++ (dcB ((ch).toNat))))) rfl (fun B H I J O d0 d1 => rP (y_scat (eI d0) (eI d1) (by (try simp only [ByteArray.size_append]); omega))) (gT (Ty.val (Value.string ((((dcB ((dy).toNat)) ++ (ByteArray.mk #[124])) ++ (dcB ((ch).toNat))) ++ (ByteArray.mk #[124])))) rfl (fun B H I J O d0 => rP (y_scat (eI d0) rfl (by (try simp only [ByteArray.size_append]); omega))) (gS rfl (fun B H I J O => rP (y_field Tryd.fld66_0 Tryd.inf42 dE (kp (O 1 rfl) I q1) rfl)) (gS rfl (fun B H I J O d0 => rP (y_field Tryd.fld42_2 Tryd.inf9 dE (eI d0) rfl)) (gS rfl (fun B H I J O d0 => rP (y_load Tryd.underlying9 rfl (eI d0) rfl)) (gT (Ty.val (Value.string (((((dcB ((dy).toNat)) ++ (ByteArray.mk #[124])) ++ (dcB ((ch).toNat))) ++ (ByteArray.mk #[124])) ++ mt))) rfl (fun B H I J O d0 d1 => rP (y_scat (eI d0) (eI d1) (by (try simp only [ByteArray.size_append]); omega))) ?_))))))
 refine gT (Ty.val (Value.string ((((((dcB ((dy).toNat)) ++ (ByteArray.mk #[124])) ++ (dcB ((ch).toNat))) ++ (ByteArray.mk #[124])) ++ mt) ++ (ByteArray.mk #[124])))) rfl (fun B H I J O d0 => rP (y_scat (eI d0) rfl (by (try simp only [ByteArray.size_append]); omega))) (gS rfl (fun B H I J O => rP (y_field Tryd.fld66_0 Tryd.inf42 dE (kp (O 1 rfl) I q1) rfl)) (gS rfl (fun B H I J O d0 => rP (y_field Tryd.fld42_3 Tryd.inf40 dE (eI d0) rfl)) (gS rfl (fun B H I J O d0 => rP (y_load Tryd.underlying40 rfl (eI d0) rfl)) (gS rfl (fun B H I J O d0 d1 => rP (y_call _ Tryd.func109 rfl rfl my2 (joinS_fn (rg) _ _ _ (eI d0) rfl oX oX))) (gT (Ty.val (Value.string (((((((dcB ((dy).toNat)) ++ (ByteArray.mk #[124])) ++ (dcB ((ch).toNat))) ++ (ByteArray.mk #[124])) ++ mt) ++ (ByteArray.mk #[124])) ++ (jnB (rg))))) rfl (fun B H I J O d0 d1 => rP (y_scat (eI d0) (eI d1) (by (try simp only [ByteArray.size_append]); omega))) (gB 0 (gE ok1 fun a2 s2 ok2 D2 => ?_))))))); have F2 := F1.step0 D2.stp
 have hbl_ := body_len hok hzm hjz
 have hbz_ : (bsL (bodyR (dy, ch, mt, rg))).size = (bodyR (dy, ch, mt, rg)).length := bsL_size _
 have hcz_ := dcB_le (n := chk (ByteArray.data (bsL (bodyR (dy, ch, mt, rg)))).toList) (Nat.lt_trans chk_lt dE)
 have hck_ := chk_lt (l := (ByteArray.data (bsL (bodyR (dy, ch, mt, rg)))).toList)
 have q3 : At (Ty.val (Value.string (bsL (bodyR (dy, ch, mt, rg))))) s2 a2 (.tmp 3) := (cvt (by (exact congrArg _ (congrArg _ body_eq))) (D2.m 21 rfl))
 refine tn (wp_seq ?_)
 refine gI a2 s2 ok2 (gM q3 (gT (Ty.val (Value.string ((bsL (bodyR (dy, ch, mt, rg))) ++ (ByteArray.mk #[35])))) rfl (fun B H I J O d0 => rP (y_scat (eI d0) rfl (by (try simp only [ByteArray.size_append]); omega))) (gM q3 (gS rfl (fun B H I J O d0 => rP (y_call _ Tryd.func28 rfl rfl my1 (bCheck_fn ((bsL (bodyR (dy, ch, mt, rg)))) _ _ (eI d0) oM))) (gT (Ty.val (Value.int .u64 (((chk (ByteArray.data ((bsL (bodyR (dy, ch, mt, rg))))).toList) : Nat) : Int))) rfl (fun B H I J O d0 => rP (y_conv Tryd.underlying71 (eI d0) (by exact wrap_u64 oM oM) (by rw [Tryd.underlying72]; rfl))) ?_)))))
 refine gS rfl (fun B H I J O d0 d1 => rP (y_call #[B.eval (.tmp 29), B.eval ((Operand.const (Value.int IntKind.i64 10)))] Tryd.func27 rfl rfl my2 (fmtN_fn ((chk (ByteArray.data ((bsL (bodyR (dy, ch, mt, rg))))).toList)) ((10 : Int)) _ _ _ (cvi (σ := H) (by first | rfl | omega | assumption | exact Gbk.up (GW.le_lend _ _) (Gbk.fl @F rfl hglb0) | exact Gbk.up I.le0 (Gbk.fl @F rfl hglb0) | exact Gbk.up (GW.le_lend _ _) (Gbk.fl @F rfl hglb) | exact Gbk.up I.le0 (Gbk.fl @F rfl hglb)) (ef d0 rfl)) (cvi (σ := H) (by first | rfl | omega | assumption | exact Gbk.up (GW.le_lend _ _) (Gbk.fl @F rfl hglb0) | exact Gbk.up I.le0 (Gbk.fl @F rfl hglb0) | exact Gbk.up (GW.le_lend _ _) (Gbk.fl @F rfl hglb) | exact Gbk.up I.le0 (Gbk.fl @F rfl hglb)) rfl) (by first | rfl | omega | assumption | exact Gbk.up (GW.le_lend _ _) (Gbk.fl F2 rfl hglb0) | exact Gbk.up I.le0 (Gbk.fl F2 rfl hglb0) | exact Gbk.up (GW.le_lend _ _) (Gbk.fl F2 rfl hglb) | exact Gbk.up I.le0 (Gbk.fl F2 rfl hglb)) (by first | rfl | omega | assumption | exact Gbk.up (GW.le_lend _ _) (Gbk.fl F2 rfl hglb0) | exact Gbk.up I.le0 (Gbk.fl F2 rfl hglb0) | exact Gbk.up (GW.le_lend _ _) (Gbk.fl F2 rfl hglb) | exact Gbk.up I.le0 (Gbk.fl F2 rfl hglb)) (by first | rfl | omega | assumption | exact Gbk.up (GW.le_lend _ _) (Gbk.fl F2 rfl hglb0) | exact Gbk.up I.le0 (Gbk.fl F2 rfl hglb0) | exact Gbk.up (GW.le_lend _ _) (Gbk.fl F2 rfl hglb) | exact Gbk.up I.le0 (Gbk.fl F2 rfl hglb))))) (gT (Ty.val (Value.string (((bsL (bodyR (dy, ch, mt, rg))) ++ (ByteArray.mk #[35])) ++ (dcB ((chk (ByteArray.data ((bsL (bodyR (dy, ch, mt, rg))))).toList)))))) rfl (fun B H I J O d0 d1 => rP (y_scat (eI d0) (eI d1) (by (try simp only [ByteArray.size_append]); omega))) ?_)
 refine gT (Ty.val (Value.string ((((bsL (bodyR (dy, ch, mt, rg))) ++ (ByteArray.mk #[35])) ++ (dcB ((chk (ByteArray.data ((bsL (bodyR (dy, ch, mt, rg))))).toList)))) ++ (ByteArray.mk #[10])))) rfl (fun B H I J O d0 => rP (y_scat (eI d0) rfl (by (try simp only [ByteArray.size_append]); omega))) (gB 0 (gE ok2 fun a3 s3 ok3 D3 => ?_)); refine tn (wp_ret ?_)
 exact retL1 rfl ok3 (F2.step0 D3.stp) (cvt (by (exact congrArg _ (congrArg _ line_eq))) (D3.m 8 rfl))


set_option maxHeartbeats 4000000 in
set_option maxRecDepth 100000 in
theorem bBytesR_fn (xs : List Rec) (σ : GW)  (v0 : Value) (hv0 : Ty.has (Ty.ref [(Ty.lst (Ty.ent 66) xs)]) σ v0)  (hok : ∀ r ∈ xs, mayR r = 0) (hlz : (linesR xs).length ≤ 1000000) (hxl : xs.length ≤ 1000000) (hglb0 : Gbk Tryd.prog GA GB σ) :
    FnC Tryd.prog 10 #[v0] σ (Ty.lst Ty.byte (linesR xs)) := by
 refine fn_intro0 Tryd.func10 rfl Tryd.ntmps10 (Nat.le_of_ble_eq_true rfl) (fun s0 a0 hle F0 ok0 hargs => ?_)
 have p0 := pA hle (hargs 0 _ rfl) hv0
 clear hargs
 have hglb : Gbk Tryd.prog GA GB s0 := Gbk.up hle hglb0
 refine wp_seq ?_
 refine gI a0 s0 ok0 (gC (Ty.val (Value.slice none 0 0)) (gE ok0 fun a1 s1 ok1 D1 => ?_)); refine tn (wp_seq ?_)
 refine gI a1 s1 ok1 (gR (Pr.ownpt 59 5 [(Ty.val (Value.pointer none)), (Ty.val (Value.slice none 0 0))]) rfl (by intro B H I J O; exact rP (y_alloct Tryd.inf59 rfl (alloc_vals (vs := [.pointer none, .slice none 0 0]) rfl))) (gE ok1 fun a2 s2 ok2 D2 => ?_))
 obtain ⟨x1, hx1⟩ : ∃ x, a2.eval (.tmp 3) = x := ⟨_, rfl⟩
 have q3 : At (Ty.val x1) s2 a2 (.tmp 3) := hx1
 have o1 := al2 (R := (Pr.ownpt 59 5 [(Ty.val (Value.pointer none)), (Ty.val (Value.slice none 0 0))])) hx1 (D2.done 0)
 refine tn (wp_seq (wp_seq ?_))
 refine gI a2 s2 ok2 (gM (D2.k (D1.k p0)) (gS rfl (fun B H I J O d0 => rP (y_nilr (eI d0))) (gS rfl (fun B H I J O d0 => rP (y_field Tryd.fld37_0 Tryd.inf35 dE (eI d0) rfl)) (gS rfl (fun B H I J O d0 => rP (y_load Tryd.underlying35 rfl (eI d0) rfl)) (gS rfl (fun B H I J O d0 => rP (y_len Tryd.underlying35 (eI d0))) (gT (Ty.int (0 : Int)) rfl (fun B H I J O => rP (y_move rfl)) (gE ok2 fun a3 s3 ok3 D3 => ?_))))))); have o2 := OwnPT.k0 o1 D3.stp; have q5 := D3.m 3 rfl
 have b1 := sl_le q5
 refine tn (wp_block ?_)
 have o3 : Own s3 6 5 1 (Value.slice none 0 0) 0 (List.map Ty.byte ([] : List UInt8)) := Own.nil _ _ _ _
 refine loop (fun n1 a4 w1 => ∃ (t1 : GW) (k : Nat) (nz : Bool) (bf : Value), t1.w = w1 ∧ FromL [] s0 t1 ∧ Ok 21 [] a4 ∧ At (Ty.nat k) t1 a4 (.tmp 11) ∧ At (Ty.val x1) t1 a4 (.tmp 3) ∧ At (Ty.lst (Ty.ent 66) xs) t1 a4 (.tmp 9) ∧ At (Ty.nat (List.length xs)) t1 a4 (.tmp 10) ∧ OwnPT 59 t1 5 x1 [(Ty.val (bAddr nz x1)), (Ty.val bf)] ∧ Own t1 6 5 1 bf (List.length (linesR (xs.take k))) (List.map Ty.byte (linesR (xs.take k))) ∧ (k ≤ xs.length) ∧ n1 = xs.length - k) (xs.length - (0)) ?_ ?_
 ·
  exact ⟨s3, 0, true, (Value.slice none 0 0), rfl, (((F0.step0 D1.stp).step0 D2.stp).step0 D3.stp), ok3, (cJ (D3.m 5 rfl)), (D3.k q3), q5, (D3.m 4 rfl), (ownpt_cell 0 (Ty.val (bAddr (true) x1)) o2 rfl (fun _ _ h => (cvt (by (first | rfl | omega | (simp_all; done) | (simp_all; omega))) h))), (cvo (by (simp [linesR])) (by (simp [linesR])) o3), by omega, rfl⟩
 ·
  rintro n2 a5 w2 ⟨t2, k, nz, bf, rfl, F4, ok4, q8, q9, q10, q11, o4, o5, hk, rfl⟩
  have hll_ := lines_len (xs := xs) (k := k)
  refine wp_seq ?_
  refine gI a5 t2 ok4 (gS rfl (fun B H I J O => rP (y_lss (kp (O 11 rfl) I q8) (kp (O 10 rfl) I q11))) (gE ok4 fun a6 s4 ok5 D4 => ?_)); have F5 := F4.step0 D4.stp; have q12 := D4.k q8; have q13 := D4.k q9; have q14 := D4.k q10; have o6 := OwnPT.k0 o4 D4.stp; have o7 := Own.k0 o5 D4.stp; refine tn (wp_seq ?_)
  refine cond_p (p := (((k : Nat) : Int) < (((List.length xs) : Nat) : Int))) (D4.m 0 rfl) (fun c1 => ?_) (fun c1 => ?_)
  ·
   have hm_ := getD_memR (xs := xs) (k := k) oM; have hok2_ := hok _ hm_; have hln_ := line_len hm_; have hlp_ := line_parts (r := (xs.getD k Rec0)); have hbz_ : (bsL (lineR (xs.getD k Rec0))).size = (lineR (xs.getD k Rec0)).length := bsL_size _
   refine wp_skip (tn (wp_seq (wp_block (wp_seq ?_))))
   refine gI a6 s4 ok5 (gT (Ty.ref [(Ty.ent 66 (xs.getD k Rec0))]) rfl (fun B H I J O => rP (y_index1 Tryd.underlying35 Tryd.inf49 (kp (O 9 rfl) I q14) (kp (O 11 rfl) I q12) oM (lst_get (Ty.ent 66) xs Rec0 k oM))) (gS rfl (fun B H I J O d0 => rP (y_load Tryd.underlying49 rfl (eI d0) rfl)) (gB 0 (gE ok5 fun a7 s5 ok6 D5 => ?_)))); have F6 := F5.step0 D5.stp; have o8 := OwnPT.k0 o6 D5.stp; have o9 := Own.k0 o7 D5.stp; refine tn ?_
   refine gI a7 s5 ok6 (gM (D5.m 2 rfl) (gT (Ty.val (Value.string (bsL (lineR (xs.getD k Rec0))))) rfl (fun B H I J O d0 => rP (y_invoke (r := (xs.getD k Rec0)) (eI d0) (by kernel_rfl) Tryd.underlying66 Tryd.func108 rfl rfl (fun u_ hu_ => pLine_fn ((xs.getD k Rec0)).1 ((xs.getD k Rec0)).2.1 ((xs.getD k Rec0)).2.2.1 ((xs.getD k Rec0)).2.2.2 _ u_ hu_ (by first | omega | assumption | exact Gbk.up (GW.le_lend _ _) (Gbk.fl F6 rfl hglb0) | exact Gbk.up I.le0 (Gbk.fl F6 rfl hglb0) | exact Gbk.up (GW.le_lend _ _) (Gbk.fl F6 rfl hglb) | exact Gbk.up I.le0 (Gbk.fl F6 rfl hglb)) (by first | omega | assumption | exact Gbk.up (GW.le_lend _ _) (Gbk.fl F6 rfl hglb0) | exact Gbk.up I.le0 (Gbk.fl F6 rfl hglb0) | exact Gbk.up (GW.le_lend _ _) (Gbk.fl F6 rfl hglb) | exact Gbk.up I.le0 (Gbk.fl F6 rfl hglb)) (by first | omega | assumption | exact Gbk.up (GW.le_lend _ _) (Gbk.fl F6 rfl hglb0) | exact Gbk.up I.le0 (Gbk.fl F6 rfl hglb0) | exact Gbk.up (GW.le_lend _ _) (Gbk.fl F6 rfl hglb) | exact Gbk.up I.le0 (Gbk.fl F6 rfl hglb)) (by first | omega | assumption | exact Gbk.up (GW.le_lend _ _) (Gbk.fl F6 rfl hglb0) | exact Gbk.up I.le0 (Gbk.fl F6 rfl hglb0) | exact Gbk.up (GW.le_lend _ _) (Gbk.fl F6 rfl hglb) | exact Gbk.up I.le0 (Gbk.fl F6 rfl hglb))))) (gE2 ok6 fun a8 s6 ok7 D6 => ?_))); have q23 := D6.k (D5.k q13); have o10 := OwnPT.k0 o8 D6.stp; have o11 := Own.k0 o9 D6.stp
   refine tL ok7 (y_callL (L := [40, 41]) [(5, 40), (6, 41)] [(40, 5), (41, 6)] #[a8.eval (.tmp 3), a8.eval (.tmp 16)] rfl dE Tryd.func21 rfl rfl my2 (writeString_fn (x1) (bf) (nz) ((linesR (xs.take k))) ((bsL (lineR (xs.getD k Rec0)))) _ lW _ _ (uL q23) (uL (D6.m 1 rfl)) (OwnPT.ren (ownpt_cell 0 (Ty.val (bAddr (nz) (x1))) o10 rfl (fun _ _ h => (cvt (by (first | rfl | omega | (simp_all; done) | (simp_all; omega))) h))) (GW.ren_lend _ _ dE rfl)) (Own.ren (cvo (by (simp)) (by (simp)) o11) (GW.ren_lend _ _ dE rfl)) oM oM)) fun a9 s7 hs1 ok8 r1 sm1 => ?_
   obtain ⟨t3, ⟨x2, hT1, o12, o13⟩, B1⟩ := r1
   have q31 : At (Ty.tup2 (Ty.nat (ByteArray.size ((bsL (lineR (xs.getD k Rec0)))))) (Ty.val Value.nilIface)) s7 a9 (.tmp 17) := Ty.up _ B1.le hT1
   have o14 : OwnPT 59 s7 5 x1 [(Ty.val (bAddr false (x1))), (Ty.val x2)] := OwnPT.ren o12 (B1.ren dE rfl)
   have o15 : Own s7 6 5 1 x2 (List.length (((linesR (xs.take k))) ++ (ByteArray.data ((bsL (lineR (xs.getD k Rec0))))).toList)) (List.map Ty.byte (((linesR (xs.take k))) ++ (ByteArray.data ((bsL (lineR (xs.getD k Rec0))))).toList)) := Own.ren o13 (B1.ren dE rfl)
   refine wpList_nil (bn (tn ?_))
   refine gI a9 s7 ok8 (gT (Ty.nat (k + 1)) rfl (fun B H I J O => rP ((y_add (kp (O 11 rfl) I (kq hs1 sm1 11 (D6.k (D5.k q12)))) rfl wX).mono (fun τ _ h => cN (σ := τ) h))) (gS rfl (fun B H I J O d0 => rP (y_move (eI d0))) (gE ok8 fun a10 s8 ok9 D7 => ?_))); have o16 := OwnPT.k0 o14 D7.stp; have o17 := Own.k0 o15 D7.stp
   exact tn ⟨xs.length - ((k+1)), by omega, s8, (k+1), false, x2, rfl, (((F6.step0 D6.stp).sl hs1).step0 D7.stp), ok9, (cJ (D7.m 1 rfl)), (D7.k (kq hs1 sm1 3 q23)), (D7.k (kq hs1 sm1 9 (D6.k (D5.k q14)))), (D7.k (kq hs1 sm1 10 (D6.k (D5.k (D4.k q11))))), (ownpt_cell 0 (Ty.val (bAddr (false) x1)) o16 rfl (fun _ _ h => (cvt (by (first | rfl | omega | (simp_all; done) | (simp_all; omega))) h))), (cvo (by (rw [data_bsL, lines_step oM])) (by (rw [data_bsL, lines_step oM])) o17), by omega, rfl⟩
  ·
   have hkx : k = xs.length := oM
   refine wp_exit (tx (tx (bx (tn (wp_seq ?_)))))
   refine gI a6 s4 ok5 (gE2 ok5 fun a11 s9 ok10 D8 => ?_); have o18 := OwnPT.k0 o6 D8.stp; have o19 := Own.k0 o7 D8.stp
   refine tL ok10 (y_callL (L := [40, 41]) [(5, 40), (6, 41)] [(40, 5), (41, 6)] #[a11.eval (.tmp 3)] rfl dE Tryd.func22 rfl rfl my1 (bString_fn (x1) (bf) (nz) ((linesR (xs.take k))) _ lW _ (uL (D8.k q13)) (OwnPT.ren (ownpt_cell 0 (Ty.val (bAddr (nz) (x1))) o18 rfl (fun _ _ h => (cvt (by (first | rfl | omega | (simp_all; done) | (simp_all; omega))) h))) (GW.ren_lend _ _ dE rfl)) (Own.ren (cvo (by (simp)) (by (simp)) o19) (GW.ren_lend _ _ dE rfl)) )) fun a12 s10 hs2 ok11 r2 sm2 => ?_
   obtain ⟨t4, hT2, B2⟩ := r2
   have q37 : At (Ty.val (Value.string (bsL ((linesR (xs.take k)))))) s10 a12 (.tmp 19) := Ty.up _ B2.le hT2
   refine tL (R := (fun v τ => Pr.has (Ty.pr (Ty.lst Ty.byte ((ByteArray.data (bsL ((linesR (xs.take k))))).toList))) τ v)) ok11 (Yld.toL (y_convSB Tryd.underlying9 Tryd.underlying22 Tryd.underlying5 q37 (by (try simp only [bsL_size]); omega))) fun a13 s11 hs3 ok12 r3 sm3 => ?_
   have q38 : At (Ty.lst Ty.byte ((ByteArray.data (bsL ((linesR (xs.take k))))).toList)) s11 a13 (.tmp 20) := r3
   clear r3
   refine tL ok12 (Yld.toL (y_as q38)) fun a14 s12 hs4 ok13 r4 sm4 => ?_
   have q39 : At (Ty.lst Ty.byte ((ByteArray.data (bsL ((linesR (xs.take k))))).toList)) s12 a14 (.tmp 2) := r4
   clear r4; refine wpList_nil (tn (wp_ret ?_))
   exact retL1 rfl ok13 ((((F5.step0 D8.stp).sl hs2).sl hs3).sl hs4) (cvt (by (rw [data_bsL, hkx, List.take_length])) q39)


end Go.Proofs.YtfgkhpkbehhflaaDoor
