/- The functions that the law BookOpens reaches, each by its contract. Part 5. -/
import Derived.Test.YtfgkhpkbehhflaaDoorBookOpensW4
namespace Go.Proofs.YtfgkhpkbehhflaaDoor
open Go.KL

set_option maxHeartbeats 4000000 in
set_option maxRecDepth 100000 in
theorem swap_fn (dv : Value) (D : List Rec) (p : Nat) (q : Nat) (n : Nat) (cf : Value) (σ : GW) (hlow : Low [40] σ) (v0 v1 v2 v3 v4 : Value) (hv0 : Ty.has (Ty.val dv) σ v0) (hv1 : Ty.has (Ty.nat p) σ v1) (hv2 : Ty.has (Ty.nat q) σ v2) (hv3 : Ty.has (Ty.nat n) σ v3) (hv4 : Ty.has (Ty.val cf) σ v4) (ho_dv : Own σ 40 42 4 dv (List.length D) (List.flatMap recC D)) (h1 : p + n ≤ q) (h2 : q + n ≤ D.length) (hDl : D.length ≤ 1000000) :
    FnL Tryd.prog 83 #[v0, v1, v2, v3, v4] σ [40] (fun v τ => True ∧ (Own τ 40 42 4 dv (List.length (swpF D p q n)) (List.flatMap recC (swpF D p q n)))) := by
 refine fn_introL hlow Tryd.func83 rfl Tryd.ntmps83 (Nat.le_of_ble_eq_true rfl) (fun a0 F0 ok0 hargs => ?_)
 have p0 := pB (hargs 0 _ rfl) hv0
 have p1 := pB (hargs 1 _ rfl) hv1
 have p2 := pB (hargs 2 _ rfl) hv2
 have p3 := pB (hargs 3 _ rfl) hv3
 have p4 := pB (hargs 4 _ rfl) hv4
 clear hargs; refine wp_seq ?_
 refine gI a0 σ ok0 (gC (Ty.int (0 : Int)) (gE ok0 fun a1 s1 ok1 D1 => ?_)); have o1 := Own.k0 ho_dv D1.stp; refine tn (wp_block ?_)
 refine loop (fun n1 a2 w1 => ∃ (t1 : GW) (k : Nat), t1.w = w1 ∧ FromL [40] σ t1 ∧ Ok 38 [] a2 ∧ At (Ty.nat k) t1 a2 (.tmp 10) ∧ At (Ty.val dv) t1 a2 (.tmp 0) ∧ At (Ty.nat p) t1 a2 (.tmp 1) ∧ At (Ty.nat q) t1 a2 (.tmp 2) ∧ At (Ty.nat n) t1 a2 (.tmp 3) ∧ Own t1 40 42 4 dv (List.length (swpF D p q k)) (List.flatMap recC (swpF D p q k)) ∧ (k ≤ n) ∧ n1 = n - k) (n - (0)) ?_ ?_
 ·
  exact ⟨s1, 0, rfl, (F0.step0 D1.stp), ok1, (cJ (D1.m 0 rfl)), (D1.k p0), (D1.k p1), (D1.k p2), (D1.k p3), (cvo (by (rw [swp_0])) (by (rw [swp_0])) o1), by omega, rfl⟩
 ·
  rintro n2 a3 w2 ⟨t2, k, rfl, F2, ok2, q6, q7, q8, q9, q10, o2, hk, rfl⟩
  have hsl_ : (swpF D p q k).length = D.length := by_x_len
  refine wp_seq (wp_seq ?_)
  refine gI a3 t2 ok2 (gM q6 (gM q10 (gS rfl (fun A B G H I d0 d1 => rP (y_lss (eI d0) (eI d1))) (gE ok2 fun a4 s2 ok3 D2 => ?_)))); have F3 := F2.step0 D2.stp; have q11 := D2.k q6; have q12 := D2.k q7; have q13 := D2.k q8; have q14 := D2.k q9; have o3 := Own.k0 o2 D2.stp; refine tn ?_
  refine cond_p (p := (((k : Nat) : Int) < ((n : Nat) : Int))) (D2.m 2 rfl) (fun c1 => ?_) (fun c1 => ?_)
  ·
   refine wp_skip (tn (wp_seq (wp_block ?_)))
   have at1 : At0 dv (List.length (swpF D p q k)) := Own.at0 o3
   refine reg9 (a := a4) (σ := s2) rfl 22 21 [40] dE (Pr.st 40 42 4 dv (List.length (swpF D p q k)) (setL (List.flatMap recC (swpF D p q k)) ((p + k) * 4) (recC (((swpF D p q k).getD (q + k) Rec0))))) (fun i_ => List.getD [(Ty.val dv), (Ty.nat p), (Ty.nat k), (Ty.nat (p + k)), (Ty.val dv), (Ty.nat q), (Ty.nat k), (Ty.nat (q + k)), (Ty.val dv), (Ty.nat q), (Ty.nat k), (Ty.nat (q + k)), (Ty.val (cellPtr dv ((q + k) * 4))), (Ty.agg [(Ty.int (((swpF D p q k).getD (q + k) Rec0)).1), (Ty.int (((swpF D p q k).getD (q + k) Rec0)).2.1), (Ty.val (Value.string (((swpF D p q k).getD (q + k) Rec0)).2.2.1)), (Ty.lst Ty.str (((swpF D p q k).getD (q + k) Rec0)).2.2.2)]), (Ty.val dv), (Ty.nat p), (Ty.nat k), (Ty.nat (p + k)), (Ty.val (cellPtr dv ((p + k) * 4))), (Ty.agg [(Ty.int (((swpF D p q k).getD (p + k) Rec0)).1), (Ty.int (((swpF D p q k).getD (p + k) Rec0)).2.1), (Ty.val (Value.string (((swpF D p q k).getD (p + k) Rec0)).2.2.1)), (Ty.lst Ty.str (((swpF D p q k).getD (p + k) Rec0)).2.2.2)]), (Ty.val (cellPtr dv ((p + k) * 4))), Ty.any] i_ Ty.any) ok3 rfl dE rfl dE rfl rfl ⟨?_, ?_, ?_, ?_, ?_, ?_, ?_, ?_, ?_, ?_, ?_, ?_, ?_, ?_, ?_, ?_, ?_, ?_, ?_, ?_, ?_, ?_, trivial⟩ ?_
   · refine ob9e dE (by rfl) ?_
     intro A B G H I
     exact rP (y_move (kp (I 0 rfl) G q12))
   · refine ob9e dE (by rfl) ?_
     intro A B G H I
     exact rP (y_move (kp (I 1 rfl) G q13))
   · refine ob9e dE (by rfl) ?_
     intro A B G H I
     exact rP (y_move (kp (I 10 rfl) G q11))
   · refine ob9e dE (by rfl) ?_
     intro A B G H I d0 d1
     have e1 : At (Ty.nat p) B A (.tmp 17) := d0 rfl
     have e2 : At (Ty.nat k) B A (.tmp 18) := d1 rfl
     exact rP ((y_add e1 e2 wX).mono (fun τ _ h => cN (σ := τ) h))
   · refine ob9 dE (by rfl) ?_
     intro A B G H I d0
     exact rP (y_move (kpL G dE (I 0 rfl) q12))
   · refine ob9 dE (by rfl) ?_
     intro A B G H I d0
     exact rP (y_move (kpL G dE (I 2 rfl) q14))
   · refine ob9 dE (by rfl) ?_
     intro A B G H I d0
     exact rP (y_move (kpL G dE (I 10 rfl) q11))
   · refine ob9 dE (by rfl) ?_
     intro A B G H I d0 d1 d2
     have e5 : At (Ty.nat q) B A (.tmp 21) := d0 rfl
     have e6 : At (Ty.nat k) B A (.tmp 22) := d1 rfl
     exact rP ((y_add e5 e6 wX).mono (fun τ _ h => cN (σ := τ) h))
   · refine ob9e dE (by rfl) ?_
     intro A B G H I
     exact rP (y_move (kp (I 0 rfl) G q12))
   · refine ob9e dE (by rfl) ?_
     intro A B G H I
     exact rP (y_move (kp (I 2 rfl) G q14))
   · refine ob9e dE (by rfl) ?_
     intro A B G H I
     exact rP (y_move (kp (I 10 rfl) G q11))
   · refine ob9e dE (by rfl) ?_
     intro A B G H I d0 d1
     have e9 : At (Ty.nat q) B A (.tmp 25) := d0 rfl
     have e10 : At (Ty.nat k) B A (.tmp 26) := d1 rfl
     exact rP ((y_add e9 e10 wX).mono (fun τ _ h => cN (σ := τ) h))
   · refine ob9e dE (by rfl) ?_
     intro A B G H I d0 d1
     have e8 : At (Ty.val dv) B A (.tmp 24) := d0 rfl
     have e11 : At (Ty.nat (q + k)) B A (.tmp 27) := d1 rfl
     exact rP (y_indexFc (i := (q + k)) Tryd.underlying26 Tryd.inf42 at1 e8 e11 oM)
   · refine ob9e dE (by rfl) ?_
     intro A B G H I d0
     have e12 : At (Ty.val (cellPtr dv ((q + k) * 4))) B A (.tmp 28) := d0 rfl
     exact rP (yld_agg (recs_drop (xs := (swpF D p q k)) (i := (q + k)) oM) (own_loadst Tryd.underlying42 Tryd.inf42 (by rw [recs_len]; omega) dE (Own.k0 o3 G) e12))
   · refine ob9e dE (by rfl) ?_
     intro A B G H I
     exact rP (y_move (kp (I 0 rfl) G q12))
   · refine ob9e dE (by rfl) ?_
     intro A B G H I
     exact rP (y_move (kp (I 1 rfl) G q13))
   · refine ob9e dE (by rfl) ?_
     intro A B G H I
     exact rP (y_move (kp (I 10 rfl) G q11))
   · refine ob9e dE (by rfl) ?_
     intro A B G H I d0 d1
     have e15 : At (Ty.nat p) B A (.tmp 31) := d0 rfl
     have e16 : At (Ty.nat k) B A (.tmp 32) := d1 rfl
     exact rP ((y_add e15 e16 wX).mono (fun τ _ h => cN (σ := τ) h))
   · refine ob9e dE (by rfl) ?_
     intro A B G H I d0 d1
     have e14 : At (Ty.val dv) B A (.tmp 30) := d0 rfl
     have e17 : At (Ty.nat (p + k)) B A (.tmp 33) := d1 rfl
     exact rP (y_indexFc (i := (p + k)) Tryd.underlying26 Tryd.inf42 at1 e14 e17 oM)
   · refine ob9e dE (by rfl) ?_
     intro A B G H I d0
     have e18 : At (Ty.val (cellPtr dv ((p + k) * 4))) B A (.tmp 34) := d0 rfl
     exact rP (yld_agg (recs_drop (xs := (swpF D p q k)) (i := (p + k)) oM) (own_loadst Tryd.underlying42 Tryd.inf42 (by rw [recs_len]; omega) dE (Own.k0 o3 G) e18))
   · refine ob9e dE (by rfl) ?_
     intro A B G H I d0 d1 d2 d3 d4 d5 d6 d7 d8 d9 d10 d11 d12 d13 d14 d15 d16 d17 d18 d19 d20 d21
     have e0 : At (Ty.val dv) B A (.tmp 16) := d0 rfl
     have e3 : At (Ty.nat (p + k)) B A (.tmp 19) := d1 rfl
     exact rP (y_indexFc (i := (p + k)) Tryd.underlying26 Tryd.inf42 at1 e0 e3 oM)
   · refine obR3w rfl ?_
     intro A B G H I d0 d1 d2 d3 d4 d5 d6 d7 d8 d9 d10 d11 d12 d13 d14 d15 d16 d17 d18 d19 d20 d21
     have e20 : At (Ty.val (cellPtr dv ((p + k) * 4))) B A (.tmp 36) := d0 rfl
     have e13 : At (Ty.agg [(Ty.int (((swpF D p q k).getD (q + k) Rec0)).1), (Ty.int (((swpF D p q k).getD (q + k) Rec0)).2.1), (Ty.val (Value.string (((swpF D p q k).getD (q + k) Rec0)).2.2.1)), (Ty.lst Ty.str (((swpF D p q k).getD (q + k) Rec0)).2.2.2)]) B A (.tmp 29) := d1 rfl
     exact YldM.toL (m_storec (us := recC (((swpF D p q k).getD (q + k) Rec0))) Tryd.inf42 dE (Own.k0 o3 G) e20 (by rw [recs_len]; show _ + 4 ≤ _; omega) (show 0 < 4 by decide) e13 (recOne _))
   intro a5 s3 D3; have ok4 := D3.ok; have F4 := F3.stepL D3.stp dE
   have q17 : At (Ty.nat k) s3 a5 (.tmp 10) := D3.kt dE q11 rfl
   have q18 : At (Ty.val dv) s3 a5 (.tmp 0) := D3.kt dE q12 rfl
   have q19 : At (Ty.nat p) s3 a5 (.tmp 1) := D3.kt dE q13 rfl
   have q20 : At (Ty.nat q) s3 a5 (.tmp 2) := D3.kt dE q14 rfl
   have q21 : At (Ty.nat n) s3 a5 (.tmp 3) := D3.kt dE (D2.k q10) rfl
   have q22 : At (Ty.val dv) s3 a5 (.tmp 20) := D3.done 4 dE
   have q23 : At (Ty.nat (q + k)) s3 a5 (.tmp 23) := D3.done 7 dE
   have q24 : At (Ty.agg [(Ty.int (((swpF D p q k).getD (p + k) Rec0)).1), (Ty.int (((swpF D p q k).getD (p + k) Rec0)).2.1), (Ty.val (Value.string (((swpF D p q k).getD (p + k) Rec0)).2.2.1)), (Ty.lst Ty.str (((swpF D p q k).getD (p + k) Rec0)).2.2.2)]) s3 a5 (.tmp 35) := D3.done 19 dE
   have o4 : Own s3 40 42 4 dv (List.length ((swpF D p q k).set (p + k) (((swpF D p q k).getD (q + k) Rec0)))) (List.flatMap recC ((swpF D p q k).set (p + k) (((swpF D p q k).getD (q + k) Rec0)))) := (cvo (by simp only [List.length_set]) (recs_set oM) D3.donep)
   refine tL (R := (fun v τ => Pr.has (Ty.pr (Ty.val (cellPtr dv ((q + k) * 4)))) τ v)) ok4 (Yld.toL (y_idxc (i := (q + k)) Tryd.underlying26 Tryd.inf42 o4 q22 q23 (by simp only [List.length_set]; omega))) fun a6 s4 hs1 ok5 r1 sm1 => ?_
   have q32 : At (Ty.val (cellPtr dv ((q + k) * 4))) s4 a6 (.tmp 37) := r1
   clear r1
   refine tailL0 (L := [40]) (R := (fun _ τ => Own τ 40 42 4 dv (List.length ((swpF D p q k).set (p + k) (((swpF D p q k).getD (q + k) Rec0)))) (setL (List.flatMap recC ((swpF D p q k).set (p + k) (((swpF D p q k).getD (q + k) Rec0)))) ((q + k) * 4) (recC (((swpF D p q k).getD (p + k) Rec0)))))) rfl rfl (YldM.toL (m_storec (us := recC (((swpF D p q k).getD (p + k) Rec0))) Tryd.inf42 dE (Own.kl o4 hs1) q32 (by rw [recs_len]; show _ + 4 ≤ _; simp only [List.length_set]; omega) (show 0 < 4 by decide) (kq hs1 sm1 35 q24) (recOne _))) (fun v1 s5 hs2 r2 => ?_)
   have q33 := kpL hs2 dE rfl (kq hs1 sm1 10 q17); have q34 := kpL hs2 dE rfl (kq hs1 sm1 0 q18); have q35 := kpL hs2 dE rfl (kq hs1 sm1 1 q19); have q36 := kpL hs2 dE rfl (kq hs1 sm1 2 q20); have q37 := kpL hs2 dE rfl (kq hs1 sm1 3 q21)
   have o6 : Own s5 40 42 4 dv (List.length (((swpF D p q k).set (p + k) (((swpF D p q k).getD (q + k) Rec0))).set (q + k) (((swpF D p q k).getD (p + k) Rec0)))) (List.flatMap recC (((swpF D p q k).set (p + k) (((swpF D p q k).getD (q + k) Rec0))).set (q + k) (((swpF D p q k).getD (p + k) Rec0)))) := (cvo (by simp only [List.length_set]) (recs_set (by simp only [List.length_set]; omega)) r2)
   clear r2; refine wpList_nil (bn (tn ?_))
   refine gI a6 s5 ok5 (gM q33 (gT (Ty.nat (k + 1)) rfl (fun A B G H I d0 => rP ((y_add (eI d0) rfl wX).mono (fun τ _ h => cN (σ := τ) h))) (gB 0 (gE ok5 fun a7 s6 ok6 D4 => ?_)))); have o7 := Own.k0 o6 D4.stp
   exact tn ⟨n - ((k+1)), by omega, s6, (k+1), rfl, (((F4.sl hs1).sl hs2).step0 D4.stp), ok6, (cJ (D4.m 2 rfl)), (D4.k q34), (D4.k q35), (D4.k q36), (D4.k q37), (cvo (by (rw [swp_step oM oM])) (by (rw [swp_step oM oM])) o7), by omega, rfl⟩
  ·
   refine wp_exit (tx (tx (bx ?_)))
   exact nL0 rfl ok3 F3 ⟨trivial, (cvo (by (rw [show k = n by omega])) (by (rw [show k = n by omega])) o3)⟩


set_option maxHeartbeats 4000000 in
set_option maxRecDepth 100000 in
theorem rotate_fn (dv : Value) (D : List Rec) (a : Nat) (m : Nat) (b : Nat) (cf : Value) (σ : GW) (hlow : Low [40] σ) (v0 v1 v2 v3 v4 : Value) (hv0 : Ty.has (Ty.val dv) σ v0) (hv1 : Ty.has (Ty.nat a) σ v1) (hv2 : Ty.has (Ty.nat m) σ v2) (hv3 : Ty.has (Ty.nat b) σ v3) (hv4 : Ty.has (Ty.val cf) σ v4) (ho_dv : Own σ 40 42 4 dv (List.length D) (List.flatMap recC D)) (h1 : a < m) (h2 : m < b) (h3 : b ≤ D.length) (hDl : D.length ≤ 1000000) :
    FnL Tryd.prog 65 #[v0, v1, v2, v3, v4] σ [40] (fun v τ => True ∧ (Own τ 40 42 4 dv (List.length (rotF D a m b)) (List.flatMap recC (rotF D a m b)))) := by
 refine fn_introL hlow Tryd.func65 rfl Tryd.ntmps65 (Nat.le_of_ble_eq_true rfl) (fun a0 F0 ok0 hargs => ?_)
 have p0 := pB (hargs 0 _ rfl) hv0
 have p1 := pB (hargs 1 _ rfl) hv1
 have p2 := pB (hargs 2 _ rfl) hv2
 have p3 := pB (hargs 3 _ rfl) hv3
 have p4 := pB (hargs 4 _ rfl) hv4
 clear hargs; refine wp_seq ?_
 refine gI a0 σ ok0 (gM p2 (gM p1 (gT (Ty.nat (m - a)) rfl (fun A B G H I d0 d1 => rP ((y_sub (eI d0) (eI d1) wX).mono (fun τ _ h => cvi (σ := τ) oM h))) (gB 0 (gE ok0 fun a1 s1 ok1 D1 => ?_))))); have q2 := D1.k p2; have o1 := Own.k0 ho_dv D1.stp; refine tn (wp_seq ?_)
 refine gI a1 s1 ok1 (gM (D1.k p3) (gM q2 (gT (Ty.nat (b - m)) rfl (fun A B G H I d0 d1 => rP ((y_sub (eI d0) (eI d1) wX).mono (fun τ _ h => cvi (σ := τ) oM h))) (gB 0 (gE ok1 fun a2 s2 ok2 D2 => ?_))))); have o2 := Own.k0 o1 D2.stp; refine tn (wp_seq (wp_block ?_))
 refine loop (fun n1 a3 w1 => ∃ (t1 : GW) (E : List Rec) (i : Nat) (j : Nat), t1.w = w1 ∧ FromL [40] σ t1 ∧ Ok 58 [] a3 ∧ At (Ty.nat i) t1 a3 (.tmp 10) ∧ At (Ty.nat j) t1 a3 (.tmp 11) ∧ At (Ty.val dv) t1 a3 (.tmp 0) ∧ At (Ty.nat m) t1 a3 (.tmp 2) ∧ At (Ty.val cf) t1 a3 (.tmp 4) ∧ Own t1 40 42 4 dv (List.length E) (List.flatMap recC E) ∧ (RotI D E a m b i j) ∧ (1 ≤ i ∧ i ≤ m) ∧ (1 ≤ j ∧ m + j ≤ D.length) ∧ n1 = i + j) (((m - a)) + ((b - m))) ?_ ?_
 ·
  exact ⟨s2, D, (m - a), (b - m), rfl, ((F0.step0 D1.stp).step0 D2.stp), ok2, (cJ (D2.k (D1.m 3 rfl))), (cJ (D2.m 3 rfl)), (D2.k (D1.k p0)), (D2.k q2), (D2.k (D1.k p4)), (cvo (by (simp)) (by (simp)) o2), rot_0 oM oM, by omega, by omega, rfl⟩
 ·
  rintro n2 a4 w2 ⟨t2, E, i, j, rfl, F3, ok3, q11, q12, q13, q14, q15, o3, hR, hi, hj, rfl⟩
  have hEl_ := hR.1
  refine wp_seq (wp_seq ?_)
  refine gI a4 t2 ok3 (gM q11 (gM q12 (gS rfl (fun A B G H I d0 d1 => rP (y_neq (eI d0) (eI d1))) (gE ok3 fun a5 s3 ok4 D3 => ?_)))); have F4 := F3.step0 D3.stp; have q16 := D3.k q11; have q17 := D3.k q12; have q18 := D3.k q13; have q19 := D3.k q14; have q20 := D3.k q15; have o4 := Own.k0 o3 D3.stp; refine tn ?_
  refine cond_p (p := (((i : Nat) : Int) ≠ ((j : Nat) : Int))) (D3.m 2 rfl) (fun c1 => ?_) (fun c1 => ?_)
  ·
   refine wp_skip (tn (wp_block (wp_seq ?_)))
   refine gI a5 s3 ok4 (gM q16 (gM q17 (gS rfl (fun A B G H I d0 d1 => rP (y_gtr (eI d0) (eI d1))) (gE ok4 fun a6 s4 ok5 D4 => ?_)))); have F5 := F4.step0 D4.stp; have q22 := D4.k q16; have q23 := D4.k q17; have q24 := D4.k q18; have q25 := D4.k q19; have q26 := D4.k q20; have o5 := Own.k0 o4 D4.stp; refine tn ?_
   refine cond_p (p := (((j : Nat) : Int) < ((i : Nat) : Int))) (D4.m 2 rfl) (fun c2 => ?_) (fun c2 => ?_)
   ·
    refine wp_seq ?_
    refine gI a6 s4 ok5 (gM q24 (gM q25 (gM q22 (gT (Ty.nat (m - i)) rfl (fun A B G H I d0 d1 => rP ((y_sub (eI d0) (eI d1) wX).mono (fun τ _ h => cvi (σ := τ) oM h))) (gM q25 (gM q23 (gM q26 (gE2 ok5 fun a7 s5 ok6 D5 => ?_)))))))); have o6 := Own.k0 o5 D5.stp
    refine tL ok6 (y_callL (L := [40]) [(40, 40)] [(40, 40)] #[a7.eval (.tmp 24), a7.eval (.tmp 27), a7.eval (.tmp 28), a7.eval (.tmp 29), a7.eval (.tmp 30)] rfl dE Tryd.func83 rfl rfl my5 (swap_fn (dv) (E) ((m - i)) (m) (j) (cf) _ lW _ _ _ _ _ (uL (D5.m 0 rfl)) (uL (cvi (σ := s5) oX (D5.m 3 rfl))) (uL (cvi (σ := s5) oX (D5.m 4 rfl))) (uL (cvi (σ := s5) oX (D5.m 5 rfl))) (uL (D5.m 6 rfl)) (Own.ren (cvo (by (simp)) (by (simp)) o6) (GW.ren_lend _ _ dE rfl)) oX oX oX)) fun a8 s6 hs1 ok7 r1 sm1 => ?_
    have q39 := kq hs1 sm1 11 (D5.k q23)
    obtain ⟨t3, ⟨hT1, o7⟩, B1⟩ := r1
    have o8 : Own s6 40 42 4 dv (List.length (swpF (E) ((m - i)) (m) (j))) (List.flatMap recC (swpF (E) ((m - i)) (m) (j))) := Own.ren o7 (B1.ren dE rfl)
    refine wpList_nil (tn ?_)
    refine gI a8 s6 ok7 (gM (kq hs1 sm1 10 (D5.k q22)) (gM q39 (gT (Ty.nat (i - j)) rfl (fun A B G H I d0 d1 => rP ((y_sub (eI d0) (eI d1) wX).mono (fun τ _ h => cvi (σ := τ) oM h))) (gB 0 (gE ok7 fun a9 s7 ok8 D6 => ?_))))); have o9 := Own.k0 o8 D6.stp; refine bn ?_
    exact tn ⟨((i - j)) + j, by omega, s7, (swpF E (m - i) m j), (i - j), j, rfl, (((F5.step0 D5.stp).sl hs1).step0 D6.stp), ok8, (cJ (D6.m 3 rfl)), (D6.k q39), (D6.k (kq hs1 sm1 0 (D5.k q24))), (D6.k (kq hs1 sm1 2 (D5.k q25))), (D6.k (kq hs1 sm1 4 (D5.k q26))), (cvo (by (simp)) (by (simp)) o9), rot_A hR oM oM oM, by omega, by omega, rfl⟩
   ·
    refine wp_seq ?_
    refine gI a6 s4 ok5 (gM q24 (gM q25 (gM q22 (gT (Ty.nat (m - i)) rfl (fun A B G H I d0 d1 => rP ((y_sub (eI d0) (eI d1) wX).mono (fun τ _ h => cvi (σ := τ) oM h))) (gM q25 (gM q23 (gT (Ty.nat (m + j)) rfl (fun A B G H I d0 d1 => rP ((y_add (eI d0) (eI d1) wX).mono (fun τ _ h => cN (σ := τ) h))) (gM q22 (gT (Ty.nat ((m + j) - i)) rfl (fun A B G H I d0 d1 => rP ((y_sub (eI d0) (eI d1) wX).mono (fun τ _ h => cvi (σ := τ) oM h))) (gM q22 (gM q26 (gE2 ok5 fun a10 s8 ok9 D7 => ?_)))))))))))); have o10 := Own.k0 o5 D7.stp
    refine tL ok9 (y_callL (L := [40]) [(40, 40)] [(40, 40)] #[a10.eval (.tmp 35), a10.eval (.tmp 38), a10.eval (.tmp 43), a10.eval (.tmp 44), a10.eval (.tmp 45)] rfl dE Tryd.func83 rfl rfl my5 (swap_fn (dv) (E) ((m - i)) (((m + j) - i)) (i) (cf) _ lW _ _ _ _ _ (uL (D7.m 0 rfl)) (uL (cvi (σ := s8) oX (D7.m 3 rfl))) (uL (cvi (σ := s8) oX (D7.m 8 rfl))) (uL (cvi (σ := s8) oX (D7.m 9 rfl))) (uL (D7.m 10 rfl)) (Own.ren (cvo (by (simp)) (by (simp)) o10) (GW.ren_lend _ _ dE rfl)) oX oX oX)) fun a11 s9 hs2 ok10 r2 sm2 => ?_
    have q59 := kq hs2 sm2 10 (D7.k q22)
    obtain ⟨t4, ⟨hT2, o11⟩, B2⟩ := r2
    have o12 : Own s9 40 42 4 dv (List.length (swpF (E) ((m - i)) (((m + j) - i)) (i))) (List.flatMap recC (swpF (E) ((m - i)) (((m + j) - i)) (i))) := Own.ren o11 (B2.ren dE rfl)
    refine wpList_nil (tn ?_)
    refine gI a11 s9 ok10 (gM (kq hs2 sm2 11 (D7.k q23)) (gM q59 (gT (Ty.nat (j - i)) rfl (fun A B G H I d0 d1 => rP ((y_sub (eI d0) (eI d1) wX).mono (fun τ _ h => cvi (σ := τ) oM h))) (gB 0 (gE ok10 fun a12 s10 ok11 D8 => ?_))))); have o13 := Own.k0 o12 D8.stp; refine bn ?_
    exact tn ⟨i + ((j - i)), by omega, s10, (swpF E (m - i) (m + j - i) i), i, (j - i), rfl, (((F5.step0 D7.stp).sl hs2).step0 D8.stp), ok11, (D8.k q59), (cJ (D8.m 3 rfl)), (D8.k (kq hs2 sm2 0 (D7.k q24))), (D8.k (kq hs2 sm2 2 (D7.k q25))), (D8.k (kq hs2 sm2 4 (D7.k q26))), (cvo (by (simp)) (by (simp)) o13), rot_B hR oM oM oM, by omega, by omega, rfl⟩
  ·
   have hR2 := hR; rw [show j = i by omega] at hR2; have hfin := rot_end hR2 oM
   refine wp_exit (tx (tx (bx (tn ?_))))
   refine gI a5 s3 ok4 (gM q18 (gM q19 (gM q16 (gT (Ty.nat (m - i)) rfl (fun A B G H I d0 d1 => rP ((y_sub (eI d0) (eI d1) wX).mono (fun τ _ h => cvi (σ := τ) oM h))) (gM q19 (gM q16 (gM q20 (gE2 ok4 fun a13 s11 ok12 D9 => ?_)))))))); have o14 := Own.k0 o4 D9.stp
   refine tL ok12 (y_callL (L := [40]) [(40, 40)] [(40, 40)] #[a13.eval (.tmp 50), a13.eval (.tmp 53), a13.eval (.tmp 54), a13.eval (.tmp 55), a13.eval (.tmp 56)] rfl dE Tryd.func83 rfl rfl my5 (swap_fn (dv) (E) ((m - i)) (m) (i) (cf) _ lW _ _ _ _ _ (uL (D9.m 0 rfl)) (uL (cvi (σ := s11) oX (D9.m 3 rfl))) (uL (cvi (σ := s11) oX (D9.m 4 rfl))) (uL (cvi (σ := s11) oX (D9.m 5 rfl))) (uL (D9.m 6 rfl)) (Own.ren (cvo (by (simp)) (by (simp)) o14) (GW.ren_lend _ _ dE rfl)) oX oX oX)) fun a14 s12 hs3 ok13 r3 sm3 => ?_
   obtain ⟨t5, ⟨hT3, o15⟩, B3⟩ := r3
   have o16 : Own s12 40 42 4 dv (List.length (swpF (E) ((m - i)) (m) (i))) (List.flatMap recC (swpF (E) ((m - i)) (m) (i))) := Own.ren o15 (B3.ren dE rfl)
   refine wpList_nil ?_
   exact nL0 rfl ok13 ((F4.step0 D9.stp).sl hs3) ⟨trivial, (cvo (by (rw [hfin])) (by (rw [hfin])) o16)⟩


set_option maxHeartbeats 4000000 in
set_option maxRecDepth 100000 in
theorem symMerge_fn : ∀ (d : Nat) (dv : Value) (D : List Rec) (a : Nat) (m : Nat) (b : Nat) (σ : GW) (hlow : Low [40] σ) (v0 v1 v2 v3 v4 : Value) (hv0 : Ty.has (Ty.val dv) σ v0) (hv1 : Ty.has (Ty.nat a) σ v1) (hv2 : Ty.has (Ty.nat m) σ v2) (hv3 : Ty.has (Ty.nat b) σ v3) (hv4 : Ty.has (Ty.val (Value.func (Fn.func 20) #[] #[])) σ v4) (ho_dv : Own σ 40 42 4 dv (List.length D) (List.flatMap recC D)) (hd : d = b - a) (h1 : a < m) (h2 : m < b) (h3 : b ≤ D.length) (hDl : D.length ≤ 1000000) (hday : DayOk D) (hs1 : Srt D a m) (hs2 : Srt D m b), FnL Tryd.prog 46 #[v0, v1, v2, v3, v4] σ [40] (fun v τ => ∃ (D2 : List Rec), True ∧ (Own τ 40 42 4 dv (List.length D2) (List.flatMap recC D2)) ∧ (Sg a b D D2) ∧ (Srt D2 a b)) := by
 intro d
 induction d using Nat.strongRecOn with
 | _ d ih =>
 intro dv D a m b σ hlow v0 v1 v2 v3 v4 hv0 hv1 hv2 hv3 hv4 ho_dv hd h1 h2 h3 hDl hday hs1 hs2
 obtain ⟨mid, hmid⟩ : ∃ mid, mid = (a + b) / 2 := ⟨_, rfl⟩
 refine fn_introL hlow Tryd.func46 rfl Tryd.ntmps46 (Nat.le_of_ble_eq_true rfl) (fun a0 F0 ok0 hargs => ?_)
 have p0 := pB (hargs 0 _ rfl) hv0
 have p1 := pB (hargs 1 _ rfl) hv1
 have p2 := pB (hargs 2 _ rfl) hv2
 have p3 := pB (hargs 3 _ rfl) hv3
 have p4 := pB (hargs 4 _ rfl) hv4
 clear hargs; refine wp_seq (wp_seq ?_)
 refine gI a0 σ ok0 (gM p2 (gM p1 (gT (Ty.nat (m - a)) rfl (fun A B G H I d0 d1 => rP ((y_sub (eI d0) (eI d1) wX).mono (fun τ _ h => cvi (σ := τ) oM h))) (gS rfl (fun A B G H I d0 => rP (y_eql (eI d0) rfl)) (gE ok0 fun a1 s1 ok1 D1 => ?_))))); have F1 := F0.step0 D1.stp; have q1 := D1.k p0; have q2 := D1.k p1; have q3 := D1.k p2; have q4 := D1.k p3; have q5 := D1.k p4; have o1 := Own.k0 ho_dv D1.stp; refine tn ?_
 refine cond_p (p := ((((m - a) : Nat) : Int) = (1 : Int))) (D1.m 3 rfl) (fun c1 => ?_) (fun c1 => ?_)
 ·
  have hm1 : m = a + 1 := oM; have hs2c : Srt D (a + 1) b := (by rw [← hm1]; exact hs2)
  refine wp_seq ?_
  refine gI a1 s1 ok1 (gM q3 (gB 0 (gE ok1 fun a2 s2 ok2 D2 => ?_))); have o2 := Own.k0 o1 D2.stp; refine tn (wp_seq ?_)
  refine gI a2 s2 ok2 (gM (D2.k q4) (gB 0 (gE ok2 fun a3 s3 ok3 D3 => ?_))); have o3 := Own.k0 o2 D3.stp; refine tn (wp_seq (wp_block ?_))
  refine loop (fun n1 a4 w1 => ∃ (t1 : GW) (i : Nat) (j : Nat), t1.w = w1 ∧ FromL [40] σ t1 ∧ Ok 220 [] a4 ∧ At (Ty.nat i) t1 a4 (.tmp 10) ∧ At (Ty.nat j) t1 a4 (.tmp 11) ∧ At (Ty.val dv) t1 a4 (.tmp 0) ∧ At (Ty.nat a) t1 a4 (.tmp 1) ∧ At (Ty.val (Value.func (Fn.func 20) #[] #[])) t1 a4 (.tmp 4) ∧ Own t1 40 42 4 dv (List.length D) (List.flatMap recC D) ∧ (m ≤ i ∧ i ≤ j ∧ j ≤ b) ∧ (i = m ∨ (D.getD (i - 1) Rec0).1 < (D.getD a Rec0).1) ∧ (j = b ∨ (D.getD a Rec0).1 ≤ (D.getD j Rec0).1) ∧ n1 = j - i) ((b) - (m)) ?_ ?_
  ·
   exact ⟨s3, m, b, rfl, ((F1.step0 D2.stp).step0 D3.stp), ok3, (cJ (D3.k (D2.m 1 rfl))), (cJ (D3.m 1 rfl)), (D3.k (D2.k q1)), (D3.k (D2.k q2)), (D3.k (D2.k q5)), o3, by omega, .inl rfl, .inl rfl, rfl⟩
  ·
   rintro n2 a5 w2 ⟨t2, i, j, rfl, F4, ok4, q17, q18, q19, q20, q21, o4, hi, hf, hg, rfl⟩
   refine wp_seq (wp_seq ?_)
   refine gI a5 t2 ok4 (gM q17 (gM q18 (gS rfl (fun A B G H I d0 d1 => rP (y_lss (eI d0) (eI d1))) (gE ok4 fun a6 s4 ok5 D4 => ?_)))); have F5 := F4.step0 D4.stp; have q22 := D4.k q17; have q23 := D4.k q18; have q24 := D4.k q19; have q25 := D4.k q20; have o5 := Own.k0 o4 D4.stp; refine tn ?_
   refine cond_p (p := (((i : Nat) : Int) < ((j : Nat) : Int))) (D4.m 2 rfl) (fun c2 => ?_) (fun c2 => ?_)
   ·
    refine wp_skip (tn (wp_block (wp_seq ?_)))
    refine gI a6 s4 ok5 (gM q22 (gM q23 (gT (Ty.nat (i + j)) rfl (fun A B G H I d0 d1 => rP ((y_add (eI d0) (eI d1) wX).mono (fun τ _ h => cN (σ := τ) h))) (gT (Ty.val (Value.int .u64 (((i + j) : Nat) : Int))) rfl (fun A B G H I d0 => rP (y_conv Tryd.underlying95 (eI d0) (by exact wrap_u64 oM oM) (by rw [Tryd.underlying3]; rfl))) (gT (Ty.val (Value.int .u64 ((((i + j) / 2 : Nat)) : Int))) rfl (fun A B G H I d0 => rP (y_shr1 (eI d0) rfl)) (gT (Ty.int ((((i + j) / 2 : Nat)) : Int)) rfl (fun A B G H I d0 => rP (y_conv Tryd.underlying3 (eI d0) (by exact w64 oM oM) (by rw [Tryd.underlying95]; rfl))) (gB 0 (gE ok5 fun a7 s5 ok6 D5 => ?_)))))))); have q30 := D5.k q24; have q31 := D5.k q25; have q32 := D5.k (D4.k q21); have o6 := Own.k0 o5 D5.stp; have q33 := D5.m 6 rfl; refine tn (wp_seq ?_)
    refine gI a7 s5 ok6 (gM q32 (gM q30 (gM q33 (gT (Ty.val (cellPtr dv (((i + j) / 2) * 4))) rfl (fun A B G H I d0 d1 => rP (y_idxc (i := ((i + j) / 2)) Tryd.underlying26 Tryd.inf42 (Own.k0 o6 G) (eI d0) (eI d1) oM)) (gT (Ty.agg [(Ty.int ((D.getD ((i + j) / 2) Rec0)).1), (Ty.int ((D.getD ((i + j) / 2) Rec0)).2.1), (Ty.val (Value.string ((D.getD ((i + j) / 2) Rec0)).2.2.1)), (Ty.lst Ty.str ((D.getD ((i + j) / 2) Rec0)).2.2.2)]) rfl (fun A B G H I d0 => rP (yld_agg (recs_drop (xs := D) (i := ((i + j) / 2)) oM) (own_loadst Tryd.underlying42 Tryd.inf42 (by rw [recs_len]; omega) dE (Own.k0 o6 G) (eI d0)))) (gM q30 (gM q31 (gT (Ty.val (cellPtr dv (a * 4))) rfl (fun A B G H I d0 d1 => rP (y_idxc (i := a) Tryd.underlying26 Tryd.inf42 (Own.k0 o6 G) (eI d0) (eI d1) oM)) (gT (Ty.agg [(Ty.int ((D.getD a Rec0)).1), (Ty.int ((D.getD a Rec0)).2.1), (Ty.val (Value.string ((D.getD a Rec0)).2.2.1)), (Ty.lst Ty.str ((D.getD a Rec0)).2.2.2)]) rfl (fun A B G H I d0 => rP (yld_agg (recs_drop (xs := D) (i := a) oM) (own_loadst Tryd.underlying42 Tryd.inf42 (by rw [recs_len]; omega) dE (Own.k0 o6 G) (eI d0)))) ?_)))))))))
    refine gT (Ty.int ((((D.getD ((i + j) / 2) Rec0)).1) - (((D.getD a Rec0)).1))) rfl (fun A B G H I d0 d1 d2 => rP (y_callz #[A.eval (.tmp 44), A.eval (.tmp 48)] (eI d0) Tryd.func20 rfl rfl (by simp only [List.map_toArray, List.map_cons, List.map_nil]) (cmp_fn (((D.getD ((i + j) / 2) Rec0)).1) (((D.getD ((i + j) / 2) Rec0)).2.1) (((D.getD a Rec0)).1) (((D.getD a Rec0)).2.1) (((D.getD ((i + j) / 2) Rec0)).2.2.1) (((D.getD a Rec0)).2.2.1) (((D.getD ((i + j) / 2) Rec0)).2.2.2) (((D.getD a Rec0)).2.2.2) _ _ _ (eI d1) (eI d2) (by first | exact hdF _ | exact hdE _ | exact hday _ | omega | assumption) (by first | exact hdF _ | exact hdE _ | exact hday _ | omega | assumption)))) (gS rfl (fun A B G H I d0 => rP (y_lss (eI d0) rfl)) (gE ok6 fun a8 s6 ok7 D6 => ?_)); have F7 := (F5.step0 D5.stp).step0 D6.stp; have q36 := D6.k q30; have q37 := D6.k q31; have q38 := D6.k q32; have q39 := D6.k q33; have o7 := Own.k0 o6 D6.stp; refine tn ?_
    refine cond_p (p := (((((D.getD ((i + j) / 2) Rec0)).1) - (((D.getD a Rec0)).1)) < (0 : Int))) (D6.m 10 rfl) (fun c3 => ?_) (fun c3 => ?_)
    ·
     have hlt : (D.getD ((i + j) / 2 + 1 - 1) Rec0).1 < (D.getD a Rec0).1 := (by rw [show (i + j) / 2 + 1 - 1 = (i + j) / 2 by omega]; omega)
     refine gI a8 s6 ok7 (gM q39 (gT (Ty.nat (((i + j) / 2) + 1)) rfl (fun A B G H I d0 => rP ((y_add (eI d0) rfl wX).mono (fun τ _ h => cN (σ := τ) h))) (gB 0 (gE ok7 fun a9 s7 ok8 D7 => ?_)))); have o8 := Own.k0 o7 D7.stp; refine bn ?_
     exact tn ⟨j - (((i + j) / 2 + 1)), by omega, s7, ((i + j) / 2 + 1), j, rfl, (F7.step0 D7.stp), ok8, (cJ (D7.m 2 rfl)), (D7.k (D6.k (D5.k q23))), (D7.k q36), (D7.k q37), (D7.k q38), o8, by omega, .inr hlt, hg, rfl⟩
    ·
     have hle : (D.getD a Rec0).1 ≤ (D.getD ((i + j) / 2) Rec0).1 := oM
     refine gI a8 s6 ok7 (gM q39 (gB 0 (gE ok7 fun a10 s8 ok9 D8 => ?_))); have o9 := Own.k0 o7 D8.stp; refine bn ?_
     exact tn ⟨(((i + j) / 2)) - i, by omega, s8, i, ((i + j) / 2), rfl, (F7.step0 D8.stp), ok9, (D8.k (D6.k (D5.k q22))), (cJ (D8.m 1 rfl)), (D8.k q36), (D8.k q37), (D8.k q38), o9, by omega, hf, .inr hle, rfl⟩
   ·
    have hij : i = j := oM; have hf1 : i = a + 1 ∨ (rD D (i - 1)).1 < (rD D a).1 := (by rw [← hm1]; exact hf); have hg1 : i = b ∨ (rD D a).1 ≤ (rD D i).1 := (by rw [← hij] at hg; exact hg)
    refine wp_exit (tx (tx (bx (tn (wp_seq (wp_seq ?_))))))
    refine gI a6 s4 ok5 (gM q25 (gB 0 (gE ok5 fun a11 s9 ok10 D9 => ?_))); have o10 := Own.k0 o5 D9.stp; refine tn (wp_block ?_)
    refine loop (fun n3 a12 w3 => ∃ (t3 : GW) (E : List Rec) (k : Nat), t3.w = w3 ∧ FromL [40] σ t3 ∧ Ok 220 [] a12 ∧ At (Ty.nat k) t3 a12 (.tmp 13) ∧ At (Ty.nat i) t3 a12 (.tmp 10) ∧ At (Ty.val dv) t3 a12 (.tmp 0) ∧ Own t3 40 42 4 dv (List.length E) (List.flatMap recC E) ∧ (Mv1 D E a b k) ∧ (a ≤ k ∧ k ≤ i - 1) ∧ n3 = i - k) (i - (a)) ?_ ?_
    ·
     exact ⟨s9, D, a, rfl, (F5.step0 D9.stp), ok10, (cJ (D9.m 1 rfl)), (D9.k q22), (D9.k q24), (cvo (by (simp)) (by (simp)) o10), mv1_0, by omega, rfl⟩
    ·
     rintro n4 a13 w4 ⟨t4, E, k, rfl, F11, ok11, q54, q55, q56, o11, hM, hk, rfl⟩
     have hEl_ := hM.sg.len
     refine wp_seq (wp_seq ?_)
     refine gI a13 t4 ok11 (gM q54 (gM q55 (gT (Ty.nat (i - 1)) rfl (fun A B G H I d0 => rP ((y_sub (eI d0) rfl wX).mono (fun τ _ h => cvi (σ := τ) oM h))) (gS rfl (fun A B G H I d0 d1 => rP (y_lss (eI d0) (eI d1))) (gE ok11 fun a14 s10 ok12 D10 => ?_))))); have F12 := F11.step0 D10.stp; have q57 := D10.k q54; have q59 := D10.k q56; have o12 := Own.k0 o11 D10.stp; refine tn ?_
     refine cond_p (p := (((k : Nat) : Int) < (((i - 1) : Nat) : Int))) (D10.m 3 rfl) (fun c4 => ?_) (fun c4 => ?_)
     ·
      refine wp_skip (tn (wp_seq (wp_block ?_)))
      have at1 : At0 dv (List.length E) := Own.at0 o12
      refine reg9 (a := a14) (σ := s10) rfl 16 15 [40] dE (Pr.st 40 42 4 dv (List.length E) (setL (List.flatMap recC E) (k * 4) (recC ((E.getD (k + 1) Rec0))))) (fun i_ => List.getD [(Ty.val dv), (Ty.nat k), (Ty.val dv), (Ty.nat k), (Ty.nat (k + 1)), (Ty.val dv), (Ty.nat k), (Ty.nat (k + 1)), (Ty.val (cellPtr dv ((k + 1) * 4))), (Ty.agg [(Ty.int ((E.getD (k + 1) Rec0)).1), (Ty.int ((E.getD (k + 1) Rec0)).2.1), (Ty.val (Value.string ((E.getD (k + 1) Rec0)).2.2.1)), (Ty.lst Ty.str ((E.getD (k + 1) Rec0)).2.2.2)]), (Ty.val dv), (Ty.nat k), (Ty.val (cellPtr dv (k * 4))), (Ty.agg [(Ty.int ((E.getD k Rec0)).1), (Ty.int ((E.getD k Rec0)).2.1), (Ty.val (Value.string ((E.getD k Rec0)).2.2.1)), (Ty.lst Ty.str ((E.getD k Rec0)).2.2.2)]), (Ty.val (cellPtr dv (k * 4))), Ty.any] i_ Ty.any) ok12 rfl dE rfl dE rfl rfl ⟨?_, ?_, ?_, ?_, ?_, ?_, ?_, ?_, ?_, ?_, ?_, ?_, ?_, ?_, ?_, ?_, trivial⟩ ?_
      · refine ob9e dE (by rfl) ?_
        intro A B G H I
        exact rP (y_move (kp (I 0 rfl) G q59))
      · refine ob9e dE (by rfl) ?_
        intro A B G H I
        exact rP (y_move (kp (I 13 rfl) G q57))
      · refine ob9 dE (by rfl) ?_
        intro A B G H I d0
        exact rP (y_move (kpL G dE (I 0 rfl) q59))
      · refine ob9 dE (by rfl) ?_
        intro A B G H I d0
        exact rP (y_move (kpL G dE (I 13 rfl) q57))
      · refine ob9 dE (by rfl) ?_
        intro A B G H I d0 d1
        have e3 : At (Ty.nat k) B A (.tmp 64) := d0 rfl
        exact rP ((y_add e3 rfl wX).mono (fun τ _ h => cN (σ := τ) h))
      · refine ob9e dE (by rfl) ?_
        intro A B G H I
        exact rP (y_move (kp (I 0 rfl) G q59))
      · refine ob9e dE (by rfl) ?_
        intro A B G H I
        exact rP (y_move (kp (I 13 rfl) G q57))
      · refine ob9e dE (by rfl) ?_
        intro A B G H I d0
        have e6 : At (Ty.nat k) B A (.tmp 67) := d0 rfl
        exact rP ((y_add e6 rfl wX).mono (fun τ _ h => cN (σ := τ) h))
      · refine ob9e dE (by rfl) ?_
        intro A B G H I d0 d1
        have e5 : At (Ty.val dv) B A (.tmp 66) := d0 rfl
        have e7 : At (Ty.nat (k + 1)) B A (.tmp 68) := d1 rfl
        exact rP (y_indexFc (i := (k + 1)) Tryd.underlying26 Tryd.inf42 at1 e5 e7 oM)
      · refine ob9e dE (by rfl) ?_
        intro A B G H I d0
        have e8 : At (Ty.val (cellPtr dv ((k + 1) * 4))) B A (.tmp 69) := d0 rfl
        exact rP (yld_agg (recs_drop (xs := E) (i := (k + 1)) oM) (own_loadst Tryd.underlying42 Tryd.inf42 (by rw [recs_len]; omega) dE (Own.k0 o12 G) e8))
      · refine ob9e dE (by rfl) ?_
        intro A B G H I
        exact rP (y_move (kp (I 0 rfl) G q59))
      · refine ob9e dE (by rfl) ?_
        intro A B G H I
        exact rP (y_move (kp (I 13 rfl) G q57))
      · refine ob9e dE (by rfl) ?_
        intro A B G H I d0 d1
        have e10 : At (Ty.val dv) B A (.tmp 71) := d0 rfl
        have e11 : At (Ty.nat k) B A (.tmp 72) := d1 rfl
        exact rP (y_indexFc (i := k) Tryd.underlying26 Tryd.inf42 at1 e10 e11 oM)
      · refine ob9e dE (by rfl) ?_
        intro A B G H I d0
        have e12 : At (Ty.val (cellPtr dv (k * 4))) B A (.tmp 73) := d0 rfl
        exact rP (yld_agg (recs_drop (xs := E) (i := k) oM) (own_loadst Tryd.underlying42 Tryd.inf42 (by rw [recs_len]; omega) dE (Own.k0 o12 G) e12))
      · refine ob9e dE (by rfl) ?_
        intro A B G H I d0 d1 d2 d3 d4 d5 d6 d7 d8 d9 d10 d11 d12 d13 d14 d15
        have e0 : At (Ty.val dv) B A (.tmp 61) := d0 rfl
        have e1 : At (Ty.nat k) B A (.tmp 62) := d1 rfl
        exact rP (y_indexFc (i := k) Tryd.underlying26 Tryd.inf42 at1 e0 e1 oM)
      · refine obR3w rfl ?_
        intro A B G H I d0 d1 d2 d3 d4 d5 d6 d7 d8 d9 d10 d11 d12 d13 d14 d15
        have e14 : At (Ty.val (cellPtr dv (k * 4))) B A (.tmp 75) := d0 rfl
        have e9 : At (Ty.agg [(Ty.int ((E.getD (k + 1) Rec0)).1), (Ty.int ((E.getD (k + 1) Rec0)).2.1), (Ty.val (Value.string ((E.getD (k + 1) Rec0)).2.2.1)), (Ty.lst Ty.str ((E.getD (k + 1) Rec0)).2.2.2)]) B A (.tmp 70) := d1 rfl
        exact YldM.toL (m_storec (us := recC ((E.getD (k + 1) Rec0))) Tryd.inf42 dE (Own.k0 o12 G) e14 (by rw [recs_len]; show _ + 4 ≤ _; omega) (show 0 < 4 by decide) e9 (recOne _))
      intro a15 s11 D11; have ok13 := D11.ok; have F13 := F12.stepL D11.stp dE
      have q61 : At (Ty.nat k) s11 a15 (.tmp 13) := D11.kt dE q57 rfl
      have q62 : At (Ty.nat i) s11 a15 (.tmp 10) := D11.kt dE (D10.k q55) rfl
      have q63 : At (Ty.val dv) s11 a15 (.tmp 0) := D11.kt dE q59 rfl
      have q64 : At (Ty.val dv) s11 a15 (.tmp 63) := D11.done 2 dE
      have q65 : At (Ty.nat (k + 1)) s11 a15 (.tmp 65) := D11.done 4 dE
      have q66 : At (Ty.agg [(Ty.int ((E.getD k Rec0)).1), (Ty.int ((E.getD k Rec0)).2.1), (Ty.val (Value.string ((E.getD k Rec0)).2.2.1)), (Ty.lst Ty.str ((E.getD k Rec0)).2.2.2)]) s11 a15 (.tmp 74) := D11.done 13 dE
      have o13 : Own s11 40 42 4 dv (List.length (E.set k ((E.getD (k + 1) Rec0)))) (List.flatMap recC (E.set k ((E.getD (k + 1) Rec0)))) := (cvo (by simp only [List.length_set]) (recs_set oM) D11.donep)
      refine tL (R := (fun v τ => Pr.has (Ty.pr (Ty.val (cellPtr dv ((k + 1) * 4)))) τ v)) ok13 (Yld.toL (y_idxc (i := (k + 1)) Tryd.underlying26 Tryd.inf42 o13 q64 q65 (by simp only [List.length_set]; omega))) fun a16 s12 hs1 ok14 r1 sm1 => ?_
      have q72 : At (Ty.val (cellPtr dv ((k + 1) * 4))) s12 a16 (.tmp 76) := r1
      clear r1
      refine tailL0 (L := [40]) (R := (fun _ τ => Own τ 40 42 4 dv (List.length (E.set k ((E.getD (k + 1) Rec0)))) (setL (List.flatMap recC (E.set k ((E.getD (k + 1) Rec0)))) ((k + 1) * 4) (recC ((E.getD k Rec0)))))) rfl rfl (YldM.toL (m_storec (us := recC ((E.getD k Rec0))) Tryd.inf42 dE (Own.kl o13 hs1) q72 (by rw [recs_len]; show _ + 4 ≤ _; simp only [List.length_set]; omega) (show 0 < 4 by decide) (kq hs1 sm1 74 q66) (recOne _))) (fun v1 s13 hs2 r2 => ?_)
      have q73 := kpL hs2 dE rfl (kq hs1 sm1 13 q61); have q74 := kpL hs2 dE rfl (kq hs1 sm1 10 q62); have q75 := kpL hs2 dE rfl (kq hs1 sm1 0 q63)
      have o15 : Own s13 40 42 4 dv (List.length ((E.set k ((E.getD (k + 1) Rec0))).set (k + 1) ((E.getD k Rec0)))) (List.flatMap recC ((E.set k ((E.getD (k + 1) Rec0))).set (k + 1) ((E.getD k Rec0)))) := (cvo (by simp only [List.length_set]) (recs_set (by simp only [List.length_set]; omega)) r2)
      clear r2; refine wpList_nil (bn (tn ?_))
      refine gI a16 s13 ok14 (gM q73 (gT (Ty.nat (k + 1)) rfl (fun A B G H I d0 => rP ((y_add (eI d0) rfl wX).mono (fun τ _ h => cN (σ := τ) h))) (gB 0 (gE ok14 fun a17 s14 ok15 D12 => ?_)))); have o16 := Own.k0 o15 D12.stp
      exact tn ⟨i - ((k + 1)), by omega, s14, ((E.set k (E.getD (k + 1) Rec0)).set (k + 1) (E.getD k Rec0)), (k + 1), rfl, (((F13.sl hs1).sl hs2).step0 D12.stp), ok15, (cJ (D12.m 2 rfl)), (D12.k q74), (D12.k q75), (cvo (by (simp)) (by (simp)) o16), mv1_step hM h3 oM oM oM hs2c hf1, by omega, rfl⟩
     ·
      have hfin := mv1_end (show Mv1 D E a b (i - 1) by rw [show i - 1 = k by omega]; exact hM) oM oM hs2c hf1 hg1; have hsgF := hM.sg
      refine wp_exit (tx (tx (bx (tn (wp_ret (tr ?_))))))
      exact retL0 rfl ok12 F12 ⟨E, trivial, (cvo (by (simp)) (by (simp)) o12), (by exact hsgF), (by exact hfin)⟩
 ·
  refine wp_skip (tn (wp_seq (wp_seq ?_)))
  refine gI a1 s1 ok1 (gM q4 (gM q3 (gT (Ty.nat (b - m)) rfl (fun A B G H I d0 d1 => rP ((y_sub (eI d0) (eI d1) wX).mono (fun τ _ h => cvi (σ := τ) oM h))) (gS rfl (fun A B G H I d0 => rP (y_eql (eI d0) rfl)) (gE ok1 fun a18 s15 ok16 D13 => ?_))))); have F17 := F1.step0 D13.stp; have q80 := D13.k q1; have q81 := D13.k q2; have q82 := D13.k q3; have q83 := D13.k q4; have q84 := D13.k q5; have o17 := Own.k0 o1 D13.stp; refine tn ?_
  refine cond_p (p := ((((b - m) : Nat) : Int) = (1 : Int))) (D13.m 3 rfl) (fun c5 => ?_) (fun c5 => ?_)
  ·
   have hm1 : b = m + 1 := oM
   refine wp_seq ?_
   refine gI a18 s15 ok16 (gM q81 (gB 0 (gE ok16 fun a19 s16 ok17 D14 => ?_))); have q87 := D14.k q82; have o18 := Own.k0 o17 D14.stp; refine tn (wp_seq ?_)
   refine gI a19 s16 ok17 (gM q87 (gB 0 (gE ok17 fun a20 s17 ok18 D15 => ?_))); have o19 := Own.k0 o18 D15.stp; refine tn (wp_seq (wp_block ?_))
   refine loop (fun n5 a21 w5 => ∃ (t5 : GW) (i : Nat) (j : Nat), t5.w = w5 ∧ FromL [40] σ t5 ∧ Ok 220 [] a21 ∧ At (Ty.nat i) t5 a21 (.tmp 14) ∧ At (Ty.nat j) t5 a21 (.tmp 15) ∧ At (Ty.val dv) t5 a21 (.tmp 0) ∧ At (Ty.nat m) t5 a21 (.tmp 2) ∧ At (Ty.val (Value.func (Fn.func 20) #[] #[])) t5 a21 (.tmp 4) ∧ Own t5 40 42 4 dv (List.length D) (List.flatMap recC D) ∧ (a ≤ i ∧ i ≤ j ∧ j ≤ m) ∧ (i = a ∨ (D.getD (i - 1) Rec0).1 ≤ (D.getD m Rec0).1) ∧ (j = m ∨ (D.getD m Rec0).1 < (D.getD j Rec0).1) ∧ n5 = j - i) ((m) - (a)) ?_ ?_
   ·
    exact ⟨s17, a, m, rfl, ((F17.step0 D14.stp).step0 D15.stp), ok18, (cJ (D15.k (D14.m 1 rfl))), (cJ (D15.m 1 rfl)), (D15.k (D14.k q80)), (D15.k q87), (D15.k (D14.k q84)), o19, by omega, .inl rfl, .inl rfl, rfl⟩
   ·
    rintro n6 a22 w6 ⟨t6, i, j, rfl, F20, ok19, q95, q96, q97, q98, q99, o20, hi, hf, hg, rfl⟩
    refine wp_seq (wp_seq ?_)
    refine gI a22 t6 ok19 (gM q95 (gM q96 (gS rfl (fun A B G H I d0 d1 => rP (y_lss (eI d0) (eI d1))) (gE ok19 fun a23 s18 ok20 D16 => ?_)))); have F21 := F20.step0 D16.stp; have q100 := D16.k q95; have q101 := D16.k q96; have q102 := D16.k q97; have q103 := D16.k q98; have o21 := Own.k0 o20 D16.stp; refine tn ?_
    refine cond_p (p := (((i : Nat) : Int) < ((j : Nat) : Int))) (D16.m 2 rfl) (fun c6 => ?_) (fun c6 => ?_)
    ·
     refine wp_skip (tn (wp_block (wp_seq ?_)))
     refine gI a23 s18 ok20 (gM q100 (gM q101 (gT (Ty.nat (i + j)) rfl (fun A B G H I d0 d1 => rP ((y_add (eI d0) (eI d1) wX).mono (fun τ _ h => cN (σ := τ) h))) (gT (Ty.val (Value.int .u64 (((i + j) : Nat) : Int))) rfl (fun A B G H I d0 => rP (y_conv Tryd.underlying95 (eI d0) (by exact wrap_u64 oM oM) (by rw [Tryd.underlying3]; rfl))) (gT (Ty.val (Value.int .u64 ((((i + j) / 2 : Nat)) : Int))) rfl (fun A B G H I d0 => rP (y_shr1 (eI d0) rfl)) (gT (Ty.int ((((i + j) / 2 : Nat)) : Int)) rfl (fun A B G H I d0 => rP (y_conv Tryd.underlying3 (eI d0) (by exact w64 oM oM) (by rw [Tryd.underlying95]; rfl))) (gB 0 (gE ok20 fun a24 s19 ok21 D17 => ?_)))))))); have q108 := D17.k q102; have q109 := D17.k q103; have q110 := D17.k (D16.k q99); have o22 := Own.k0 o21 D17.stp; have q111 := D17.m 6 rfl; refine tn (wp_seq ?_)
     refine gI a24 s19 ok21 (gM q110 (gM q108 (gM q109 (gT (Ty.val (cellPtr dv (m * 4))) rfl (fun A B G H I d0 d1 => rP (y_idxc (i := m) Tryd.underlying26 Tryd.inf42 (Own.k0 o22 G) (eI d0) (eI d1) oM)) (gT (Ty.agg [(Ty.int ((D.getD m Rec0)).1), (Ty.int ((D.getD m Rec0)).2.1), (Ty.val (Value.string ((D.getD m Rec0)).2.2.1)), (Ty.lst Ty.str ((D.getD m Rec0)).2.2.2)]) rfl (fun A B G H I d0 => rP (yld_agg (recs_drop (xs := D) (i := m) oM) (own_loadst Tryd.underlying42 Tryd.inf42 (by rw [recs_len]; omega) dE (Own.k0 o22 G) (eI d0)))) (gM q108 (gM q111 (gT (Ty.val (cellPtr dv (((i + j) / 2) * 4))) rfl (fun A B G H I d0 d1 => rP (y_idxc (i := ((i + j) / 2)) Tryd.underlying26 Tryd.inf42 (Own.k0 o22 G) (eI d0) (eI d1) oM)) (gT (Ty.agg [(Ty.int ((D.getD ((i + j) / 2) Rec0)).1), (Ty.int ((D.getD ((i + j) / 2) Rec0)).2.1), (Ty.val (Value.string ((D.getD ((i + j) / 2) Rec0)).2.2.1)), (Ty.lst Ty.str ((D.getD ((i + j) / 2) Rec0)).2.2.2)]) rfl (fun A B G H I d0 => rP (yld_agg (recs_drop (xs := D) (i := ((i + j) / 2)) oM) (own_loadst Tryd.underlying42 Tryd.inf42 (by rw [recs_len]; omega) dE (Own.k0 o22 G) (eI d0)))) ?_)))))))))
     refine gT (Ty.int ((((D.getD m Rec0)).1) - (((D.getD ((i + j) / 2) Rec0)).1))) rfl (fun A B G H I d0 d1 d2 => rP (y_callz #[A.eval (.tmp 96), A.eval (.tmp 100)] (eI d0) Tryd.func20 rfl rfl (by simp only [List.map_toArray, List.map_cons, List.map_nil]) (cmp_fn (((D.getD m Rec0)).1) (((D.getD m Rec0)).2.1) (((D.getD ((i + j) / 2) Rec0)).1) (((D.getD ((i + j) / 2) Rec0)).2.1) (((D.getD m Rec0)).2.2.1) (((D.getD ((i + j) / 2) Rec0)).2.2.1) (((D.getD m Rec0)).2.2.2) (((D.getD ((i + j) / 2) Rec0)).2.2.2) _ _ _ (eI d1) (eI d2) (by first | exact hdF _ | exact hdE _ | exact hday _ | omega | assumption) (by first | exact hdF _ | exact hdE _ | exact hday _ | omega | assumption)))) (gS rfl (fun A B G H I d0 => rP (y_lss (eI d0) rfl)) (gS rfl (fun A B G H I d0 => rP (y_not (eI d0))) (gE ok21 fun a25 s20 ok22 D18 => ?_))); have F23 := (F21.step0 D17.stp).step0 D18.stp; have q114 := D18.k q108; have q115 := D18.k q109; have q116 := D18.k q110; have q117 := D18.k q111; have o23 := Own.k0 o22 D18.stp; refine tn ?_
     refine cond_t (D18.m 11 rfl) (fun c7 => ?_) (fun c7 => ?_)
     ·
      have hle : (D.getD ((i + j) / 2 + 1 - 1) Rec0).1 ≤ (D.getD m Rec0).1 := (by rw [show (i + j) / 2 + 1 - 1 = (i + j) / 2 by omega]; simp only [Bool.not_eq_true', decide_eq_false_iff_not] at c7; omega)
      refine gI a25 s20 ok22 (gM q117 (gT (Ty.nat (((i + j) / 2) + 1)) rfl (fun A B G H I d0 => rP ((y_add (eI d0) rfl wX).mono (fun τ _ h => cN (σ := τ) h))) (gB 0 (gE ok22 fun a26 s21 ok23 D19 => ?_)))); have o24 := Own.k0 o23 D19.stp; refine bn ?_
      exact tn ⟨j - (((i + j) / 2 + 1)), by omega, s21, ((i + j) / 2 + 1), j, rfl, (F23.step0 D19.stp), ok23, (cJ (D19.m 2 rfl)), (D19.k (D18.k (D17.k q101))), (D19.k q114), (D19.k q115), (D19.k q116), o24, by omega, .inr hle, hg, rfl⟩
     ·
      have hlt : (D.getD m Rec0).1 < (D.getD ((i + j) / 2) Rec0).1 := (by simp only [Bool.not_eq_false', decide_eq_true_eq] at c7; omega)
      refine gI a25 s20 ok22 (gM q117 (gB 0 (gE ok22 fun a27 s22 ok24 D20 => ?_))); have o25 := Own.k0 o23 D20.stp; refine bn ?_
      exact tn ⟨(((i + j) / 2)) - i, by omega, s22, i, ((i + j) / 2), rfl, (F23.step0 D20.stp), ok24, (D20.k (D18.k (D17.k q100))), (cJ (D20.m 1 rfl)), (D20.k q114), (D20.k q115), (D20.k q116), o25, by omega, hf, .inr hlt, rfl⟩
    ·
     have hij : i = j := oM; have hg2 : i = m ∨ (rD D m).1 < (rD D i).1 := (by rw [← hij] at hg; exact hg)
     refine wp_exit (tx (tx (bx (tn (wp_seq (wp_seq ?_))))))
     refine gI a23 s18 ok20 (gM q103 (gB 0 (gE ok20 fun a28 s23 ok25 D21 => ?_))); have o26 := Own.k0 o21 D21.stp; refine tn (wp_block ?_)
     refine loop (fun n7 a29 w7 => ∃ (t7 : GW) (E : List Rec) (k : Nat), t7.w = w7 ∧ FromL [40] σ t7 ∧ Ok 220 [] a29 ∧ At (Ty.nat k) t7 a29 (.tmp 17) ∧ At (Ty.nat i) t7 a29 (.tmp 14) ∧ At (Ty.val dv) t7 a29 (.tmp 0) ∧ Own t7 40 42 4 dv (List.length E) (List.flatMap recC E) ∧ (Mv2 D E a m k) ∧ (i ≤ k ∧ k ≤ m) ∧ n7 = k + 1 - i) ((m) + 1 - i) ?_ ?_
     ·
      exact ⟨s23, D, m, rfl, (F21.step0 D21.stp), ok25, (cJ (D21.m 1 rfl)), (D21.k q100), (D21.k q102), (cvo (by (simp)) (by (simp)) o26), mv2_0, by omega, rfl⟩
     ·
      rintro n8 a30 w8 ⟨t8, E, k, rfl, F27, ok26, q132, q133, q134, o27, hM, hk, rfl⟩
      have hEl_ := hM.sg.len
      refine wp_seq (wp_seq ?_)
      refine gI a30 t8 ok26 (gM q132 (gM q133 (gS rfl (fun A B G H I d0 d1 => rP (y_gtr (eI d0) (eI d1))) (gE ok26 fun a31 s24 ok27 D22 => ?_)))); have F28 := F27.step0 D22.stp; have q135 := D22.k q132; have q137 := D22.k q134; have o28 := Own.k0 o27 D22.stp; refine tn ?_
      refine cond_p (p := (((i : Nat) : Int) < ((k : Nat) : Int))) (D22.m 2 rfl) (fun c8 => ?_) (fun c8 => ?_)
      ·
       refine wp_skip (tn (wp_seq (wp_block ?_)))
       have at2 : At0 dv (List.length E) := Own.at0 o28
       refine reg9 (a := a31) (σ := s24) rfl 16 15 [40] dE (Pr.st 40 42 4 dv (List.length E) (setL (List.flatMap recC E) (k * 4) (recC ((E.getD (k - 1) Rec0))))) (fun i_ => List.getD [(Ty.val dv), (Ty.nat k), (Ty.val dv), (Ty.nat k), (Ty.nat (k - 1)), (Ty.val dv), (Ty.nat k), (Ty.nat (k - 1)), (Ty.val (cellPtr dv ((k - 1) * 4))), (Ty.agg [(Ty.int ((E.getD (k - 1) Rec0)).1), (Ty.int ((E.getD (k - 1) Rec0)).2.1), (Ty.val (Value.string ((E.getD (k - 1) Rec0)).2.2.1)), (Ty.lst Ty.str ((E.getD (k - 1) Rec0)).2.2.2)]), (Ty.val dv), (Ty.nat k), (Ty.val (cellPtr dv (k * 4))), (Ty.agg [(Ty.int ((E.getD k Rec0)).1), (Ty.int ((E.getD k Rec0)).2.1), (Ty.val (Value.string ((E.getD k Rec0)).2.2.1)), (Ty.lst Ty.str ((E.getD k Rec0)).2.2.2)]), (Ty.val (cellPtr dv (k * 4))), Ty.any] i_ Ty.any) ok27 rfl dE rfl dE rfl rfl ⟨?_, ?_, ?_, ?_, ?_, ?_, ?_, ?_, ?_, ?_, ?_, ?_, ?_, ?_, ?_, ?_, trivial⟩ ?_
       · refine ob9e dE (by rfl) ?_
         intro A B G H I
         exact rP (y_move (kp (I 0 rfl) G q137))
       · refine ob9e dE (by rfl) ?_
         intro A B G H I
         exact rP (y_move (kp (I 17 rfl) G q135))
       · refine ob9 dE (by rfl) ?_
         intro A B G H I d0
         exact rP (y_move (kpL G dE (I 0 rfl) q137))
       · refine ob9 dE (by rfl) ?_
         intro A B G H I d0
         exact rP (y_move (kpL G dE (I 17 rfl) q135))
       · refine ob9 dE (by rfl) ?_
         intro A B G H I d0 d1
         have e3 : At (Ty.nat k) B A (.tmp 116) := d0 rfl
         exact rP ((y_sub e3 rfl wX).mono (fun τ _ h => cvi (σ := τ) oM h))
       · refine ob9e dE (by rfl) ?_
         intro A B G H I
         exact rP (y_move (kp (I 0 rfl) G q137))
       · refine ob9e dE (by rfl) ?_
         intro A B G H I
         exact rP (y_move (kp (I 17 rfl) G q135))
       · refine ob9e dE (by rfl) ?_
         intro A B G H I d0
         have e6 : At (Ty.nat k) B A (.tmp 119) := d0 rfl
         exact rP ((y_sub e6 rfl wX).mono (fun τ _ h => cvi (σ := τ) oM h))
       · refine ob9e dE (by rfl) ?_
         intro A B G H I d0 d1
         have e5 : At (Ty.val dv) B A (.tmp 118) := d0 rfl
         have e7 : At (Ty.nat (k - 1)) B A (.tmp 120) := d1 rfl
         exact rP (y_indexFc (i := (k - 1)) Tryd.underlying26 Tryd.inf42 at2 e5 e7 oM)
       · refine ob9e dE (by rfl) ?_
         intro A B G H I d0
         have e8 : At (Ty.val (cellPtr dv ((k - 1) * 4))) B A (.tmp 121) := d0 rfl
         exact rP (yld_agg (recs_drop (xs := E) (i := (k - 1)) oM) (own_loadst Tryd.underlying42 Tryd.inf42 (by rw [recs_len]; omega) dE (Own.k0 o28 G) e8))
       · refine ob9e dE (by rfl) ?_
         intro A B G H I
         exact rP (y_move (kp (I 0 rfl) G q137))
       · refine ob9e dE (by rfl) ?_
         intro A B G H I
         exact rP (y_move (kp (I 17 rfl) G q135))
       · refine ob9e dE (by rfl) ?_
         intro A B G H I d0 d1
         have e10 : At (Ty.val dv) B A (.tmp 123) := d0 rfl
         have e11 : At (Ty.nat k) B A (.tmp 124) := d1 rfl
         exact rP (y_indexFc (i := k) Tryd.underlying26 Tryd.inf42 at2 e10 e11 oM)
       · refine ob9e dE (by rfl) ?_
         intro A B G H I d0
         have e12 : At (Ty.val (cellPtr dv (k * 4))) B A (.tmp 125) := d0 rfl
         exact rP (yld_agg (recs_drop (xs := E) (i := k) oM) (own_loadst Tryd.underlying42 Tryd.inf42 (by rw [recs_len]; omega) dE (Own.k0 o28 G) e12))
       · refine ob9e dE (by rfl) ?_
         intro A B G H I d0 d1 d2 d3 d4 d5 d6 d7 d8 d9 d10 d11 d12 d13 d14 d15
         have e0 : At (Ty.val dv) B A (.tmp 113) := d0 rfl
         have e1 : At (Ty.nat k) B A (.tmp 114) := d1 rfl
         exact rP (y_indexFc (i := k) Tryd.underlying26 Tryd.inf42 at2 e0 e1 oM)
       · refine obR3w rfl ?_
         intro A B G H I d0 d1 d2 d3 d4 d5 d6 d7 d8 d9 d10 d11 d12 d13 d14 d15
         have e14 : At (Ty.val (cellPtr dv (k * 4))) B A (.tmp 127) := d0 rfl
         have e9 : At (Ty.agg [(Ty.int ((E.getD (k - 1) Rec0)).1), (Ty.int ((E.getD (k - 1) Rec0)).2.1), (Ty.val (Value.string ((E.getD (k - 1) Rec0)).2.2.1)), (Ty.lst Ty.str ((E.getD (k - 1) Rec0)).2.2.2)]) B A (.tmp 122) := d1 rfl
         exact YldM.toL (m_storec (us := recC ((E.getD (k - 1) Rec0))) Tryd.inf42 dE (Own.k0 o28 G) e14 (by rw [recs_len]; show _ + 4 ≤ _; omega) (show 0 < 4 by decide) e9 (recOne _))
       intro a32 s25 D23; have ok28 := D23.ok; have F29 := F28.stepL D23.stp dE
       have q139 : At (Ty.nat k) s25 a32 (.tmp 17) := D23.kt dE q135 rfl
       have q140 : At (Ty.nat i) s25 a32 (.tmp 14) := D23.kt dE (D22.k q133) rfl
       have q141 : At (Ty.val dv) s25 a32 (.tmp 0) := D23.kt dE q137 rfl
       have q142 : At (Ty.val dv) s25 a32 (.tmp 115) := D23.done 2 dE
       have q143 : At (Ty.nat (k - 1)) s25 a32 (.tmp 117) := D23.done 4 dE
       have q144 : At (Ty.agg [(Ty.int ((E.getD k Rec0)).1), (Ty.int ((E.getD k Rec0)).2.1), (Ty.val (Value.string ((E.getD k Rec0)).2.2.1)), (Ty.lst Ty.str ((E.getD k Rec0)).2.2.2)]) s25 a32 (.tmp 126) := D23.done 13 dE
       have o29 : Own s25 40 42 4 dv (List.length (E.set k ((E.getD (k - 1) Rec0)))) (List.flatMap recC (E.set k ((E.getD (k - 1) Rec0)))) := (cvo (by simp only [List.length_set]) (recs_set oM) D23.donep)
       refine tL (R := (fun v τ => Pr.has (Ty.pr (Ty.val (cellPtr dv ((k - 1) * 4)))) τ v)) ok28 (Yld.toL (y_idxc (i := (k - 1)) Tryd.underlying26 Tryd.inf42 o29 q142 q143 (by simp only [List.length_set]; omega))) fun a33 s26 hs3 ok29 r3 sm2 => ?_
       have q150 : At (Ty.val (cellPtr dv ((k - 1) * 4))) s26 a33 (.tmp 128) := r3
       clear r3
       refine tailL0 (L := [40]) (R := (fun _ τ => Own τ 40 42 4 dv (List.length (E.set k ((E.getD (k - 1) Rec0)))) (setL (List.flatMap recC (E.set k ((E.getD (k - 1) Rec0)))) ((k - 1) * 4) (recC ((E.getD k Rec0)))))) rfl rfl (YldM.toL (m_storec (us := recC ((E.getD k Rec0))) Tryd.inf42 dE (Own.kl o29 hs3) q150 (by rw [recs_len]; show _ + 4 ≤ _; simp only [List.length_set]; omega) (show 0 < 4 by decide) (kq hs3 sm2 126 q144) (recOne _))) (fun v2 s27 hs4 r4 => ?_)
       have q151 := kpL hs4 dE rfl (kq hs3 sm2 17 q139); have q152 := kpL hs4 dE rfl (kq hs3 sm2 14 q140); have q153 := kpL hs4 dE rfl (kq hs3 sm2 0 q141)
       have o31 : Own s27 40 42 4 dv (List.length ((E.set k ((E.getD (k - 1) Rec0))).set (k - 1) ((E.getD k Rec0)))) (List.flatMap recC ((E.set k ((E.getD (k - 1) Rec0))).set (k - 1) ((E.getD k Rec0)))) := (cvo (by simp only [List.length_set]) (recs_set (by simp only [List.length_set]; omega)) r4)
       clear r4; refine wpList_nil (bn (tn ?_))
       refine gI a33 s27 ok29 (gM q151 (gT (Ty.nat (k - 1)) rfl (fun A B G H I d0 => rP ((y_sub (eI d0) rfl wX).mono (fun τ _ h => cvi (σ := τ) oM h))) (gB 0 (gE ok29 fun a34 s28 ok30 D24 => ?_)))); have o32 := Own.k0 o31 D24.stp
       exact tn ⟨((k - 1)) + 1 - i, by omega, s28, ((E.set k (E.getD (k - 1) Rec0)).set (k - 1) (E.getD k Rec0)), (k - 1), rfl, (((F29.sl hs3).sl hs4).step0 D24.stp), ok30, (cJ (D24.m 2 rfl)), (D24.k q152), (D24.k q153), (cvo (by (simp)) (by (simp)) o32), mv2_step hM oM oM oM oM hs1 hg2, by omega, rfl⟩
      ·
       have hfin := mv2_end (show Mv2 D E a m i by rw [show i = k by omega]; exact hM) oM oM hs1 hg2 hf; have hsgF := hM.sg; rw [← hm1] at hfin hsgF
       refine wp_exit (tx (tx (bx (tn (wp_ret (tr ?_))))))
       exact retL0 rfl ok27 F28 ⟨E, trivial, (cvo (by (simp)) (by (simp)) o28), (by exact hsgF), (by exact hfin)⟩
  ·
   refine wp_skip (tn (wp_seq ?_))
   refine gI a18 s15 ok16 (gM q81 (gM q83 (gT (Ty.nat (a + b)) rfl (fun A B G H I d0 d1 => rP ((y_add (eI d0) (eI d1) wX).mono (fun τ _ h => cN (σ := τ) h))) (gT (Ty.val (Value.int .u64 (((a + b) : Nat) : Int))) rfl (fun A B G H I d0 => rP (y_conv Tryd.underlying95 (eI d0) (by exact wrap_u64 oM oM) (by rw [Tryd.underlying3]; rfl))) (gT (Ty.val (Value.int .u64 ((((a + b) / 2 : Nat)) : Int))) rfl (fun A B G H I d0 => rP (y_shr1 (eI d0) rfl)) (gT (Ty.int ((((a + b) / 2 : Nat)) : Int)) rfl (fun A B G H I d0 => rP (y_conv Tryd.underlying3 (eI d0) (by exact w64 oM oM) (by rw [Tryd.underlying95]; rfl))) (gB 0 (gE ok16 fun a35 s29 ok31 D25 => ?_)))))))); have q160 := D25.k q82; have o33 := Own.k0 o17 D25.stp
   have q164 : At (Ty.nat mid) s29 a35 (.tmp 18) := (cvi (by (omega)) (D25.m 6 rfl))
   refine tn (wp_seq ?_)
   refine gI a35 s29 ok31 (gM q164 (gM q160 (gT (Ty.nat (mid + m)) rfl (fun A B G H I d0 d1 => rP ((y_add (eI d0) (eI d1) wX).mono (fun τ _ h => cN (σ := τ) h))) (gB 0 (gE ok31 fun a36 s30 ok32 D26 => ?_))))); have o34 := Own.k0 o33 D26.stp; refine tn (wp_seq ?_)
   refine gI a36 s30 ok32 (gC (Ty.int (0 : Int)) (gC (Ty.int (0 : Int)) (gE ok32 fun a37 s31 ok33 D27 => ?_))); have q174 := D27.k (D26.k q160); have q177 := D27.k (D26.k q164); have o35 := Own.k0 o34 D27.stp; refine tn (wp_seq (wp_seq ?_))
   refine gI a37 s31 ok33 (gM q174 (gM q177 (gS rfl (fun A B G H I d0 d1 => rP (y_gtr (eI d0) (eI d1))) (gE ok33 fun a38 s32 ok34 D28 => ?_)))); have F36 := (((F17.step0 D25.stp).step0 D26.stp).step0 D27.stp).step0 D28.stp; have q179 := D28.k (D27.k (D26.k (D25.k q80))); have q180 := D28.k (D27.k (D26.k (D25.k q81))); have q181 := D28.k q174; have q182 := D28.k (D27.k (D26.k (D25.k q83))); have q183 := D28.k (D27.k (D26.k (D25.k q84))); have q184 := D28.k q177; have q185 := D28.k (D27.k (D26.m 3 rfl)); have o36 := Own.k0 o35 D28.stp; refine tn ?_
   refine Go.KL.join_then (Q' := fun a39 w9 => ∃ (t9 : GW) (s0 : Nat) (r0 : Nat), t9.w = w9 ∧ FromL [40] σ t9 ∧ Ok 220 [] a39 ∧ At (Ty.nat s0) t9 a39 (.tmp 20) ∧ At (Ty.nat r0) t9 a39 (.tmp 21) ∧ At (Ty.val dv) t9 a39 (.tmp 0) ∧ At (Ty.nat a) t9 a39 (.tmp 1) ∧ At (Ty.nat m) t9 a39 (.tmp 2) ∧ At (Ty.nat b) t9 a39 (.tmp 3) ∧ At (Ty.val (Value.func (Fn.func 20) #[] #[])) t9 a39 (.tmp 4) ∧ At (Ty.nat mid) t9 a39 (.tmp 18) ∧ At (Ty.nat (mid + m)) t9 a39 (.tmp 19) ∧ Own t9 40 42 4 dv (List.length D) (List.flatMap recC D) ∧ ((mid < m ∧ s0 + b = mid + m ∧ r0 = mid) ∨ (m ≤ mid ∧ s0 = a ∧ r0 = m)) ∧ True) ?_ ?_
   ·
    refine cond_p (p := (((mid : Nat) : Int) < ((m : Nat) : Int))) (D28.m 2 rfl) (fun c9 => ?_) (fun c9 => ?_)
    ·
     refine wp_seq ?_
     refine gI a38 s32 ok34 (gM q185 (gM q182 (gT (Ty.nat ((mid + m) - b)) rfl (fun A B G H I d0 d1 => rP ((y_sub (eI d0) (eI d1) wX).mono (fun τ _ h => cvi (σ := τ) oM h))) (gB 0 (gE ok34 fun a40 s33 ok35 D29 => ?_))))); have q192 := D29.k q184; have o37 := Own.k0 o36 D29.stp; refine tn ?_
     refine gI a40 s33 ok35 (gM q192 (gB 0 (gE ok35 fun a41 s34 ok36 D30 => ?_))); have o38 := Own.k0 o37 D30.stp
     exact tn ⟨s34, (mid + m - b), mid, rfl, ((F36.step0 D29.stp).step0 D30.stp), ok36, (cJ (D30.k (D29.m 3 rfl))), (cJ (D30.m 1 rfl)), (D30.k (D29.k q179)), (D30.k (D29.k q180)), (D30.k (D29.k q181)), (D30.k (D29.k q182)), (D30.k (D29.k q183)), (D30.k q192), (D30.k (D29.k q185)), o38, by omega, trivial⟩
    ·
     refine wp_seq ?_
     refine gI a38 s32 ok34 (gM q180 (gB 0 (gE ok34 fun a42 s35 ok37 D31 => ?_))); have q206 := D31.k q181; have o39 := Own.k0 o36 D31.stp; refine tn ?_
     refine gI a42 s35 ok37 (gM q206 (gB 0 (gE ok37 fun a43 s36 ok38 D32 => ?_))); have o40 := Own.k0 o39 D32.stp
     exact tn ⟨s36, a, m, rfl, ((F36.step0 D31.stp).step0 D32.stp), ok38, (cJ (D32.k (D31.m 1 rfl))), (cJ (D32.m 1 rfl)), (D32.k (D31.k q179)), (D32.k (D31.k q180)), (D32.k q206), (D32.k (D31.k q182)), (D32.k (D31.k q183)), (D32.k (D31.k q184)), (D32.k (D31.k q185)), o40, by omega, trivial⟩
   ·
    rintro a44 w10 ⟨t10, s0, r0, rfl, F41, ok39, q221, q222, q223, q224, q225, q226, q227, q228, q229, o41, hlh, -⟩
    refine wp_seq ?_
    refine gI a44 t10 ok39 (gM q229 (gT (Ty.nat ((mid + m) - 1)) rfl (fun A B G H I d0 => rP ((y_sub (eI d0) rfl wX).mono (fun τ _ h => cvi (σ := τ) oM h))) (gB 0 (gE ok39 fun a45 s37 ok40 D33 => ?_)))); have o42 := Own.k0 o41 D33.stp; refine tn (wp_seq (wp_block ?_))
    refine loop (fun n9 a46 w11 => ∃ (t11 : GW) (s : Nat) (r : Nat), t11.w = w11 ∧ FromL [40] σ t11 ∧ Ok 220 [] a46 ∧ At (Ty.nat s) t11 a46 (.tmp 20) ∧ At (Ty.nat r) t11 a46 (.tmp 21) ∧ At (Ty.val dv) t11 a46 (.tmp 0) ∧ At (Ty.nat a) t11 a46 (.tmp 1) ∧ At (Ty.nat m) t11 a46 (.tmp 2) ∧ At (Ty.nat b) t11 a46 (.tmp 3) ∧ At (Ty.val (Value.func (Fn.func 20) #[] #[])) t11 a46 (.tmp 4) ∧ At (Ty.nat mid) t11 a46 (.tmp 18) ∧ At (Ty.nat (mid + m)) t11 a46 (.tmp 19) ∧ At (Ty.nat ((mid + m) - 1)) t11 a46 (.tmp 22) ∧ Own t11 40 42 4 dv (List.length D) (List.flatMap recC D) ∧ (s0 ≤ s ∧ s ≤ r ∧ r ≤ r0) ∧ (s = s0 ∨ (D.getD (s - 1) Rec0).1 ≤ (D.getD (mid + m - s) Rec0).1) ∧ (r = r0 ∨ (D.getD (mid + m - 1 - r) Rec0).1 < (D.getD r Rec0).1) ∧ n9 = r - s) ((r0) - (s0)) ?_ ?_
    ·
     exact ⟨s37, s0, r0, rfl, (F41.step0 D33.stp), ok40, (cJ (D33.k q221)), (cJ (D33.k q222)), (D33.k q223), (D33.k q224), (D33.k q225), (D33.k q226), (D33.k q227), (D33.k q228), (D33.k q229), (D33.m 2 rfl), o42, by omega, .inl rfl, .inl rfl, rfl⟩
    ·
     rintro n10 a47 w12 ⟨t12, s, r, rfl, F43, ok41, q240, q241, q242, q243, q244, q245, q246, q247, q248, q249, o43, hsr, hf, hg, rfl⟩
     refine wp_seq (wp_seq ?_)
     refine gI a47 t12 ok41 (gM q240 (gM q241 (gS rfl (fun A B G H I d0 d1 => rP (y_lss (eI d0) (eI d1))) (gE ok41 fun a48 s38 ok42 D34 => ?_)))); have F44 := F43.step0 D34.stp; have q250 := D34.k q240; have q251 := D34.k q241; have q252 := D34.k q242; have q253 := D34.k q243; have q254 := D34.k q244; have q255 := D34.k q245; have q256 := D34.k q246; have q257 := D34.k q247; have q258 := D34.k q248; have o44 := Own.k0 o43 D34.stp; refine tn ?_
     refine cond_p (p := (((s : Nat) : Int) < ((r : Nat) : Int))) (D34.m 2 rfl) (fun c10 => ?_) (fun c10 => ?_)
     ·
      refine wp_skip (tn (wp_block (wp_seq ?_)))
      refine gI a48 s38 ok42 (gM q250 (gM q251 (gT (Ty.nat (s + r)) rfl (fun A B G H I d0 d1 => rP ((y_add (eI d0) (eI d1) wX).mono (fun τ _ h => cN (σ := τ) h))) (gT (Ty.val (Value.int .u64 (((s + r) : Nat) : Int))) rfl (fun A B G H I d0 => rP (y_conv Tryd.underlying95 (eI d0) (by exact wrap_u64 oM oM) (by rw [Tryd.underlying3]; rfl))) (gT (Ty.val (Value.int .u64 ((((s + r) / 2 : Nat)) : Int))) rfl (fun A B G H I d0 => rP (y_shr1 (eI d0) rfl)) (gT (Ty.int ((((s + r) / 2 : Nat)) : Int)) rfl (fun A B G H I d0 => rP (y_conv Tryd.underlying3 (eI d0) (by exact w64 oM oM) (by rw [Tryd.underlying95]; rfl))) (gB 0 (gE ok42 fun a49 s39 ok43 D35 => ?_)))))))); have q263 := D35.k q252; have q267 := D35.k q256; have q270 := D35.k (D34.k q249); have o45 := Own.k0 o44 D35.stp; have q271 := D35.m 6 rfl; refine tn (wp_seq ?_)
      refine gI a49 s39 ok43 (gM q267 (gM q263 (gM q270 (gM q271 (gT (Ty.nat (((mid + m) - 1) - ((s + r) / 2))) rfl (fun A B G H I d0 d1 => rP ((y_sub (eI d0) (eI d1) wX).mono (fun τ _ h => cvi (σ := τ) oM h))) (gT (Ty.val (cellPtr dv ((((mid + m) - 1) - ((s + r) / 2)) * 4))) rfl (fun A B G H I d0 d1 => rP (y_idxc (i := (((mid + m) - 1) - ((s + r) / 2))) Tryd.underlying26 Tryd.inf42 (Own.k0 o45 G) (eI d0) (eI d1) oM)) (gT (Ty.agg [(Ty.int ((D.getD (((mid + m) - 1) - ((s + r) / 2)) Rec0)).1), (Ty.int ((D.getD (((mid + m) - 1) - ((s + r) / 2)) Rec0)).2.1), (Ty.val (Value.string ((D.getD (((mid + m) - 1) - ((s + r) / 2)) Rec0)).2.2.1)), (Ty.lst Ty.str ((D.getD (((mid + m) - 1) - ((s + r) / 2)) Rec0)).2.2.2)]) rfl (fun A B G H I d0 => rP (yld_agg (recs_drop (xs := D) (i := (((mid + m) - 1) - ((s + r) / 2))) oM) (own_loadst Tryd.underlying42 Tryd.inf42 (by rw [recs_len]; omega) dE (Own.k0 o45 G) (eI d0)))) (gM q263 (gM q271 (gT (Ty.val (cellPtr dv (((s + r) / 2) * 4))) rfl (fun A B G H I d0 d1 => rP (y_idxc (i := ((s + r) / 2)) Tryd.underlying26 Tryd.inf42 (Own.k0 o45 G) (eI d0) (eI d1) oM)) (gT (Ty.agg [(Ty.int ((D.getD ((s + r) / 2) Rec0)).1), (Ty.int ((D.getD ((s + r) / 2) Rec0)).2.1), (Ty.val (Value.string ((D.getD ((s + r) / 2) Rec0)).2.2.1)), (Ty.lst Ty.str ((D.getD ((s + r) / 2) Rec0)).2.2.2)]) rfl (fun A B G H I d0 => rP (yld_agg (recs_drop (xs := D) (i := ((s + r) / 2)) oM) (own_loadst Tryd.underlying42 Tryd.inf42 (by rw [recs_len]; omega) dE (Own.k0 o45 G) (eI d0)))) ?_)))))))))))
      refine gT (Ty.int ((((D.getD (((mid + m) - 1) - ((s + r) / 2)) Rec0)).1) - (((D.getD ((s + r) / 2) Rec0)).1))) rfl (fun A B G H I d0 d1 d2 => rP (y_callz #[A.eval (.tmp 164), A.eval (.tmp 168)] (eI d0) Tryd.func20 rfl rfl (by simp only [List.map_toArray, List.map_cons, List.map_nil]) (cmp_fn (((D.getD (((mid + m) - 1) - ((s + r) / 2)) Rec0)).1) (((D.getD (((mid + m) - 1) - ((s + r) / 2)) Rec0)).2.1) (((D.getD ((s + r) / 2) Rec0)).1) (((D.getD ((s + r) / 2) Rec0)).2.1) (((D.getD (((mid + m) - 1) - ((s + r) / 2)) Rec0)).2.2.1) (((D.getD ((s + r) / 2) Rec0)).2.2.1) (((D.getD (((mid + m) - 1) - ((s + r) / 2)) Rec0)).2.2.2) (((D.getD ((s + r) / 2) Rec0)).2.2.2) _ _ _ (eI d1) (eI d2) (by first | exact hdF _ | exact hdE _ | exact hday _ | omega | assumption) (by first | exact hdF _ | exact hdE _ | exact hday _ | omega | assumption)))) (gS rfl (fun A B G H I d0 => rP (y_lss (eI d0) rfl)) (gS rfl (fun A B G H I d0 => rP (y_not (eI d0))) (gE ok43 fun a50 s40 ok44 D36 => ?_))); have F46 := (F44.step0 D35.stp).step0 D36.stp; have q274 := D36.k q263; have q275 := D36.k (D35.k q253); have q276 := D36.k (D35.k q254); have q277 := D36.k (D35.k q255); have q278 := D36.k q267; have q279 := D36.k (D35.k q257); have q280 := D36.k (D35.k q258); have q281 := D36.k q270; have q282 := D36.k q271; have o46 := Own.k0 o45 D36.stp; refine tn ?_
      refine cond_t (D36.m 13 rfl) (fun c11 => ?_) (fun c11 => ?_)
      ·
       have hle : (D.getD ((s + r) / 2) Rec0).1 ≤ (D.getD (mid + m - 1 - (s + r) / 2) Rec0).1 := (by simp only [Bool.not_eq_true', decide_eq_false_iff_not] at c11; omega)
       refine gI a50 s40 ok44 (gM q282 (gT (Ty.nat (((s + r) / 2) + 1)) rfl (fun A B G H I d0 => rP ((y_add (eI d0) rfl wX).mono (fun τ _ h => cN (σ := τ) h))) (gB 0 (gE ok44 fun a51 s41 ok45 D37 => ?_)))); have o47 := Own.k0 o46 D37.stp; refine bn ?_
       exact tn ⟨r - (((s + r) / 2 + 1)), by omega, s41, ((s + r) / 2 + 1), r, rfl, (F46.step0 D37.stp), ok45, (cJ (D37.m 2 rfl)), (D37.k (D36.k (D35.k q251))), (D37.k q274), (D37.k q275), (D37.k q276), (D37.k q277), (D37.k q278), (D37.k q279), (D37.k q280), (D37.k q281), o47, by omega, .inr (by rw [show (s + r) / 2 + 1 - 1 = (s + r) / 2 by omega, show mid + m - ((s + r) / 2 + 1) = mid + m - 1 - (s + r) / 2 by omega]; exact hle), hg, rfl⟩
      ·
       have hlt : (D.getD (mid + m - 1 - (s + r) / 2) Rec0).1 < (D.getD ((s + r) / 2) Rec0).1 := (by simp only [Bool.not_eq_false', decide_eq_true_eq] at c11; omega)
       refine gI a50 s40 ok44 (gM q282 (gB 0 (gE ok44 fun a52 s42 ok46 D38 => ?_))); have o48 := Own.k0 o46 D38.stp; refine bn ?_
       exact tn ⟨(((s + r) / 2)) - s, by omega, s42, s, ((s + r) / 2), rfl, (F46.step0 D38.stp), ok46, (D38.k (D36.k (D35.k q250))), (cJ (D38.m 1 rfl)), (D38.k q274), (D38.k q275), (D38.k q276), (D38.k q277), (D38.k q278), (D38.k q279), (D38.k q280), (D38.k q281), o48, by omega, hf, .inr hlt, rfl⟩
     ·
      have hC := cut_of h1 h2 hmid hs1 hs2 hlh hsr.1 oM hf (by rw [show r = s by omega] at hg; exact hg); have hH := half_of (mid := mid) h3 hC oM hs1 hs2; have hrl_ : (rotF D s m (mid + m - s)).length = D.length := by_x_len; have hsm := hC.o2; have hme := hC.o3; have heb := hC.o4; have has := hC.o1
      refine wp_exit (tx (tx (bx (tn (wp_seq ?_)))))
      refine gI a48 s38 ok42 (gM q258 (gM q250 (gT (Ty.nat ((mid + m) - s)) rfl (fun A B G H I d0 d1 => rP ((y_sub (eI d0) (eI d1) wX).mono (fun τ _ h => cvi (σ := τ) oM h))) (gB 0 (gE ok42 fun a53 s43 ok47 D39 => ?_))))); have q304 := D39.k q250; have q307 := D39.k q254; have o49 := Own.k0 o44 D39.stp
      have q312 : At (Ty.nat (mid + m - s)) s43 a53 (.tmp 24) := (cvi (by (omega)) (D39.m 3 rfl))
      refine tn (wp_seq (wp_seq ?_))
      refine gI a53 s43 ok47 (gM q304 (gM q307 (gS rfl (fun A B G H I d0 d1 => rP (y_lss (eI d0) (eI d1))) (gS rfl (fun A B G H I d0 => rP (y_move (eI d0))) (gS rfl (fun A B G H I d0 => gu H (eI d0) fun hg => y_move (kp (I 2 rfl) G q307)) (gS rfl (fun A B G H I d0 => gu H (eI d0) fun hg => y_move (kp (I 24 rfl) G q312)) (gS rfl (fun A B G H I d0 d1 d2 => gu H (eI d2) fun hg => y_lss ((ef d0 rfl).1 hg) ((ef d1 rfl).1 hg)) (gS rfl (fun A B G H I d0 d1 => rP (y_pick_and (eI d0) (eI d1) rfl)) (gE ok47 fun a54 s44 ok48 D40 => ?_))))))))); have F50 := (F44.step0 D39.stp).step0 D40.stp; have q313 := D40.k q304; have q314 := D40.k (D39.k q252); have q315 := D40.k (D39.k q253); have q317 := D40.k (D39.k q255); have q318 := D40.k (D39.k q256); have q319 := D40.k (D39.k q257); have q320 := D40.k q312; have o50 := Own.k0 o49 D40.stp; refine tn ?_
      refine Go.KL.join_then (Q' := fun a55 w13 => ∃ (t13 : GW), t13.w = w13 ∧ FromL [40] σ t13 ∧ Ok 220 [] a55 ∧ At (Ty.nat s) t13 a55 (.tmp 20) ∧ At (Ty.val dv) t13 a55 (.tmp 0) ∧ At (Ty.nat a) t13 a55 (.tmp 1) ∧ At (Ty.nat b) t13 a55 (.tmp 3) ∧ At (Ty.val (Value.func (Fn.func 20) #[] #[])) t13 a55 (.tmp 4) ∧ At (Ty.nat mid) t13 a55 (.tmp 18) ∧ At (Ty.nat (mid + m - s)) t13 a55 (.tmp 24) ∧ Own t13 40 42 4 dv (List.length (rotF D s m (mid + m - s))) (List.flatMap recC (rotF D s m (mid + m - s))) ∧ True) ?_ ?_
      ·
       refine cond_t (D40.m 7 rfl) (fun c12 => ?_) (fun c12 => ?_)
       ·
        obtain ⟨d1, d2⟩ := Bool.and_eq_true_iff.mp c12
        replace d1 := of_decide_eq_true d1
        replace d2 := of_decide_eq_true d2
        simp only [Bool.and_eq_true, decide_eq_true_eq] at c12
        refine gI a54 s44 ok48 (gM q314 (gM q313 (gM (D40.k q307) (gM q320 (gM q318 (gE2 ok48 fun a56 s45 ok49 D41 => ?_)))))); have o51 := Own.k0 o50 D41.stp
        refine tL ok49 (y_callL (L := [40]) [(40, 40)] [(40, 40)] #[a56.eval (.tmp 186), a56.eval (.tmp 187), a56.eval (.tmp 188), a56.eval (.tmp 189), a56.eval (.tmp 190)] rfl dE Tryd.func65 rfl rfl my5 (rotate_fn (dv) (D) (s) (m) ((mid + m - s)) ((Value.func (Fn.func 20) #[] #[])) _ lW _ _ _ _ _ (uL (D41.m 0 rfl)) (uL (cvi (σ := s45) oX (D41.m 1 rfl))) (uL (D41.m 2 rfl)) (uL (cvi (σ := s45) oX (D41.m 3 rfl))) (uL (D41.m 4 rfl)) (Own.ren o51 (GW.ren_lend _ _ dE rfl)) oX oX oX oX)) fun a57 s46 hs5 ok50 r5 sm3 => ?_
        obtain ⟨t14, ⟨hT1, o52⟩, B1⟩ := r5
        have o53 : Own s46 40 42 4 dv (List.length (rotF D (s) m ((mid + m - s)))) (List.flatMap recC (rotF D (s) m ((mid + m - s)))) := Own.ren o52 (B1.ren dE rfl)
        refine wpList_nil ?_
        exact tn ⟨s46, rfl, ((F50.step0 D41.stp).sl hs5), ok50, (kq hs5 sm3 20 (D41.k q313)), (kq hs5 sm3 0 (D41.k q314)), (kq hs5 sm3 1 (D41.k q315)), (kq hs5 sm3 3 (D41.k q317)), (kq hs5 sm3 4 (D41.k q318)), (kq hs5 sm3 18 (D41.k q319)), (kq hs5 sm3 24 (D41.k q320)), (cvo (by (simp)) (by (simp)) o53), trivial⟩
       ·
        have hid : s = m ∨ m = (mid + m - s) := (by simp only [Bool.and_eq_false_iff, decide_eq_false_iff_not] at c12; rcases c12 with h_ | h_; exact .inl oM; exact .inr oM)
        refine wp_skip ?_
        exact tn ⟨s44, rfl, F50, ok48, q313, q314, q315, q317, q318, q319, q320, (cvo (by (rw [rot_id hid])) (by (rw [rot_id hid])) o50), trivial⟩
      ·
       rintro a58 w14 ⟨t15, rfl, F53, ok51, q342, q343, q344, q345, q346, q347, q348, o54, -⟩
       refine wp_seq (wp_seq ?_)
       refine gI a58 t15 ok51 (gM q344 (gM q342 (gS rfl (fun A B G H I d0 d1 => rP (y_lss (eI d0) (eI d1))) (gS rfl (fun A B G H I d0 => rP (y_move (eI d0))) (gS rfl (fun A B G H I d0 => gu H (eI d0) fun hg => y_move (kp (I 20 rfl) G q342)) (gS rfl (fun A B G H I d0 => gu H (eI d0) fun hg => y_move (kp (I 18 rfl) G q347)) (gS rfl (fun A B G H I d0 d1 d2 => gu H (eI d2) fun hg => y_lss ((ef d0 rfl).1 hg) ((ef d1 rfl).1 hg)) (gS rfl (fun A B G H I d0 d1 => rP (y_pick_and (eI d0) (eI d1) rfl)) (gE ok51 fun a59 s47 ok52 D42 => ?_))))))))); have F54 := F53.step0 D42.stp; have q350 := D42.k q343; have q352 := D42.k q345; have q353 := D42.k q346; have q354 := D42.k q347; have q355 := D42.k q348; have o55 := Own.k0 o54 D42.stp; refine tn ?_
       refine Go.KL.join_then (Q' := fun a60 w15 => ∃ (t16 : GW) (E1 : List Rec), t16.w = w15 ∧ FromL [40] σ t16 ∧ Ok 220 [] a60 ∧ At (Ty.val dv) t16 a60 (.tmp 0) ∧ At (Ty.nat b) t16 a60 (.tmp 3) ∧ At (Ty.val (Value.func (Fn.func 20) #[] #[])) t16 a60 (.tmp 4) ∧ At (Ty.nat mid) t16 a60 (.tmp 18) ∧ At (Ty.nat (mid + m - s)) t16 a60 (.tmp 24) ∧ Own t16 40 42 4 dv (List.length E1) (List.flatMap recC E1) ∧ (Sg a mid (rotF D s m (mid + m - s)) E1) ∧ (Srt E1 a mid) ∧ True) ?_ ?_
       ·
        refine cond_t (D42.m 7 rfl) (fun c13 => ?_) (fun c13 => ?_)
        ·
         obtain ⟨d3, d4⟩ := Bool.and_eq_true_iff.mp c13
         replace d3 := of_decide_eq_true d3
         replace d4 := of_decide_eq_true d4
         simp only [Bool.and_eq_true, decide_eq_true_eq] at c13
         refine gI a59 s47 ok52 (gM q350 (gM (D42.k q344) (gM (D42.k q342) (gM q354 (gM q353 (gE2 ok52 fun a61 s48 ok53 D43 => ?_)))))); have o56 := Own.k0 o55 D43.stp
         refine tL ok53 (y_callL (L := [40]) [(40, 40)] [(40, 40)] #[a61.eval (.tmp 200), a61.eval (.tmp 201), a61.eval (.tmp 202), a61.eval (.tmp 203), a61.eval (.tmp 204)] rfl dE Tryd.func46 rfl rfl my5 (ih (((mid) - a)) oM (dv) ((rotF D s m (mid + m - s))) (a) (s) (mid) _ lW _ _ _ _ _ (uL (D43.m 0 rfl)) (uL (D43.m 1 rfl)) (uL (cvi (σ := s48) (by first | omega | assumption | rfl | exact hH.p1 | exact hH.p2 | exact hg1.srt hH.p3 (.inr (Nat.le_refl _)) | exact hg1.srt hH.p4 (.inr oM) | exact hH.sg.day hday | exact hg1.day (hH.sg.day hday) | (rw [hg1.len]; omega)) (D43.m 2 rfl))) (uL (cvi (σ := s48) (by first | omega | assumption | rfl | exact hH.p1 | exact hH.p2 | exact hg1.srt hH.p3 (.inr (Nat.le_refl _)) | exact hg1.srt hH.p4 (.inr oM) | exact hH.sg.day hday | exact hg1.day (hH.sg.day hday) | (rw [hg1.len]; omega)) (D43.m 3 rfl))) (uL (D43.m 4 rfl)) (Own.ren (cvo (by (simp)) (by (simp)) o56) (GW.ren_lend _ _ dE rfl)) (by first | omega | assumption | rfl | exact hH.p1 | exact hH.p2 | exact hg1.srt hH.p3 (.inr (Nat.le_refl _)) | exact hg1.srt hH.p4 (.inr oM) | exact hH.sg.day hday | exact hg1.day (hH.sg.day hday) | (rw [hg1.len]; omega)) (by first | omega | assumption | rfl | exact hH.p1 | exact hH.p2 | exact hg1.srt hH.p3 (.inr (Nat.le_refl _)) | exact hg1.srt hH.p4 (.inr oM) | exact hH.sg.day hday | exact hg1.day (hH.sg.day hday) | (rw [hg1.len]; omega)) (by first | omega | assumption | rfl | exact hH.p1 | exact hH.p2 | exact hg1.srt hH.p3 (.inr (Nat.le_refl _)) | exact hg1.srt hH.p4 (.inr oM) | exact hH.sg.day hday | exact hg1.day (hH.sg.day hday) | (rw [hg1.len]; omega)) (by first | omega | assumption | rfl | exact hH.p1 | exact hH.p2 | exact hg1.srt hH.p3 (.inr (Nat.le_refl _)) | exact hg1.srt hH.p4 (.inr oM) | exact hH.sg.day hday | exact hg1.day (hH.sg.day hday) | (rw [hg1.len]; omega)) (by first | omega | assumption | rfl | exact hH.p1 | exact hH.p2 | exact hg1.srt hH.p3 (.inr (Nat.le_refl _)) | exact hg1.srt hH.p4 (.inr oM) | exact hH.sg.day hday | exact hg1.day (hH.sg.day hday) | (rw [hg1.len]; omega)) (by first | omega | assumption | rfl | exact hH.p1 | exact hH.p2 | exact hg1.srt hH.p3 (.inr (Nat.le_refl _)) | exact hg1.srt hH.p4 (.inr oM) | exact hH.sg.day hday | exact hg1.day (hH.sg.day hday) | (rw [hg1.len]; omega)) (by first | omega | assumption | rfl | exact hH.p1 | exact hH.p2 | exact hg1.srt hH.p3 (.inr (Nat.le_refl _)) | exact hg1.srt hH.p4 (.inr oM) | exact hH.sg.day hday | exact hg1.day (hH.sg.day hday) | (rw [hg1.len]; omega)) (by first | omega | assumption | rfl | exact hH.p1 | exact hH.p2 | exact hg1.srt hH.p3 (.inr (Nat.le_refl _)) | exact hg1.srt hH.p4 (.inr oM) | exact hH.sg.day hday | exact hg1.day (hH.sg.day hday) | (rw [hg1.len]; omega)))) fun a62 s49 hs6 ok54 r6 sm4 => ?_
         obtain ⟨t17, ⟨g1, hT2, o57, hp1, hp2⟩, B2⟩ := r6
         have o58 : Own s49 40 42 4 dv (List.length (g1)) (List.flatMap recC (g1)) := Own.ren o57 (B2.ren dE rfl)
         refine wpList_nil ?_
         exact tn ⟨s49, g1, rfl, ((F54.step0 D43.stp).sl hs6), ok54, (kq hs6 sm4 0 (D43.k q350)), (kq hs6 sm4 3 (D43.k q352)), (kq hs6 sm4 4 (D43.k q353)), (kq hs6 sm4 18 (D43.k q354)), (kq hs6 sm4 24 (D43.k q355)), o58, by assumption, by assumption, trivial⟩
        ·
         have hls : s = a ∨ s = mid := (by simp only [Bool.and_eq_false_iff, decide_eq_false_iff_not] at c13; rcases c13 with h_ | h_; exact .inl oM; exact .inr oM)
         refine wp_skip ?_
         exact tn ⟨s47, (rotF D s m (mid + m - s)), rfl, F54, ok52, q350, q352, q353, q354, q355, (cvo (by (simp)) (by (simp)) o55), Sg.refl _ _ _, half_l hH hls, trivial⟩
       ·
        rintro a63 w16 ⟨t18, E1, rfl, F57, ok55, q373, q374, q375, q376, q377, o59, hg1, hs1b, -⟩
        have he1_ := hg1.len
        refine wp_seq ?_
        refine gI a63 t18 ok55 (gM q376 (gM q377 (gS rfl (fun A B G H I d0 d1 => rP (y_lss (eI d0) (eI d1))) (gS rfl (fun A B G H I d0 => rP (y_move (eI d0))) (gS rfl (fun A B G H I d0 => gu H (eI d0) fun hg => y_move (kp (I 24 rfl) G q377)) (gS rfl (fun A B G H I d0 => gu H (eI d0) fun hg => y_move (kp (I 3 rfl) G q374)) (gS rfl (fun A B G H I d0 d1 d2 => gu H (eI d2) fun hg => y_lss ((ef d0 rfl).1 hg) ((ef d1 rfl).1 hg)) (gS rfl (fun A B G H I d0 d1 => rP (y_pick_and (eI d0) (eI d1) rfl)) (gE ok55 fun a64 s50 ok56 D44 => ?_))))))))); have F58 := F57.step0 D44.stp; have o60 := Own.k0 o59 D44.stp; refine tn ?_
        refine cond_t (D44.m 7 rfl) (fun c14 => ?_) (fun c14 => ?_)
        ·
         obtain ⟨d5, d6⟩ := Bool.and_eq_true_iff.mp c14
         replace d5 := of_decide_eq_true d5
         replace d6 := of_decide_eq_true d6
         simp only [Bool.and_eq_true, decide_eq_true_eq] at c14
         refine gI a64 s50 ok56 (gM (D44.k q373) (gM (D44.k q376) (gM (D44.k q377) (gM (D44.k q374) (gM (D44.k q375) (gE2 ok56 fun a65 s51 ok57 D45 => ?_)))))); have o61 := Own.k0 o60 D45.stp
         refine tL ok57 (y_callL (L := [40]) [(40, 40)] [(40, 40)] #[a65.eval (.tmp 214), a65.eval (.tmp 215), a65.eval (.tmp 216), a65.eval (.tmp 217), a65.eval (.tmp 218)] rfl dE Tryd.func46 rfl rfl my5 (ih ((b - (mid))) oM (dv) (E1) (mid) ((mid + m - s)) (b) _ lW _ _ _ _ _ (uL (D45.m 0 rfl)) (uL (cvi (σ := s51) (by first | omega | assumption | rfl | exact hH.p1 | exact hH.p2 | exact hg1.srt hH.p3 (.inr (Nat.le_refl _)) | exact hg1.srt hH.p4 (.inr oM) | exact hH.sg.day hday | exact hg1.day (hH.sg.day hday) | (rw [hg1.len]; omega)) (D45.m 1 rfl))) (uL (cvi (σ := s51) (by first | omega | assumption | rfl | exact hH.p1 | exact hH.p2 | exact hg1.srt hH.p3 (.inr (Nat.le_refl _)) | exact hg1.srt hH.p4 (.inr oM) | exact hH.sg.day hday | exact hg1.day (hH.sg.day hday) | (rw [hg1.len]; omega)) (D45.m 2 rfl))) (uL (D45.m 3 rfl)) (uL (D45.m 4 rfl)) (Own.ren (cvo (by (simp)) (by (simp)) o61) (GW.ren_lend _ _ dE rfl)) (by first | omega | assumption | rfl | exact hH.p1 | exact hH.p2 | exact hg1.srt hH.p3 (.inr (Nat.le_refl _)) | exact hg1.srt hH.p4 (.inr oM) | exact hH.sg.day hday | exact hg1.day (hH.sg.day hday) | (rw [hg1.len]; omega)) (by first | omega | assumption | rfl | exact hH.p1 | exact hH.p2 | exact hg1.srt hH.p3 (.inr (Nat.le_refl _)) | exact hg1.srt hH.p4 (.inr oM) | exact hH.sg.day hday | exact hg1.day (hH.sg.day hday) | (rw [hg1.len]; omega)) (by first | omega | assumption | rfl | exact hH.p1 | exact hH.p2 | exact hg1.srt hH.p3 (.inr (Nat.le_refl _)) | exact hg1.srt hH.p4 (.inr oM) | exact hH.sg.day hday | exact hg1.day (hH.sg.day hday) | (rw [hg1.len]; omega)) (by first | omega | assumption | rfl | exact hH.p1 | exact hH.p2 | exact hg1.srt hH.p3 (.inr (Nat.le_refl _)) | exact hg1.srt hH.p4 (.inr oM) | exact hH.sg.day hday | exact hg1.day (hH.sg.day hday) | (rw [hg1.len]; omega)) (by first | omega | assumption | rfl | exact hH.p1 | exact hH.p2 | exact hg1.srt hH.p3 (.inr (Nat.le_refl _)) | exact hg1.srt hH.p4 (.inr oM) | exact hH.sg.day hday | exact hg1.day (hH.sg.day hday) | (rw [hg1.len]; omega)) (by first | omega | assumption | rfl | exact hH.p1 | exact hH.p2 | exact hg1.srt hH.p3 (.inr (Nat.le_refl _)) | exact hg1.srt hH.p4 (.inr oM) | exact hH.sg.day hday | exact hg1.day (hH.sg.day hday) | (rw [hg1.len]; omega)) (by first | omega | assumption | rfl | exact hH.p1 | exact hH.p2 | exact hg1.srt hH.p3 (.inr (Nat.le_refl _)) | exact hg1.srt hH.p4 (.inr oM) | exact hH.sg.day hday | exact hg1.day (hH.sg.day hday) | (rw [hg1.len]; omega)) (by first | omega | assumption | rfl | exact hH.p1 | exact hH.p2 | exact hg1.srt hH.p3 (.inr (Nat.le_refl _)) | exact hg1.srt hH.p4 (.inr oM) | exact hH.sg.day hday | exact hg1.day (hH.sg.day hday) | (rw [hg1.len]; omega)))) fun a66 s52 hs7 ok58 r7 sm5 => ?_
         obtain ⟨t19, ⟨g2, hT3, o62, hp3, hp4⟩, B3⟩ := r7
         have o63 : Own s52 40 42 4 dv (List.length (g2)) (List.flatMap recC (g2)) := Own.ren o62 (B3.ren dE rfl)
         refine wpList_nil ?_
         exact nL0 rfl ok58 ((F58.step0 D45.stp).sl hs7) ⟨(g2), trivial, (cvo (by (simp)) (by (simp)) o63), (by exact (half_fin hH oM oM hg1 hs1b (by assumption) (by assumption)).1), (by exact (half_fin hH oM oM hg1 hs1b (by assumption) (by assumption)).2)⟩
        ·
         have hrs : (mid + m - s) = mid ∨ (mid + m - s) = b := (by simp only [Bool.and_eq_false_iff, decide_eq_false_iff_not] at c14; rcases c14 with h_ | h_; exact .inl oM; exact .inr oM); have hs2b := hg1.srt (half_r hH hrs) (.inr (Nat.le_refl _))
         refine wp_skip ?_
         exact nL0 rfl ok56 F58 ⟨E1, trivial, (cvo (by (simp)) (by (simp)) o60), (by exact (half_fin hH oM oM hg1 hs1b (Sg.refl _ _ _) hs2b).1), (by exact (half_fin hH oM oM hg1 hs1b (Sg.refl _ _ _) hs2b).2)⟩


end Go.Proofs.YtfgkhpkbehhflaaDoor
