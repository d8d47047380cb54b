/- The functions that the law MethodSays reaches, each by its contract. Part 7. -/
import Derived.Test.YtdjihbjikpbhgaaGreatDoorMethodSaysW6
namespace Go.Proofs.YtdjihbjikpbhgaaGreatDoor
open Go.KL

set_option maxHeartbeats 4000000 in
set_option maxRecDepth 100000 in
theorem lessInt_fn (x : Int) (y : Int) (σ : GW)  (v0 v1 : Value) (hv0 : Ty.has (Ty.int x) σ v0) (hv1 : Ty.has (Ty.int y) σ v1)   :
    FnC Tryz.prog 132 #[v0, v1] σ (Ty.bool (decide (x < y))) := by
 refine fn_intro0 Tryz.func132 rfl Tryz.ntmps132 (Nat.le_of_ble_eq_true rfl) (fun s0 a0 hle F0 ok0 hargs => ?_)
 have p0 := pA hle (hargs 0 _ rfl) hv0
 have p1 := pA hle (hargs 1 _ rfl) hv1
 clear hargs; refine wp_seq ?_
 refine gI a0 s0 ok0 (gC (Ty.bool false) (gE ok0 fun a1 s1 ok1 D1 => ?_)); have q1 := D1.kt p0 rfl; have q2 := D1.kt p1 rfl; refine tn (wp_seq ?_)
 refine gI a1 s1 ok1 (gM q1 (gS rfl (fun A B G H I d0 => rP (y_call _ Tryz.func137 rfl rfl my1 (isNaN_fn (x) _ _ (ed d0 rfl rfl rfl) ))) (gS rfl (fun A B G H I d0 d1 => rP (y_move (ed d0 rfl rfl rfl))) (gS rfl (fun A B G H I d0 => gu H (ed d0 rfl rfl rfl) fun hg => y_move (kp (I 1 rfl) G q2)) (gS rfl (fun A B G H I d0 d1 d2 => gu H (ed d1 rfl rfl rfl) fun hg => y_call _ Tryz.func137 rfl rfl my1 (isNaN_fn (y) _ _ (cvi (σ := B) (by omega) ((ed d0 rfl rfl rfl).1 hg)) )) (gS rfl (fun A B G H I d0 d1 => gu H (ed d1 rfl rfl rfl) fun hg => y_not ((ed d0 rfl rfl rfl).1 hg)) (gT (Ty.bool false) rfl (fun A B G H I d0 d1 => rP (y_pickF (ed d0 rfl rfl rfl) rfl)) (gS rfl (fun A B G H I d0 d1 => rP (y_move (ed d0 rfl rfl rfl))) (gS rfl (fun A B G H I d0 => gu H (ed d0 rfl rfl rfl) fun hg => y_move (kp (I 0 rfl) G q1)) (gS rfl (fun A B G H I d0 => gu H (ed d0 rfl rfl rfl) fun hg => y_move (kp (I 1 rfl) G q2)) (gS rfl (fun A B G H I d0 d1 d2 => gu H (ed d2 rfl rfl rfl) fun hg => y_lss ((ed d0 rfl rfl rfl).1 hg) ((ed d1 rfl rfl rfl).1 hg)) (gS rfl (fun A B G H I d0 d1 => rP (y_pick_or (ed d0 rfl rfl rfl) rfl (ed d1 rfl rfl rfl))) (gB 0 (gE ok1 fun a2 s2 ok2 D2 => ?_)))))))))))))); refine tn (wp_ret ?_)
 exact retL1 rfl ok2 ((F0.step0 D1.stp).step0 D2.stp) (cvb (by (simp)) (D2.dn 12 rfl rfl))


set_option maxHeartbeats 4000000 in
set_option maxRecDepth 100000 in
theorem isSortedO_fn (x : Value) (xs : List Int) (σ : GW) (hlow : Low [40] σ) (v0 : Value) (hv0 : Ty.has (Ty.val x) σ v0) (ho_x : Own σ 40 3 1 x (List.length xs) (List.map Ty.int xs)) (hx : 1 ≤ xs.length) (hx2 : xs.length ≤ 1000000) :
    FnL Tryz.prog 119 #[v0] σ [40] (fun v τ => (Ty.has (Ty.bool (sortB xs)) τ v) ∧ (Own τ 40 3 1 x (List.length xs) (List.map Ty.int xs))) := by
 refine fn_introL hlow Tryz.func119 rfl Tryz.ntmps119 (Nat.le_of_ble_eq_true rfl) (fun a0 F0 ok0 hargs => ?_)
 have p0 := pB (hargs 0 _ rfl) hv0
 clear hargs; refine wp_seq ?_
 refine gI a0 σ ok0 (gC (Ty.bool false) (gE ok0 fun a1 s1 ok1 D1 => ?_)); have q1 := D1.kt p0 rfl; have o1 := Own.k0 ho_x D1.stp; refine tn (wp_seq (wp_seq ?_))
 refine gI a1 s1 ok1 (gM q1 (gT (Ty.nat (List.length xs)) rfl (fun A B G H I d0 => rP (own_len Tryz.underlying30 (al (R := (Pr.own 40 3 1 (List.length xs) (List.map Ty.int xs))) (ed d0 rfl rfl rfl) (Own.k0 o1 G)))) (gT (Ty.nat ((List.length xs) - 1)) rfl (fun A B G H I d0 => rP ((y_sub (ed d0 rfl rfl rfl) rfl (w64 (by omega) (by omega))).mono (fun τ _ h => cvi (σ := τ) (by omega) h))) (gB 0 (gE ok1 fun a2 s2 ok2 D2 => ?_))))); have o2 := Own.k0 o1 D2.stp; refine tn (wp_block ?_)
 refine loop (fun n1 a3 w1 => ∃ (t1 : GW) (i : Nat), t1.w = w1 ∧ FromL [40] σ t1 ∧ Ok 21 [] a3 ∧ At (Ty.nat i) t1 a3 (.tmp 3) ∧ At (Ty.val x) t1 a3 (.tmp 0) ∧ Own t1 40 3 1 x (List.length xs) (List.map Ty.int xs) ∧ (i + 1 ≤ xs.length) ∧ (∀ k, i ≤ k → k + 1 < xs.length → xs.getD k 0 ≤ xs.getD (k + 1) 0) ∧ n1 = i + 1) (((xs.length - 1)) + 1) ?_ ?_
 ·
  exact ⟨s2, (xs.length - 1), rfl, ((F0.step0 D1.stp).step0 D2.stp), ok2, (cvi (by (first | rfl | omega | (simp_all; done) | (simp_all; omega))) (D2.dn 3 rfl rfl)), (D2.kt q1 rfl), o2, by omega, fun k h1 h2 => by omega, rfl⟩
 ·
  rintro n2 a4 w2 ⟨t2, i, rfl, F3, ok3, q4, q5, o3, hi, G, rfl⟩
  refine wp_seq (wp_seq ?_)
  refine gI a4 t2 ok3 (gM q4 (gS rfl (fun A B G H I d0 => rP (y_gtr (ed d0 rfl rfl rfl) rfl)) (gE ok3 fun a5 s3 ok4 D3 => ?_))); have F4 := F3.step0 D3.stp; have q6 := D3.kt q4 rfl; have q7 := D3.kt q5 rfl; have o4 := Own.k0 o3 D3.stp; refine tn ?_
  refine cond_p (p := ((0 : Int) < ((i : Nat) : Int))) (D3.dn 1 rfl rfl) (fun c1 => ?_) (fun c1 => ?_)
  ·
   refine wp_skip (tn (wp_seq (wp_block (wp_seq ?_))))
   refine gI a5 s3 ok4 (gM q7 (gM q6 (gT (Ty.val (cellPtr x i)) rfl (fun A B G H I d0 d1 => rP (own_index1 (i := ((i : Nat) : Int)) Tryz.underlying30 Tryz.inf3 (Own.k0 o4 G) (ed d0 rfl rfl rfl) (ed d1 rfl rfl rfl) (by omega) (by omega))) (gS rfl (fun A B G H I d0 => rP (own_load Tryz.underlying3 rfl (Own.k0 o4 G) (ed d0 rfl rfl rfl) (lst_get Ty.int xs 0 i (by omega)))) (gM q7 (gM q6 (gT (Ty.nat (i - 1)) rfl (fun A B G H I d0 => rP ((y_sub (ed d0 rfl rfl rfl) rfl (w64 (by omega) (by omega))).mono (fun τ _ h => cvi (σ := τ) (by omega) h))) (gT (Ty.val (cellPtr x (i - 1))) rfl (fun A B G H I d0 d1 => rP (own_index1 (i := (((i - 1) : Nat) : Int)) Tryz.underlying30 Tryz.inf3 (Own.k0 o4 G) (ed d0 rfl rfl rfl) (ed d1 rfl rfl rfl) (by omega) (by omega))) (gS rfl (fun A B G H I d0 => rP (own_load Tryz.underlying3 rfl (Own.k0 o4 G) (ed d0 rfl rfl rfl) (lst_get Ty.int xs 0 (i - 1) (by omega)))) (gS rfl (fun A B G H I d0 d1 => rP (y_call _ Tryz.func132 rfl rfl my2 (lessInt_fn ((xs.getD i 0)) ((xs.getD (i - 1) 0)) _ _ _ (cvi (σ := B) (by omega) (ed d0 rfl rfl rfl)) (cvi (σ := B) (by omega) (ed d1 rfl rfl rfl)) ))) (gE ok4 fun a6 s4 ok5 D4 => ?_))))))))))); have F5 := F4.step0 D4.stp; have o5 := Own.k0 o4 D4.stp; refine tn ?_
   refine cond_t (D4.dn 9 rfl rfl) (fun c2 => ?_) (fun c2 => ?_)
   ·
    have c2_ := of_decide_eq_true c2
    refine wp_seq ?_
    refine gI a6 s4 ok5 (gC (Ty.bool false) (gE ok5 fun a7 s5 ok6 D5 => ?_)); have o6 := Own.k0 o5 D5.stp; refine tn (wp_ret (br (tr (tr (br (tr ?_))))))
    exact retL1 rfl ok6 (F5.step0 D5.stp) ⟨(cvb (by (exact (sortB_no (k := i - 1) (by omega) (by rw [show i - 1 + 1 = i by omega]; omega)).symm)) (D5.dn 0 rfl rfl)), o6⟩
   ·
    have c2_ := of_decide_eq_false c2
    refine wp_skip (bn (tn ?_))
    refine gI a6 s4 ok5 (gM (D4.kt q6 rfl) (gT (Ty.nat (i - 1)) rfl (fun A B G H I d0 => rP ((y_sub (ed d0 rfl rfl rfl) rfl (w64 (by omega) (by omega))).mono (fun τ _ h => cvi (σ := τ) (by omega) h))) (gB 0 (gE ok5 fun a8 s6 ok7 D6 => ?_)))); have o7 := Own.k0 o5 D6.stp
    exact tn ⟨((i - 1)) + 1, by omega, s6, (i - 1), rfl, (F5.step0 D6.stp), ok7, (cvi (by (first | rfl | omega | (simp_all; done) | (simp_all; omega))) (D6.dn 2 rfl rfl)), (D6.kt (D4.kt q7 rfl) rfl), o7, by omega, fun k h1 h2 => by (by_cases e : k = i - 1; (subst e; rw [show i - 1 + 1 = i by omega]; omega); exact G k (by omega) h2), rfl⟩
  ·
   refine wp_exit (tx (tx (bx (tn (wp_seq ?_)))))
   refine gI a5 s3 ok4 (gC (Ty.bool true) (gE ok4 fun a9 s7 ok8 D7 => ?_)); have o8 := Own.k0 o4 D7.stp; refine tn (wp_ret ?_)
   exact retL1 rfl ok8 (F4.step0 D7.stp) ⟨(cvb (by (exact ((sortB_iff xs).2 fun k h2 => G k (by omega) h2).symm)) (D7.dn 0 rfl rfl)), o8⟩


set_option maxHeartbeats 4000000 in
set_option maxRecDepth 100000 in
theorem cloneO_fn (x : Value) (xs : List Int) (σ : GW) (hlow : Low [40] σ) (v0 : Value) (hv0 : Ty.has (Ty.val x) σ v0) (ho_x : Own σ 40 3 1 x (List.length xs) (List.map Ty.int xs)) (hx1 : 1 ≤ xs.length) (hx2 : xs.length ≤ 1000000) :
    FnL Tryz.prog 104 #[v0] σ [40] (fun v τ => ∃ (z : Value), (Ty.has (Ty.val z) τ v) ∧ (Own τ 40 3 1 x (List.length xs) (List.map Ty.int xs)) ∧ (Own τ 41 3 1 z (List.length xs) (List.map Ty.int xs))) := by
 refine fn_introL hlow Tryz.func104 rfl Tryz.ntmps104 (Nat.le_of_ble_eq_true rfl) (fun a0 F0 ok0 hargs => ?_)
 have p0 := pB (hargs 0 _ rfl) hv0
 clear hargs; refine wp_seq ?_
 refine gI a0 σ ok0 (gC (Ty.val (Value.slice none 0 0)) (gE ok0 fun a1 s1 ok1 D1 => ?_)); have q1 := D1.kt p0 rfl; have o1 := Own.k0 ho_x D1.stp; refine tn (wp_seq (wp_seq ?_))
 refine gI a1 s1 ok1 (gM q1 (gT (Ty.bool false) rfl (fun A B G H I d0 => rP (y_ownnil Tryz.underlying30 (Own.k0 o1 G) (by omega) (ed d0 rfl rfl rfl) rfl)) (gE ok1 fun a2 s2 ok2 D2 => ?_))); have o2 := Own.k0 o1 D2.stp; refine tn ?_
 refine cond_t (D2.dn 1 rfl rfl) (fun c1 => (by cases c1)) (fun _ => ?_)
 refine wp_skip (tn (wp_seq ?_))
 refine gI a2 s2 ok2 (gR (Pr.own 41 3 1 0 (List.map Ty.int ([] : List Int))) rfl (by intro A B G H I; exact rP ((y_lit0 (k := 41) Tryz.underlying30 Tryz.inf3).mono (fun _ _ h => cvo (by simp) (by simp) h))) (gM (D2.kt q1 rfl) (gE2 ok2 fun a3 s3 ok3 D3 => ?_))); have o3 := Own.k0 o2 D3.stp
 obtain ⟨x1, hx1⟩ : ∃ x, a3.eval (.tmp 5) = x := ⟨_, rfl⟩
 have q4 : At (Ty.val x1) s3 a3 (.tmp 5) := hx1
 have o4 := al2 (R := (Pr.own 41 3 1 0 (List.map Ty.int ([] : List Int)))) hx1 (D3.done 0 (by decide))
 have q5 : At (Ty.val x) s3 a3 (.tmp 6) := D3.done 1 (by decide)
 refine tL (R := (fun v τ => Own τ 41 3 1 v (0 + (List.length xs)) ((List.map Ty.int ([] : List Int)) ++ (List.map Ty.int xs)))) ok3 (YldM.toL (m_appendo Tryz.underlying30 Tryz.inf3 (by decide) rfl (by decide) (al (R := (Pr.own 41 3 1 0 (List.map Ty.int ([] : List Int)))) q4 o4) (al (R := (Pr.own 40 3 1 (List.length xs) (List.map Ty.int xs))) q5 o3) (one_map (fun _ => one_val rfl)) (by omega) (by omega))) fun a4 s4 hs1 ok4 r1 sm1 => ?_
 have F4 := (((F0.step0 D1.stp).step0 D2.stp).step0 D3.stp).stepL hs1 (by decide); have o6 := Own.keepL o3 hs1 (by decide) (by decide)
 obtain ⟨x2, hx2⟩ : ∃ x, a4.eval (.tmp 7) = x := ⟨_, rfl⟩
 have q6 : At (Ty.val x2) s4 a4 (.tmp 7) := hx2
 have o5 := al2 (R := (Pr.own 41 3 1 (List.length xs) (List.map Ty.int xs))) hx2 (cvo (by simp) (by first | (rw [List.map_append]; rfl) | simp) r1)
 clear r1
 refine tL ok4 (Yld.toL (y_as q6)) fun a5 s5 hs2 ok5 r2 sm2 => ?_
 have F5 := F4.stepL hs2 (by decide); have o7 := Own.keepL o6 hs2 (by decide) (by decide); have o8 := Own.keepL o5 hs2 (by decide) (by decide)
 have q7 : At (Ty.val x2) s5 a5 (.tmp 2) := r2
 clear r2; refine wpList_nil (tn (wp_ret ?_))
 exact retL1 rfl ok5 F5 ⟨x2, q7, o7, o8⟩


set_option maxHeartbeats 4000000 in
set_option maxRecDepth 100000 in
theorem compact_fn (x : Value) (xs : List Int) (σ : GW) (hlow : Low [40] σ) (v0 : Value) (hv0 : Ty.has (Ty.val x) σ v0) (ho_x : Own σ 40 3 1 x (List.length xs) (List.map Ty.int xs)) (hx : xs.length ≤ 1000000) (hx1 : 1 ≤ xs.length) :
    FnL Tryz.prog 120 #[v0] σ [40] (fun v τ => ∃ (zs : List Int), ∃ (z : Value), (Ty.has (Ty.val z) τ v) ∧ (Own τ 40 3 1 z (List.length zs) (List.map Ty.int zs)) ∧ ((dupB xs = false → zs.length = xs.length) ∧ (dupB xs = true → zs.length < xs.length))) := by
 refine fn_introL hlow Tryz.func120 rfl Tryz.ntmps120 (Nat.le_of_ble_eq_true rfl) (fun a0 F0 ok0 hargs => ?_)
 have p0 := pB (hargs 0 _ rfl) hv0
 clear hargs; refine wp_seq ?_
 refine gI a0 σ ok0 (gC (Ty.val (Value.slice none 0 0)) (gE ok0 fun a1 s1 ok1 D1 => ?_)); have q1 := D1.kt p0 rfl; have o1 := Own.k0 ho_x D1.stp; refine tn (wp_seq (wp_seq ?_))
 refine gI a1 s1 ok1 (gM q1 (gT (Ty.nat (List.length xs)) rfl (fun A B G H I d0 => rP (own_len Tryz.underlying30 (al (R := (Pr.own 40 3 1 (List.length xs) (List.map Ty.int xs))) (ed d0 rfl rfl rfl) (Own.k0 o1 G)))) (gS rfl (fun A B G H I d0 => rP (y_lss (ed d0 rfl rfl rfl) rfl)) (gE ok1 fun a2 s2 ok2 D2 => ?_)))); have F2 := (F0.step0 D1.stp).step0 D2.stp; have q2 := D2.kt q1 rfl; have o2 := Own.k0 o1 D2.stp; refine tn ?_
 refine cond_p (p := ((((List.length xs) : Nat) : Int) < (2 : Int))) (D2.dn 2 rfl rfl) (fun c1 => ?_) (fun c1 => ?_)
 ·
  refine wp_seq ?_
  refine gI a2 s2 ok2 (gM q2 (gB 0 (gE ok2 fun a3 s3 ok3 D3 => ?_))); have o3 := Own.k0 o2 D3.stp
  have q4 : At (Ty.val x) s3 a3 (.tmp 2) := D3.done 1
  refine tn (wp_ret (tr ?_))
  exact retL1 rfl ok3 (F2.step0 D3.stp) ⟨xs, x, q4, (cvo (by (simp)) (by (simp)) o3), (by exact ⟨fun _ => rfl, fun h_ => by (rw [(dupB_iff xs).2 fun k h => by omega] at h_; cases h_)⟩)⟩
 ·
  refine wp_skip (tn (wp_seq (wp_seq ?_)))
  refine gI a2 s2 ok2 (gC (Ty.int (1 : Int)) (gE ok2 fun a4 s4 ok4 D4 => ?_)); have o4 := Own.k0 o2 D4.stp; refine tn (wp_block ?_)
  refine loop (fun n1 a5 w1 => ∃ (t1 : GW) (i : Nat), t1.w = w1 ∧ FromL [40] σ t1 ∧ Ok 61 [] a5 ∧ At (Ty.nat i) t1 a5 (.tmp 3) ∧ At (Ty.val x) t1 a5 (.tmp 0) ∧ Own t1 40 3 1 x (List.length xs) (List.map Ty.int xs) ∧ (1 ≤ i ∧ i ≤ xs.length) ∧ (∀ k, k + 1 < i → xs.getD k 0 ≠ xs.getD (k + 1) 0) ∧ n1 = xs.length - i) (xs.length - (1)) ?_ ?_
  ·
   exact ⟨s4, 1, rfl, (F2.step0 D4.stp), ok4, (cvi (by (rfl)) (D4.dn 0 rfl rfl)), (D4.kt q2 rfl), o4, by omega, fun k h => by omega, rfl⟩
  ·
   rintro n2 a6 w2 ⟨t2, i, rfl, F5, ok5, q7, q8, o5, hi, G, rfl⟩
   refine wp_seq (wp_seq ?_)
   refine gI a6 t2 ok5 (gM q7 (gM q8 (gT (Ty.nat (List.length xs)) rfl (fun A B G H I d0 => rP (own_len Tryz.underlying30 (al (R := (Pr.own 40 3 1 (List.length xs) (List.map Ty.int xs))) (ed d0 rfl rfl rfl) (Own.k0 o5 G)))) (gS rfl (fun A B G H I d0 d1 => rP (y_lss (ed d0 rfl rfl rfl) (ed d1 rfl rfl rfl))) (gE ok5 fun a7 s5 ok6 D5 => ?_))))); have F6 := F5.step0 D5.stp; have q9 := D5.kt q7 rfl; have q10 := D5.kt q8 rfl; have o6 := Own.k0 o5 D5.stp; refine tn ?_
   refine cond_p (p := (((i : Nat) : Int) < (((List.length xs) : Nat) : Int))) (D5.dn 3 rfl rfl) (fun c2 => ?_) (fun c2 => ?_)
   ·
    refine wp_skip (tn (wp_seq (wp_block (wp_seq ?_))))
    refine gI a7 s5 ok6 (gM q10 (gM q9 (gT (Ty.val (cellPtr x i)) rfl (fun A B G H I d0 d1 => rP (own_index1 (i := ((i : Nat) : Int)) Tryz.underlying30 Tryz.inf3 (Own.k0 o6 G) (ed d0 rfl rfl rfl) (ed d1 rfl rfl rfl) (by omega) (by omega))) (gS rfl (fun A B G H I d0 => rP (own_load Tryz.underlying3 rfl (Own.k0 o6 G) (ed d0 rfl rfl rfl) (lst_get Ty.int xs 0 i (by omega)))) (gM q10 (gM q9 (gT (Ty.nat (i - 1)) rfl (fun A B G H I d0 => rP ((y_sub (ed d0 rfl rfl rfl) rfl (w64 (by omega) (by omega))).mono (fun τ _ h => cvi (σ := τ) (by omega) h))) (gT (Ty.val (cellPtr x (i - 1))) rfl (fun A B G H I d0 d1 => rP (own_index1 (i := (((i - 1) : Nat) : Int)) Tryz.underlying30 Tryz.inf3 (Own.k0 o6 G) (ed d0 rfl rfl rfl) (ed d1 rfl rfl rfl) (by omega) (by omega))) (gS rfl (fun A B G H I d0 => rP (own_load Tryz.underlying3 rfl (Own.k0 o6 G) (ed d0 rfl rfl rfl) (lst_get Ty.int xs 0 (i - 1) (by omega)))) (gS rfl (fun A B G H I d0 d1 => rP (y_eql (ed d0 rfl rfl rfl) (ed d1 rfl rfl rfl))) (gE ok6 fun a8 s6 ok7 D6 => ?_))))))))))); have F7 := F6.step0 D6.stp; have q12 := D6.kt q9 rfl; have q13 := D6.kt q10 rfl; have o7 := Own.k0 o6 D6.stp; refine tn ?_
    refine cond_p (p := ((xs.getD i 0) = (xs.getD (i - 1) 0))) (D6.dn 9 rfl rfl) (fun c3 => ?_) (fun c3 => ?_)
    ·
     refine wp_seq ?_
     refine gI a8 s6 ok7 (gM q13 (gM q12 (gT (Ty.val (sufOf x i)) rfl (fun A B G H I d0 d1 => rP (y_suf (j := i) Tryz.underlying30 Tryz.inf3 (Own.k0 o7 G) (ed d0 rfl rfl rfl) (ed d1 rfl rfl rfl) (by omega))) (gB 0 (gE ok7 fun a9 s7 ok8 D7 => ?_))))); have o8 := Own.k0 o7 D7.stp; refine tn (wp_seq (wp_seq ?_))
     refine gI a9 s7 ok8 (gC (Ty.int (1 : Int)) (gE ok8 fun a10 s8 ok9 D8 => ?_)); have o9 := Own.k0 o8 D8.stp; refine tn (wp_block ?_)
     refine loop (fun n3 a11 w3 => ∃ (t3 : GW) (ys : List Int) (j : Nat) (q : Nat), t3.w = w3 ∧ FromL [40] σ t3 ∧ Ok 61 [] a11 ∧ At (Ty.nat j) t3 a11 (.tmp 3) ∧ At (Ty.nat q) t3 a11 (.tmp 5) ∧ At (Ty.val x) t3 a11 (.tmp 0) ∧ At (Ty.val (sufOf x i)) t3 a11 (.tmp 4) ∧ Own t3 40 3 1 x (List.length ys) (List.map Ty.int ys) ∧ (ys.length = xs.length) ∧ (1 ≤ q ∧ q ≤ xs.length - i) ∧ (j + 1 ≤ i + q) ∧ n3 = xs.length - q) (xs.length - (1)) ?_ ?_
     ·
      exact ⟨s8, xs, i, 1, rfl, ((F7.step0 D7.stp).step0 D8.stp), ok9, (cvi (by (first | rfl | omega | (simp_all; done) | (simp_all; omega))) (D8.kt (D7.kt q12 rfl) rfl)), (cvi (by (rfl)) (D8.dn 0 rfl rfl)), (D8.kt (D7.kt q13 rfl) rfl), (D8.kt (D7.dn 3 rfl rfl) rfl), (cvo (by (simp)) (by (simp)) o9), rfl, by omega, by omega, rfl⟩
     ·
      rintro n4 a12 w4 ⟨t4, ys, j, q, rfl, F10, ok10, q22, q23, q24, q25, o10, hy, hq, hj, rfl⟩
      refine wp_seq (wp_seq ?_)
      refine gI a12 t4 ok10 (gM q23 (gM q25 (gT (Ty.nat ((List.length ys) - i)) rfl (fun A B G H I d0 => rP (y_sufLen Tryz.underlying30 (Own.form (Own.k0 o10 G)) (ed d0 rfl rfl rfl))) (gS rfl (fun A B G H I d0 d1 => rP (y_lss (ed d0 rfl rfl rfl) (ed d1 rfl rfl rfl))) (gE ok10 fun a13 s9 ok11 D9 => ?_))))); have F11 := F10.step0 D9.stp; have q26 := D9.kt q22 rfl; have q27 := D9.kt q23 rfl; have q28 := D9.kt q24 rfl; have q29 := D9.kt q25 rfl; have o11 := Own.k0 o10 D9.stp; refine tn ?_
      refine cond_p (p := (((q : Nat) : Int) < ((((List.length ys) - i) : Nat) : Int))) (D9.dn 3 rfl rfl) (fun c4 => ?_) (fun c4 => ?_)
      ·
       refine wp_skip (tn (wp_seq (wp_block (wp_seq ?_))))
       refine gI a13 s9 ok11 (gM q29 (gM q27 (gT (Ty.val (cellPtr x (i + q))) rfl (fun A B G H I d0 d1 => rP (y_sufIdx Tryz.underlying30 Tryz.inf3 (Own.k0 o11 G) (ed d0 rfl rfl rfl) (ed d1 rfl rfl rfl) (by omega))) (gS rfl (fun A B G H I d0 => rP (own_load Tryz.underlying3 rfl (Own.k0 o11 G) (ed d0 rfl rfl rfl) (lst_get Ty.int ys 0 (i + q) (by omega)))) (gM q29 (gM q27 (gT (Ty.nat (q - 1)) rfl (fun A B G H I d0 => rP ((y_sub (ed d0 rfl rfl rfl) rfl (w64 (by omega) (by omega))).mono (fun τ _ h => cvi (σ := τ) (by omega) h))) (gT (Ty.val (cellPtr x (i + (q - 1)))) rfl (fun A B G H I d0 d1 => rP (y_sufIdx Tryz.underlying30 Tryz.inf3 (Own.k0 o11 G) (ed d0 rfl rfl rfl) (ed d1 rfl rfl rfl) (by omega))) (gS rfl (fun A B G H I d0 => rP (own_load Tryz.underlying3 rfl (Own.k0 o11 G) (ed d0 rfl rfl rfl) (lst_get Ty.int ys 0 (i + (q - 1)) (by omega)))) (gS rfl (fun A B G H I d0 d1 => rP (y_neq (ed d0 rfl rfl rfl) (ed d1 rfl rfl rfl))) (gE ok11 fun a14 s10 ok12 D10 => ?_))))))))))); have F12 := F11.step0 D10.stp; have q31 := D10.kt q26 rfl; have q32 := D10.kt q27 rfl; have q33 := D10.kt q28 rfl; have q34 := D10.kt q29 rfl; have o12 := Own.k0 o11 D10.stp; refine tn ?_
       refine cond_p (p := ((ys.getD (i + q) 0) ≠ (ys.getD (i + (q - 1)) 0))) (D10.dn 9 rfl rfl) (fun c5 => ?_) (fun c5 => ?_)
       ·
        refine wp_seq ?_
        refine gI a14 s10 ok12 (gM q33 (gM q31 (gM q34 (gM q32 (gT (Ty.val (cellPtr x (i + q))) rfl (fun A B G H I d0 d1 => rP (y_sufIdx Tryz.underlying30 Tryz.inf3 (Own.k0 o12 G) (ed d0 rfl rfl rfl) (ed d1 rfl rfl rfl) (by omega))) (gS rfl (fun A B G H I d0 => rP (own_load Tryz.underlying3 rfl (Own.k0 o12 G) (ed d0 rfl rfl rfl) (lst_get Ty.int ys 0 (i + q) (by omega)))) (gT (Ty.val (cellPtr x j)) rfl (fun A B G H I d0 d1 d2 d3 d4 d5 d6 d7 => rP (own_index1 (i := ((j : Nat) : Int)) Tryz.underlying30 Tryz.inf3 (Own.k0 o12 G) (ed d0 rfl rfl rfl) (ed d1 rfl rfl rfl) (by omega) (by omega))) (gE2 ok12 fun a15 s11 ok13 D11 => ?_)))))))); have o13 := Own.k0 o12 D11.stp
        refine tailL0 (L := [40]) (R := (fun _ τ => Own τ 40 3 1 x (List.length ys) ((List.map Ty.int ys).set j (Ty.int (ys.getD (i + q) 0))))) rfl rfl (YldM.toL (m_store Tryz.inf3 (by decide) o13 (D11.dn 6 (by decide) rfl rfl) (by simp only [List.length_map, List.length_set]; omega) (D11.dn 5 (by decide) rfl rfl) (one_val rfl))) (fun v1 s12 hs1 r1 => ?_)
        have F14 := (F12.step0 D11.stp).stepL hs1 (by decide); have q42 := kpL hs1 (by decide) rfl (D11.kt q31 rfl); have q43 := kpL hs1 (by decide) rfl (D11.kt q32 rfl); have q44 := kpL hs1 (by decide) rfl (D11.kt q33 rfl); have q45 := kpL hs1 (by decide) rfl (D11.kt q34 rfl)
        have o14 : Own s12 40 3 1 x (List.length (ys.set j (ys.getD (i + q) 0))) (List.map Ty.int (ys.set j (ys.getD (i + q) 0))) := (cvo (by simp) (by simp) r1)
        clear r1; refine wpList_nil (tn ?_)
        refine gI a15 s12 ok13 (gM q42 (gT (Ty.nat (j + 1)) rfl (fun A B G H I d0 => rP ((y_add (ed d0 rfl rfl rfl) rfl (w64 (by omega) (by omega))).mono (fun τ _ h => cvi (σ := τ) (by first | omega | exact (Int.natCast_mul _ _).symm) h))) (gB 0 (gE ok13 fun a16 s13 ok14 D12 => ?_)))); have o15 := Own.k0 o14 D12.stp; refine bn (tn ?_)
        refine gI a16 s13 ok14 (gM (D12.kt q43 rfl) (gT (Ty.nat (q + 1)) rfl (fun A B G H I d0 => rP ((y_add (ed d0 rfl rfl rfl) rfl (w64 (by omega) (by omega))).mono (fun τ _ h => cvi (σ := τ) (by first | omega | exact (Int.natCast_mul _ _).symm) h))) (gB 0 (gE ok14 fun a17 s14 ok15 D13 => ?_)))); have o16 := Own.k0 o15 D13.stp
        exact tn ⟨xs.length - ((q + 1)), by omega, s14, (ys.set j (ys.getD (i + q) 0)), (j + 1), (q + 1), rfl, ((F14.step0 D12.stp).step0 D13.stp), ok15, (cvi (by (first | rfl | omega | (simp_all; done) | (simp_all; omega))) (D13.kt (D12.dn 2 rfl rfl) rfl)), (cvi (by (first | rfl | omega | (simp_all; done) | (simp_all; omega))) (D13.dn 2 rfl rfl)), (D13.kt (D12.kt q44 rfl) rfl), (D13.kt (D12.kt q45 rfl) rfl), (cvo (by (simp)) (by (simp)) o16), by rw [List.length_set]; exact hy, by omega, by omega, rfl⟩
       ·
        refine wp_skip (bn (tn ?_))
        refine gI a14 s10 ok12 (gM q32 (gT (Ty.nat (q + 1)) rfl (fun A B G H I d0 => rP ((y_add (ed d0 rfl rfl rfl) rfl (w64 (by omega) (by omega))).mono (fun τ _ h => cvi (σ := τ) (by first | omega | exact (Int.natCast_mul _ _).symm) h))) (gB 0 (gE ok12 fun a18 s15 ok16 D14 => ?_)))); have o17 := Own.k0 o12 D14.stp
        exact tn ⟨xs.length - ((q + 1)), by omega, s15, ys, j, (q + 1), rfl, (F12.step0 D14.stp), ok16, (D14.kt q31 rfl), (cvi (by (first | rfl | omega | (simp_all; done) | (simp_all; omega))) (D14.dn 2 rfl rfl)), (D14.kt q33 rfl), (D14.kt q34 rfl), o17, by omega, by omega, by omega, rfl⟩
      ·
       refine wp_exit (tx (tx (bx (tn (wp_seq ?_)))))
       have hfm := Own.form o11
       refine gI a13 s9 ok11 (gM q28 (gM q26 (gT (Ty.val (sufOf x j)) rfl (fun A B G H I d0 d1 => rP (y_suf (j := j) Tryz.underlying30 Tryz.inf3 (Own.k0 o11 G) (ed d0 rfl rfl rfl) (ed d1 rfl rfl rfl) (by omega))) (gE2 ok11 fun a19 s16 ok17 D15 => ?_)))); have o18 := Own.k0 o11 D15.stp
       refine tailL0 (L := [40]) (R := (fun _ τ => Own τ 40 3 1 (preOf x j) j ((List.map Ty.int ys).take j))) rfl rfl (YldM.toL (m_clrS Tryz.underlying30 Tryz.inf3 rfl rfl (by decide) o18 (D15.dn 2 (by decide) rfl rfl) (by omega))) (fun v2 s17 hs2 r2 => ?_)
       have F19 := (F11.step0 D15.stp).stepL hs2 (by decide); have q62 := kpL hs2 (by decide) rfl (D15.kt q26 rfl); have q63 := kpL hs2 (by decide) rfl (D15.kt q28 rfl)
       have o19 : Own s17 40 3 1 (preOf x j) j (List.map Ty.int (ys.take j)) := cvo rfl (by rw [List.map_take]) (r2)
       clear r2; refine wpList_nil (tn (wp_seq ?_))
       refine gI a19 s17 ok17 (gM q63 (gM q62 (gT (Ty.val (preOf x j)) rfl (fun A B G H I d0 d1 => rP (y_preF (i := j) Tryz.underlying30 Tryz.inf3 hfm (ed d0 rfl rfl rfl) (ed d1 rfl rfl rfl) (by omega))) (gB 0 (gE ok17 fun a20 s18 ok18 D16 => ?_))))); have o20 := Own.k0 o19 D16.stp; refine tn (wp_ret (br (tr (tr (br (tr ?_))))))
       exact retL1 rfl ok18 (F19.step0 D16.stp) ⟨(ys.take j), (preOf x j), (D16.dn 3 rfl rfl), (cvo (by (first | rfl | (rw [List.length_take]; omega))) (by (first | rfl | (rw [List.length_take]; omega))) o20), (by rw [List.length_take]; exact ⟨fun h_ => absurd (dupB_yes (l := xs) (k := i - 1) (by omega) (by rw [show i - 1 + 1 = i by omega]; omega)) (by rw [h_]; simp), fun _ => by omega⟩)⟩
    ·
     refine wp_skip (bn (tn ?_))
     refine gI a8 s6 ok7 (gM q12 (gT (Ty.nat (i + 1)) rfl (fun A B G H I d0 => rP ((y_add (ed d0 rfl rfl rfl) rfl (w64 (by omega) (by omega))).mono (fun τ _ h => cvi (σ := τ) (by first | omega | exact (Int.natCast_mul _ _).symm) h))) (gB 0 (gE ok7 fun a21 s19 ok19 D17 => ?_)))); have o21 := Own.k0 o7 D17.stp
     exact tn ⟨xs.length - ((i + 1)), by omega, s19, (i + 1), rfl, (F7.step0 D17.stp), ok19, (cvi (by (first | rfl | omega | (simp_all; done) | (simp_all; omega))) (D17.dn 2 rfl rfl)), (D17.kt q13 rfl), o21, by omega, fun k h => by (by_cases e : k = i - 1; (subst e; rw [show i - 1 + 1 = i by omega]; omega); exact G k (by omega)), rfl⟩
   ·
    refine wp_exit (tx (tx (bx (tn (wp_seq ?_)))))
    refine gI a7 s5 ok6 (gM q10 (gB 0 (gE ok6 fun a22 s20 ok20 D18 => ?_))); have o22 := Own.k0 o6 D18.stp
    have q68 : At (Ty.val x) s20 a22 (.tmp 2) := D18.done 1
    refine tn (wp_ret ?_)
    exact retL1 rfl ok20 (F6.step0 D18.stp) ⟨xs, x, q68, (cvo (by (simp)) (by (simp)) o22), (by exact ⟨fun _ => rfl, fun h_ => by (rw [(dupB_iff xs).2 fun k h => G k (by omega)] at h_; cases h_)⟩)⟩


set_option maxHeartbeats 4000000 in
set_option maxRecDepth 100000 in
theorem fail_fn (e : Int) (σ : GW) (hlow : Low [] σ) (v0 : Value) (hv0 : Ty.has (Ty.int e) σ v0)  (hne : e ≠ 0) :
    FnP Tryz.prog 102 #[v0] σ [] (fun v τ => True ∧ (e = 0)) (fun c_ => c_ = fltC 103 e ∧ e ≠ 0) := by
 refine fn_introP hlow Tryz.func102 rfl Tryz.ntmps102 (Nat.le_of_ble_eq_true rfl) (fun a0 F0 ok0 hargs => ?_)
 have p0 := pB (hargs 0 _ rfl) hv0
 clear hargs
 refine gI a0 σ ok0 (gM p0 (gT (Ty.val (Value.iface 103 (Value.int .i64 e))) rfl (fun A B G H I d0 => rP (y_mkif Tryz.underlying103 rfl (ed d0 rfl rfl rfl))) (gE2 ok0 fun a1 s1 ok1 D1 => ?_)))
 exact tail_pan (D1.dn 1 (by decide) rfl rfl) (panB ok1 (F0.step0 D1.stp) ⟨rfl, by assumption⟩)


set_option maxHeartbeats 4000000 in
set_option maxRecDepth 100000 in
theorem insert_fn (x : Value) (xs : List Int) (y : Value) (ys : List Int) (σ : GW) (hlow : Low [40, 41] σ) (v0 v1 v2 : Value) (hv0 : Ty.has (Ty.val x) σ v0) (hv1 : Ty.has (Ty.nat 0) σ v1) (hv2 : Ty.has (Ty.val y) σ v2) (ho_x : Own σ 40 3 1 x (List.length xs) (List.map Ty.int xs)) (ho_y : Own σ 41 3 1 y 1 (List.map Ty.int ys)) (hx : xs.length ≤ 1000000) (hx1 : 1 ≤ xs.length) (hys : ∃ c, ys = [c]) :
    FnL Tryz.prog 121 #[v0, v1, v2] σ [40, 41] (fun v τ => ∃ (z : Value), (Ty.has (Ty.val z) τ v) ∧ (Own τ 40 3 1 z (List.length (ys ++ xs)) (List.map Ty.int (ys ++ xs)))) := by
 refine fn_introL hlow Tryz.func121 rfl Tryz.ntmps121 (Nat.le_of_ble_eq_true rfl) (fun a0 F0 ok0 hargs => ?_)
 have p0 := pB (hargs 0 _ rfl) hv0
 have p1 := pB (hargs 1 _ rfl) hv1
 have p2 := pB (hargs 2 _ rfl) hv2
 clear hargs; refine wp_seq ?_
 refine gI a0 σ ok0 (gC (Ty.val (Value.slice none 0 0)) (gE ok0 fun a1 s1 ok1 D1 => ?_)); have q1 := D1.kt p0 rfl; have q2 := D1.kt p1 rfl; have o1 := Own.k0 ho_x D1.stp; have o2 := Own.k0 ho_y D1.stp; refine tn (wp_seq ?_)
 refine gI a1 s1 ok1 (gM q1 (gM q2 (gT (Ty.val (sufOf x 0)) rfl (fun A B G H I d0 d1 => rP (y_suf (j := 0) Tryz.underlying30 Tryz.inf3 (Own.k0 o1 G) (ed d0 rfl rfl rfl) (ed d1 rfl rfl rfl) (by omega))) (gE ok1 fun a2 s2 ok2 D2 => ?_)))); have q6 := D2.kt (D1.kt p2 rfl) rfl; have o3 := Own.k0 o1 D2.stp; have o4 := Own.k0 o2 D2.stp; refine tn (wp_seq ?_)
 refine gI a2 s2 ok2 (gM q6 (gT (Ty.nat 1) rfl (fun A B G H I d0 => rP (own_len Tryz.underlying30 (al (R := (Pr.own 41 3 1 1 (List.map Ty.int ys))) (ed d0 rfl rfl rfl) (Own.k0 o4 G)))) (gB 0 (gE ok2 fun a3 s3 ok3 D3 => ?_)))); have o5 := Own.k0 o3 D3.stp; have o6 := Own.k0 o4 D3.stp; have q10 := D3.dn 2 rfl rfl; refine tn (wp_seq (wp_seq ?_))
 refine gI a3 s3 ok3 (gM q10 (gS rfl (fun A B G H I d0 => rP (y_eql (ed d0 rfl rfl rfl) rfl)) (gE ok3 fun a4 s4 ok4 D4 => ?_))); have q11 := D4.kt (D3.kt (D2.kt q1 rfl) rfl) rfl; have o7 := Own.k0 o5 D4.stp; have o8 := Own.k0 o6 D4.stp; refine tn ?_
 refine cond_p (p := (((1 : Nat) : Int) = (0 : Int))) (D4.dn 1 rfl rfl) (fun c1 => ?_) (fun c1 => ?_)
 ·
  exfalso
  omega
 ·
  refine wp_skip (tn (wp_seq ?_))
  refine gI a4 s4 ok4 (gM q11 (gT (Ty.nat (List.length xs)) rfl (fun A B G H I d0 => rP (own_len Tryz.underlying30 (al (R := (Pr.own 40 3 1 (List.length xs) (List.map Ty.int xs))) (ed d0 rfl rfl rfl) (Own.k0 o7 G)))) (gB 0 (gE ok4 fun a5 s5 ok5 D5 => ?_)))); have q17 := D5.kt (D4.kt (D3.kt (D2.kt q2 rfl) rfl) rfl) rfl; have o9 := Own.k0 o7 D5.stp; have o10 := Own.k0 o8 D5.stp; have q20 := D5.dn 2 rfl rfl; refine tn (wp_seq (wp_seq ?_))
  refine gI a5 s5 ok5 (gM q17 (gM q20 (gS rfl (fun A B G H I d0 d1 => rP (y_eql (ed d0 rfl rfl rfl) (ed d1 rfl rfl rfl))) (gE ok5 fun a6 s6 ok6 D6 => ?_)))); have q21 := D6.kt (D5.kt q11 rfl) rfl; have q24 := D6.kt (D5.kt (D4.kt q10 rfl) rfl) rfl; have q25 := D6.kt q20 rfl; have o11 := Own.k0 o9 D6.stp; have o12 := Own.k0 o10 D6.stp; refine tn ?_
  refine cond_p (p := (((0 : Nat) : Int) = (((List.length xs) : Nat) : Int))) (D6.dn 2 rfl rfl) (fun c2 => ?_) (fun c2 => ?_)
  ·
   exfalso
   omega
  ·
   refine wp_skip (tn (wp_seq (wp_seq ?_)))
   refine gI a6 s6 ok6 (gM q25 (gM q24 (gT (Ty.nat ((List.length xs) + 1)) rfl (fun A B G H I d0 d1 => rP ((y_add (ed d0 rfl rfl rfl) (ed d1 rfl rfl rfl) (w64 (by omega) (by omega))).mono (fun τ _ h => cvi (σ := τ) (by first | omega | exact (Int.natCast_mul _ _).symm) h))) (gM q21 (gT (Ty.nat (capOf x)) rfl (fun A B G H I d0 => rP (y_capO Tryz.underlying30 (Own.k0 o11 G) (ed d0 rfl rfl rfl))) (gS rfl (fun A B G H I d0 d1 => rP (y_gtr (ed d0 rfl rfl rfl) (ed d1 rfl rfl rfl))) (gE ok6 fun a7 s7 ok7 D7 => ?_))))))); have F7 := ((((((F0.step0 D1.stp).step0 D2.stp).step0 D3.stp).step0 D4.stp).step0 D5.stp).step0 D6.stp).step0 D7.stp; have q27 := D7.kt q21 rfl; have q28 := D7.kt (D6.kt q17 rfl) rfl; have q29 := D7.kt (D6.kt (D5.kt (D4.kt (D3.kt q6 rfl) rfl) rfl) rfl) rfl; have q30 := D7.kt q24 rfl; have q31 := D7.kt q25 rfl; have o13 := Own.k0 o11 D7.stp; have o14 := Own.k0 o12 D7.stp; refine tn ?_
   refine cond_p (p := ((((capOf x) : Nat) : Int) < ((((List.length xs) + 1) : Nat) : Int))) (D7.dn 5 rfl rfl) (fun c3 => ?_) (fun c3 => ?_)
   ·
    refine wp_seq ?_
    refine gI a7 s7 ok7 (gM q27 (gM q28 (gT (Ty.val (preOf x 0)) rfl (fun A B G H I d0 d1 => rP (y_pre (i := 0) Tryz.underlying30 Tryz.inf3 (Own.k0 o13 G) (ed d0 rfl rfl rfl) (ed d1 rfl rfl rfl) (by omega))) (gM q31 (gM q30 (gT (Ty.nat ((List.length xs) + 1)) rfl (fun A B G H I d0 d1 => rP ((y_add (ed d0 rfl rfl rfl) (ed d1 rfl rfl rfl) (w64 (by omega) (by omega))).mono (fun τ _ h => cvi (σ := τ) (by first | omega | exact (Int.natCast_mul _ _).symm) h))) (gM q28 (gT (Ty.nat (((List.length xs) + 1) - 0)) rfl (fun A B G H I d0 d1 => rP ((y_sub (ed d0 rfl rfl rfl) (ed d1 rfl rfl rfl) (w64 (by omega) (by omega))).mono (fun τ _ h => cvi (σ := τ) (by omega) h))) (gE2 ok7 fun a8 s8 ok8 D8 => ?_))))))))); have o15 := Own.k0 o13 D8.stp; have o16 := Own.k0 o14 D8.stp
    refine tL (R := (fun v τ => Own τ 61 3 1 v (((List.length xs) + 1) - 0) (List.replicate (((List.length xs) + 1) - 0) (Ty.int 0)))) ok8 (YldM.toL (m_appn0 (k := 61) (T := Ty.int 0) Tryz.underlying30 Tryz.underlying3 Tryz.inf3 rfl (fun _ => rfl) o15 (D8.dn 2 (by decide) rfl rfl) (D8.dn 7 (by decide) rfl rfl) (by omega) (by omega) (by omega))) fun a9 s9 hs1 ok9 r1 sm1 => ?_
    have F9 := (F7.step0 D8.stp).stepL hs1 (by decide); have q39 := kpL hs1 (by decide) (sm1 0 (by decide)) (D8.kt q27 rfl); have q40 := kpL hs1 (by decide) (sm1 1 (by decide)) (D8.kt q28 rfl); have q41 := kpL hs1 (by decide) (sm1 2 (by decide)) (D8.kt q29 rfl); have q42 := kpL hs1 (by decide) (sm1 7 (by decide)) (D8.kt q30 rfl); have o18 := Own.keepL o15 hs1 (by decide) (by decide); have o19 := Own.keepL o16 hs1 (by decide) (by decide)
    obtain ⟨x1, hx1⟩ : ∃ x, a9.eval (.tmp 40) = x := ⟨_, rfl⟩
    have q43 : At (Ty.val x1) s9 a9 (.tmp 40) := hx1
    have o17 := al2 (R := (Pr.own 61 3 1 (((List.length xs) + 1) - 0) (List.map Ty.int (List.replicate (((List.length xs) + 1) - 0) 0)))) hx1 (cvo rfl (by simp) r1)
    clear r1
    refine tL ok9 (Yld.toL (y_as q43)) fun a10 s10 hs2 ok10 r2 sm2 => ?_
    have F10 := F9.stepL hs2 (by decide); have q44 := kpL hs2 (by decide) (sm2 0 (by decide)) q39; have q45 := kpL hs2 (by decide) (sm2 1 (by decide)) q40; have q46 := kpL hs2 (by decide) (sm2 2 (by decide)) q41; have q47 := kpL hs2 (by decide) (sm2 7 (by decide)) q42; have o20 := Own.keepL o18 hs2 (by decide) (by decide); have o21 := Own.keepL o19 hs2 (by decide) (by decide); have o22 := Own.keepL o17 hs2 (by decide) (by decide)
    have q48 : At (Ty.val x1) s10 a10 (.tmp 9) := r2
    clear r2; refine wpList_nil (tn (wp_seq ?_))
    refine gI a10 s10 ok10 (gM q48 (gM q45 (gT (Ty.val (sufOf x1 0)) rfl (fun A B G H I d0 d1 => rP (y_suf (j := 0) Tryz.underlying30 Tryz.inf3 (Own.k0 o22 G) (ed d0 rfl rfl rfl) (ed d1 rfl rfl rfl) (by omega))) (gM q46 (gE2 ok10 fun a11 s11 ok11 D9 => ?_))))); have o23 := Own.k0 o20 D9.stp; have o24 := Own.k0 o21 D9.stp; have o25 := Own.k0 o22 D9.stp
    refine tL (R := (fun v τ => Pr.has (Pr.cpd 61 3 (((List.length xs) + 1) - 0) x1 (1 - 0) ((List.map Ty.int (List.replicate (((List.length xs) + 1) - 0) 0)).take 0 ++ (List.map Ty.int ys).drop 0 ++ (List.map Ty.int (List.replicate (((List.length xs) + 1) - 0) 0)).drop (0 + (1 - 0)))) τ v)) ok11 (YldM.toL (m_copyO (i := 0) (j := 0) Tryz.underlying30 Tryz.inf3 (by decide) o25 o24 (D9.dn 2 (by decide) rfl rfl) (((D9.dn 3 (by decide) rfl rfl) : _ = _).trans (Own.suf0 o24 (by omega)).symm) (one_map (fun _ => one_val rfl)) (by omega) (by omega) (by omega))) fun a12 s12 hs3 ok12 r3 sm3 => ?_
    have F12 := (F10.step0 D9.stp).stepL hs3 (by decide); have q55 := kpL hs3 (by decide) (sm3 0 (by decide)) (D9.kt q44 rfl); have q56 := kpL hs3 (by decide) (sm3 1 (by decide)) (D9.kt q45 rfl); have q57 := kpL hs3 (by decide) (sm3 7 (by decide)) (D9.kt q47 rfl); have q58 := kpL hs3 (by decide) (sm3 9 (by decide)) (D9.kt q48 rfl); have o27 := Own.keepL o23 hs3 (by decide) (by decide); have o28 := Own.keepL o24 hs3 (by decide) (by decide)
    have q59 : At (Ty.nat (1 - 0)) s12 a12 (.tmp 45) := (r3).1
    have o26 : Own s12 61 3 1 x1 (((List.length xs) + 1) - 0) (List.map Ty.int ((List.replicate (((List.length xs) + 1) - 0) 0).take 0 ++ ys.drop 0 ++ (List.replicate (((List.length xs) + 1) - 0) 0).drop (0 + (1 - 0)))) := cvo rfl (by simp only [List.map_append, List.map_take, List.map_drop]) (r3).2
    clear r3; refine wpList_nil (tn (wp_seq ?_))
    refine gI a12 s12 ok12 (gM q58 (gM q56 (gM q57 (gT (Ty.nat (0 + 1)) rfl (fun A B G H I d0 d1 => rP ((y_add (ed d0 rfl rfl rfl) (ed d1 rfl rfl rfl) (w64 (by omega) (by omega))).mono (fun τ _ h => cvi (σ := τ) (by first | omega | exact (Int.natCast_mul _ _).symm) h))) (gT (Ty.val (sufOf x1 (0 + 1))) rfl (fun A B G H I d0 d1 => rP (y_suf (j := (0 + 1)) Tryz.underlying30 Tryz.inf3 (Own.k0 o26 G) (ed d0 rfl rfl rfl) (ed d1 rfl rfl rfl) (by omega))) (gM q55 (gM q56 (gT (Ty.val (sufOf x 0)) rfl (fun A B G H I d0 d1 => rP (y_suf (j := 0) Tryz.underlying30 Tryz.inf3 (Own.k0 o27 G) (ed d0 rfl rfl rfl) (ed d1 rfl rfl rfl) (by omega))) (gE2 ok12 fun a13 s13 ok13 D10 => ?_))))))))); have o29 := Own.k0 o27 D10.stp; have o30 := Own.k0 o28 D10.stp; have o31 := Own.k0 o26 D10.stp
    refine tL (R := (fun v τ => Pr.has (Pr.cpd 61 3 (((List.length xs) + 1) - 0) x1 ((List.length xs) - 0) ((List.map Ty.int ((List.replicate (((List.length xs) + 1) - 0) 0).take 0 ++ ys.drop 0 ++ (List.replicate (((List.length xs) + 1) - 0) 0).drop (0 + (1 - 0)))).take (0 + 1) ++ (List.map Ty.int xs).drop 0 ++ (List.map Ty.int ((List.replicate (((List.length xs) + 1) - 0) 0).take 0 ++ ys.drop 0 ++ (List.replicate (((List.length xs) + 1) - 0) 0).drop (0 + (1 - 0)))).drop ((0 + 1) + ((List.length xs) - 0)))) τ v)) ok13 (YldM.toL (m_copyO (i := 0) (j := (0 + 1)) Tryz.underlying30 Tryz.inf3 (by decide) o31 o29 (D10.dn 4 (by decide) rfl rfl) (D10.dn 7 (by decide) rfl rfl) (one_map (fun _ => one_val rfl)) (by omega) (by omega) (by omega))) fun a14 s14 hs4 ok14 r4 sm4 => ?_
    have F14 := (F12.step0 D10.stp).stepL hs4 (by decide); have q63 := kpL hs4 (by decide) (sm4 9 (by decide)) (D10.kt q58 rfl); have o33 := Own.keepL o29 hs4 (by decide) (by decide); have o34 := Own.keepL o30 hs4 (by decide) (by decide)
    have q64 : At (Ty.nat ((List.length xs) - 0)) s14 a14 (.tmp 54) := (r4).1
    have o32 : Own s14 61 3 1 x1 (((List.length xs) + 1) - 0) (List.map Ty.int (((List.replicate (((List.length xs) + 1) - 0) 0).take 0 ++ ys.drop 0 ++ (List.replicate (((List.length xs) + 1) - 0) 0).drop (0 + (1 - 0))).take (0 + 1) ++ xs.drop 0 ++ ((List.replicate (((List.length xs) + 1) - 0) 0).take 0 ++ ys.drop 0 ++ (List.replicate (((List.length xs) + 1) - 0) 0).drop (0 + (1 - 0))).drop ((0 + 1) + ((List.length xs) - 0)))) := cvo rfl (by simp only [List.map_append, List.map_take, List.map_drop]) (r4).2
    clear r4; refine wpList_nil (tn (wp_seq ?_))
    refine gI a14 s14 ok14 (gM q63 (gB 0 (gE ok14 fun a15 s15 ok15 D11 => ?_))); have o35 := Own.k0 o33 D11.stp; have o36 := Own.k0 o34 D11.stp; have o37 := Own.k0 o32 D11.stp
    have q65 : At (Ty.val x1) s15 a15 (.tmp 6) := D11.done 1
    refine tn (wp_ret (tr ?_))
    obtain ⟨t1, e1, h1, o38⟩ := Own.retag (k' := 40) o37 (by decide) (by decide)
    rw [← e1]
    have F16 := (F14.step0 D11.stp).step h1 (by decide); have o39 := Own.keepL o35 (h1.toL (L := [61]) (by simp)) (by decide) (by decide); have o40 := Own.keepL o36 (h1.toL (L := [61]) (by simp)) (by decide) (by decide); have q66 := Ty.up (Ty.val x1) (h1.le (by decide)) q65
    exact retL1 rfl ok15 F16 ⟨x1, q66, (cvo (by (obtain ⟨c, rfl⟩ := hys; first | (simp; done) | (simp; omega) | exact ins_tail hx1)) (by (obtain ⟨c, rfl⟩ := hys; first | (simp; done) | (simp; omega) | exact ins_tail hx1)) o38)⟩
   ·
    refine wp_skip (tn (wp_seq ?_))
    refine gI a7 s7 ok7 (gM q27 (gM q31 (gM q30 (gT (Ty.nat ((List.length xs) + 1)) rfl (fun A B G H I d0 d1 => rP ((y_add (ed d0 rfl rfl rfl) (ed d1 rfl rfl rfl) (w64 (by omega) (by omega))).mono (fun τ _ h => cvi (σ := τ) (by first | omega | exact (Int.natCast_mul _ _).symm) h))) (gT (Ty.val (preOf x ((List.length xs) + 1))) rfl (fun A B G H I d0 d1 => rP (y_preX (h := ((List.length xs) + 1)) Tryz.underlying30 Tryz.inf3 (Own.k0 o13 G) (ed d0 rfl rfl rfl) (ed d1 rfl rfl rfl) (by omega))) (gB 0 (gE ok7 fun a16 s16 ok16 D12 => ?_))))))); have q67 := D12.kt q28 rfl; have q68 := D12.kt q29 rfl; have q69 := D12.kt q30 rfl; have o41 := Own.k0 o13 D12.stp; have o42 := Own.k0 o14 D12.stp; have q71 := D12.dn 5 rfl rfl; refine tn (wp_seq (wp_seq ?_))
    have hfx : SlForm (preOf x ((List.length xs) + 1)) ((List.length xs) + 1) := SlForm.pre (Own.form o41) (by omega)
    refine gI a16 s16 ok16 (gM q68 (gM q71 (gM q67 (gM q69 (gT (Ty.nat (0 + 1)) rfl (fun A B G H I d0 d1 => rP ((y_add (ed d0 rfl rfl rfl) (ed d1 rfl rfl rfl) (w64 (by omega) (by omega))).mono (fun τ _ h => cvi (σ := τ) (by first | omega | exact (Int.natCast_mul _ _).symm) h))) (gT (Ty.val (sufOf (preOf x ((List.length xs) + 1)) (0 + 1))) rfl (fun A B G H I d0 d1 => rP (y_sufF (j := (0 + 1)) Tryz.underlying30 Tryz.inf3 hfx (ed d0 rfl rfl rfl) (ed d1 rfl rfl rfl) (by omega))) (gT (Ty.bool false) rfl (fun A B G H I d0 d1 => rP (y_ovl (tr := 4) (h := ((List.length xs) + 1)) (j := (0 + 1)) Tryz.underlying30 Tryz.inf3 (Own.k0 o42 G) (Own.k0 o41 G) (by decide) (by omega) (by omega) (ed d0 rfl rfl rfl) (ed d1 rfl rfl rfl) (by omega) (fun args_ w_ => run_callFunc_extern Tryz.func133 (by kernel_rfl) (by kernel_rfl) (by kernel_rfl) (by kernel_rfl) args_ w_) Tryz.func133)) (gS rfl (fun A B G H I d0 => rP (y_not (ed d0 rfl rfl rfl))) (gE ok16 fun a17 s17 ok17 D13 => ?_))))))))); have q72 := D13.kt q67 rfl; have q76 := D13.kt q71 rfl; have o43 := Own.k0 o41 D13.stp; have o44 := Own.k0 o42 D13.stp; refine tn ?_
    refine cond_t (D13.dn 7 rfl rfl) (fun c4 => ?_) (fun c4 => ?_)
    ·
     refine wp_seq ?_
     refine gI a17 s17 ok17 (gM q76 (gM q72 (gM (D13.kt q69 rfl) (gT (Ty.nat (0 + 1)) rfl (fun A B G H I d0 d1 => rP ((y_add (ed d0 rfl rfl rfl) (ed d1 rfl rfl rfl) (w64 (by omega) (by omega))).mono (fun τ _ h => cvi (σ := τ) (by first | omega | exact (Int.natCast_mul _ _).symm) h))) (gT (Ty.val (sufOf (preOf x ((List.length xs) + 1)) (0 + 1))) rfl (fun A B G H I d0 d1 => rP (y_sufF (j := (0 + 1)) Tryz.underlying30 Tryz.inf3 hfx (ed d0 rfl rfl rfl) (ed d1 rfl rfl rfl) (by omega))) (gM q76 (gM q72 (gT (Ty.val (sufOf (preOf x ((List.length xs) + 1)) 0)) rfl (fun A B G H I d0 d1 => rP (y_sufF (j := 0) Tryz.underlying30 Tryz.inf3 hfx (ed d0 rfl rfl rfl) (ed d1 rfl rfl rfl) (by omega))) (gE2 ok17 fun a18 s18 ok18 D14 => ?_))))))))); have o45 := Own.k0 o43 D14.stp; have o46 := Own.k0 o44 D14.stp
     refine tL (R := (fun v τ => Pr.has (Pr.cpd 40 3 ((List.length xs) + 1) (preOf x ((List.length xs) + 1)) (List.length xs) ((List.map Ty.int xs).take 1 ++ (List.map Ty.int xs))) τ v)) ok18 (YldM.toL (m_copyX Tryz.underlying30 Tryz.inf3 (by decide) o45 (by omega) (by omega) (D14.dn 4 (by decide) rfl rfl) (D14.dn 7 (by decide) rfl rfl) (one_map (fun _ => one_val rfl)))) fun a19 s19 hs5 ok19 r5 sm5 => ?_
     have F20 := (((F7.step0 D12.stp).step0 D13.stp).step0 D14.stp).stepL hs5 (by decide); have q83 := kpL hs5 (by decide) (sm5 1 (by decide)) (D14.kt q72 rfl); have q84 := kpL hs5 (by decide) (sm5 2 (by decide)) (D14.kt (D13.kt q68 rfl) rfl); have q85 := kpL hs5 (by decide) (sm5 0 (by decide)) (D14.kt q76 rfl); have o48 := Own.keepL o46 hs5 (by decide) (by decide)
     have q86 : At (Ty.nat (List.length xs)) s19 a19 (.tmp 77) := (r5).1
     have o47 : Own s19 40 3 1 (preOf x ((List.length xs) + 1)) ((List.length xs) + 1) (List.map Ty.int (xs.take 1 ++ xs)) := cvo rfl (by simp only [List.map_append, List.map_take]) (r5).2
     clear r5; refine wpList_nil (tn (wp_seq ?_))
     refine gI a19 s19 ok19 (gM q85 (gM q83 (gT (Ty.val (sufOf (preOf x ((List.length xs) + 1)) 0)) rfl (fun A B G H I d0 d1 => rP (y_suf (j := 0) Tryz.underlying30 Tryz.inf3 (Own.k0 o47 G) (ed d0 rfl rfl rfl) (ed d1 rfl rfl rfl) (by omega))) (gM q84 (gE2 ok19 fun a20 s20 ok20 D15 => ?_))))); have o49 := Own.k0 o48 D15.stp; have o50 := Own.k0 o47 D15.stp
     refine tL (R := (fun v τ => Pr.has (Pr.cpd 40 3 ((List.length xs) + 1) (preOf x ((List.length xs) + 1)) (1 - 0) ((List.map Ty.int (xs.take 1 ++ xs)).take 0 ++ (List.map Ty.int ys).drop 0 ++ (List.map Ty.int (xs.take 1 ++ xs)).drop (0 + (1 - 0)))) τ v)) ok20 (YldM.toL (m_copyO (i := 0) (j := 0) Tryz.underlying30 Tryz.inf3 (by decide) o50 o49 (D15.dn 2 (by decide) rfl rfl) (((D15.dn 3 (by decide) rfl rfl) : _ = _).trans (Own.suf0 o49 (by omega)).symm) (one_map (fun _ => one_val rfl)) (by omega) (by omega) (by omega))) fun a21 s21 hs6 ok21 r6 sm6 => ?_
     have F22 := (F20.step0 D15.stp).stepL hs6 (by decide); have q90 := kpL hs6 (by decide) (sm6 0 (by decide)) (D15.kt q85 rfl); have o52 := Own.keepL o49 hs6 (by decide) (by decide)
     have q91 : At (Ty.nat (1 - 0)) s21 a21 (.tmp 82) := (r6).1
     have o51 : Own s21 40 3 1 (preOf x ((List.length xs) + 1)) ((List.length xs) + 1) (List.map Ty.int ((xs.take 1 ++ xs).take 0 ++ ys.drop 0 ++ (xs.take 1 ++ xs).drop (0 + (1 - 0)))) := cvo rfl (by simp only [List.map_append, List.map_take, List.map_drop]) (r6).2
     clear r6; refine wpList_nil (tn (wp_seq ?_))
     refine gI a21 s21 ok21 (gM q90 (gB 0 (gE ok21 fun a22 s22 ok22 D16 => ?_))); have o53 := Own.k0 o52 D16.stp; have o54 := Own.k0 o51 D16.stp; refine tn (wp_ret (tr ?_))
     exact retL1 rfl ok22 (F22.step0 D16.stp) ⟨(preOf x ((List.length xs) + 1)), (D16.dn 1 rfl rfl), (cvo (by (obtain ⟨c, rfl⟩ := hys; first | (simp; done) | (simp; omega) | exact ins_tail hx1)) (by (obtain ⟨c, rfl⟩ := hys; first | (simp; done) | (simp; omega) | exact ins_tail hx1)) o54)⟩
    ·
     exfalso
     simp at c4

theorem Tryz.inf4 : Info Tryz.prog 4 (.bool false) 1 1 := by unfold Info; kernel_rfl
theorem Tryz.fld107_0 : fieldOf Tryz.prog 107 0 = some (3, 0) := by kernel_rfl
theorem Tryz.fld107_2 : fieldOf Tryz.prog 107 2 = some (22, 2) := by kernel_rfl
theorem Tryz.fld107_6 : fieldOf Tryz.prog 107 6 = some (4, 6) := by kernel_rfl
set_option maxHeartbeats 4000000 in
set_option maxRecDepth 100000 in
theorem put_fn (r av bv sv : Value) (n : Int) (blk : List (List Int)) (mir : Bool) (opn : Bool) (dot : Bool) (l : List Int) (σ : GW) (hlow : Low [40, 42] σ) (v0 v1 : Value) (hv0 : Ty.has (Ty.val r) σ v0) (hv1 : Ty.has (Ty.lst Ty.int l) σ v1) (ho_r : OwnP σ 40 r [(Ty.int n), (Ty.val av), (Ty.val bv), (Ty.bool mir), (Ty.val sv), (Ty.bool opn), (Ty.bool dot)]) (ho_bv : Own σ 42 30 1 bv (List.length blk) (List.map Ty.ints blk)) (hb : blk.length ≤ 1000) (hn : -1000 ≤ n ∧ n ≤ 1000) :
    FnP Tryz.prog 101 #[v0, v1] σ [40, 42] (fun v τ => ∃ (bz : Value), True ∧ (OwnP τ 40 r [(Ty.int n), (Ty.val av), (Ty.val bz), (Ty.bool mir), (Ty.val sv), (Ty.bool opn), (Ty.bool true)]) ∧ (Own τ 42 30 1 bz (List.length (blk ++ [l])) (List.map Ty.ints (blk ++ [l]))) ∧ ((plPutE n blk.length l) = 0)) (fun c_ => c_ = fltC 103 (plPutE n blk.length l) ∧ (plPutE n blk.length l) ≠ 0) := by
 refine fn_introP hlow Tryz.func101 rfl Tryz.ntmps101 (Nat.le_of_ble_eq_true rfl) (fun a0 F0 ok0 hargs => ?_)
 have p0 := pB (hargs 0 _ rfl) hv0
 have p1 := pB (hargs 1 _ rfl) hv1
 have b1 := sl_le p1
 clear hargs; refine wp_seq (wp_seq ?_)
 refine gI a0 σ ok0 (gM p0 (gT (Ty.val r) rfl (fun A B G H I d0 => rP (y_nilp (OwnP.k0 ho_r G) (ed d0 rfl rfl rfl))) (gT (Ty.val (ptrAt r 0)) rfl (fun A B G H I d0 => rP (ownp_field Tryz.fld107_0 Tryz.inf3 (by decide) (OwnP.k0 ho_r G) (ed d0 rfl rfl rfl))) (gS rfl (fun A B G H I d0 => rP (ownp_load Tryz.underlying3 rfl (OwnP.k0 ho_r G) (ed d0 rfl rfl rfl) rfl)) (gM p1 (gS rfl (fun A B G H I d0 d1 => rP (y_call _ Tryz.func36 rfl rfl my2 (pCheck_fn (n) (l) _ _ _ (ed d0 rfl rfl rfl) (ed d1 rfl rfl rfl) (by omega)))) (gB 0 (gE ok0 fun a1 s1 ok1 D1 => ?_)))))))); have o1 := OwnP.k0 ho_r D1.stp; have o2 := Own.k0 ho_bv D1.stp; have q3 := D1.dn 6 rfl rfl; refine tn (wp_seq ?_)
 refine gI a1 s1 ok1 (gM q3 (gS rfl (fun A B G H I d0 => rP (y_neq (ed d0 rfl rfl rfl) rfl)) (gE ok1 fun a2 s2 ok2 D2 => ?_))); have F2 := (F0.step0 D1.stp).step0 D2.stp; have q4 := D2.kt (D1.kt p0 rfl) rfl; have q5 := D2.kt (D1.kt p1 rfl) rfl; have o3 := OwnP.k0 o1 D2.stp; have o4 := Own.k0 o2 D2.stp; refine tn ?_
 refine cond_p (p := ((chgMay n l) ≠ (0 : Int))) (D2.dn 1 rfl rfl) (fun c1 => ?_) (fun c1 => ?_)
 ·
  refine gI a2 s2 ok2 (gM (D2.kt q3 rfl) (gE2 ok2 fun a3 s3 ok3 D3 => ?_)); have F3 := F2.step0 D3.stp; have o5 := OwnP.k0 o3 D3.stp; have o6 := Own.k0 o4 D3.stp
  refine tailP (L := []) (R := (fun v τ' => ∃ τ, (fun v τ => True ∧ (((chgMay n l)) = 0)) v τ ∧ Back [] τ τ')) (E := (fun c_ => c_ = fltC 103 ((chgMay n l)) ∧ ((chgMay n l)) ≠ 0)) rfl rfl (by decide) ok3 (y_callP (L := []) [] [] #[a3.eval (.tmp 13)] rfl (by decide) Tryz.func102 rfl rfl (by simp only [List.map_toArray, List.map_cons, List.map_nil]) (fail_fn ((chgMay n l)) _ (GW.low_lend _ (by decide)) _ (Ty.up _ (GW.le_lend _ _) (cvi (σ := s3) (by omega) (D3.dn 0 (by decide) rfl rfl)))  (by omega))) (fun c_ t_ hs_ he_ => panB ok3 (F3.stepL hs_ (by decide)) (fltTo (fun h_ => by exact putE_1 c1) he_)) (fun a4 s4 hs1 ok4 r1 sm1 => ?_)
  have F4 := F3.stepL hs1 (by decide); have q11 := kpL hs1 (by decide) (sm1 0 (by decide)) (D3.kt q4 rfl); have q12 := kpL hs1 (by decide) (sm1 1 (by decide)) (D3.kt q5 rfl); have o7 := OwnP.keepL o5 hs1 (by decide) (by decide); have o8 := Own.keepL o6 hs1 (by decide) (by decide)
  obtain ⟨t1, ⟨hT1, hp1⟩, B1⟩ := r1
  exact absurd hp1 (by first | decide | assumption | omega)
 ·
  refine wp_skip (tn (wp_seq ?_))
  refine gI a2 s2 ok2 (gM q4 (gM q4 (gT (Ty.val r) rfl (fun A B G H I d0 => rP (y_nilp (OwnP.k0 o3 G) (ed d0 rfl rfl rfl))) (gT (Ty.val (ptrAt r 2)) rfl (fun A B G H I d0 => rP (ownp_field Tryz.fld107_2 Tryz.inf22 (by decide) (OwnP.k0 o3 G) (ed d0 rfl rfl rfl))) (gS rfl (fun A B G H I d0 => rP (ownp_load Tryz.underlying22 rfl (OwnP.k0 o3 G) (ed d0 rfl rfl rfl) rfl)) (gM q5 (gT (Ty.sl 1 1 [(Ty.lst Ty.int l)]) rfl (fun A B G H I d0 => rP (y_build1o Tryz.underlying22 Tryz.inf30 rfl (one_sl) (ed d0 rfl rfl rfl))) (gE2 ok2 fun a5 s5 ok5 D4 => ?_)))))))); have o9 := OwnP.k0 o3 D4.stp; have o10 := Own.k0 o4 D4.stp; have q17 := D4.dn 6 (by decide) rfl rfl
  have b2 := sl_le q17
  refine tL ok5 (YldM.toL (m_append Tryz.underlying22 Tryz.inf30 (by decide) rfl (by decide) (al (R := (Pr.own 42 30 1 (List.length blk) (List.map Ty.ints blk))) (D4.dn 4 (by decide) rfl rfl) o10) q17 (by intro U hU; simp at hU; subst hU; exact one_sl) (by omega) (by omega))) fun a6 s6 hs2 ok6 r2 sm2 => ?_
  have F6 := (F2.step0 D4.stp).stepL hs2 (by decide); have q18 := kpL hs2 (by decide) (sm2 0 (by decide)) (D4.kt q4 rfl); have q19 := kpL hs2 (by decide) (sm2 15 (by decide)) (D4.dn 0 (by decide) rfl rfl); have o12 := OwnP.keepL o9 hs2 (by decide) (by decide)
  obtain ⟨x1, hx1⟩ : ∃ x, a6.eval (.tmp 22) = x := ⟨_, rfl⟩
  have q20 : At (Ty.val x1) s6 a6 (.tmp 22) := hx1
  have o11 := al2 (R := (Pr.own 42 30 1 (List.length (blk ++ [l])) (List.map Ty.ints (blk ++ [l])))) hx1 (cvo (by simp) (by first | (rw [List.map_append]; rfl) | simp) r2)
  clear r2
  refine tL (R := (fun v τ => Pr.has (Ty.pr (Ty.val r)) τ v)) ok6 (Yld.toL (y_nilp o12 q19)) fun a7 s7 hs3 ok7 r3 sm3 => ?_
  have F7 := F6.stepL hs3 (by decide); have q21 := kpL hs3 (by decide) (sm3 0 (by decide)) q18; have q22 := kpL hs3 (by decide) (sm3 22 (by decide)) q20; have o13 := OwnP.keepL o12 hs3 (by decide) (by decide); have o14 := Own.keepL o11 hs3 (by decide) (by decide)
  have q23 : At (Ty.val r) s7 a7 (.tmp 23) := r3
  clear r3
  refine tL (R := (fun v τ => Pr.has (Ty.pr (Ty.val (ptrAt r 2))) τ v)) ok7 (Yld.toL (ownp_field Tryz.fld107_2 Tryz.inf22 (by decide) o13 q23)) fun a8 s8 hs4 ok8 r4 sm4 => ?_
  have F8 := F7.stepL hs4 (by decide); have q24 := kpL hs4 (by decide) (sm4 0 (by decide)) q21; have q25 := kpL hs4 (by decide) (sm4 22 (by decide)) q22; have o15 := OwnP.keepL o13 hs4 (by decide) (by decide); have o16 := Own.keepL o14 hs4 (by decide) (by decide)
  have q26 : At (Ty.val (ptrAt r 2)) s8 a8 (.tmp 24) := r4
  clear r4
  refine tailL0 (L := [40]) (R := (fun _ τ => OwnP τ 40 r ([(Ty.int n), (Ty.val av), (Ty.val bv), (Ty.bool mir), (Ty.val sv), (Ty.bool opn), (Ty.bool dot)].set 2 (Ty.val x1)))) rfl rfl (YldM.toL (m_storep Tryz.inf22 (by decide) o15 q26 (Nat.le_of_ble_eq_true rfl) q25 (one_val (Own.one o16)))) (fun v1 s9 hs5 r5 => ?_)
  have F9 := F8.stepL hs5 (by decide); have q27 := kpL hs5 (by decide) rfl q24; have o18 := Own.keepL o16 hs5 (by decide) (by decide)
  have o17 : OwnP s9 40 r [(Ty.int n), (Ty.val av), (Ty.val x1), (Ty.bool mir), (Ty.val sv), (Ty.bool opn), (Ty.bool dot)] := r5
  clear r5; refine wpList_nil (tn (wp_seq ?_))
  refine gI a8 s9 ok8 (gM q27 (gT (Ty.val r) rfl (fun A B G H I d0 d1 => rP (y_nilp (OwnP.k0 o17 G) (ed d0 rfl rfl rfl))) (gT (Ty.val (ptrAt r 6)) rfl (fun A B G H I d0 d1 => rP (ownp_field Tryz.fld107_6 Tryz.inf4 (by decide) (OwnP.k0 o17 G) (ed d0 rfl rfl rfl))) (gE2 ok8 fun a9 s10 ok9 D5 => ?_)))); have o19 := Own.k0 o18 D5.stp; have o20 := OwnP.k0 o17 D5.stp
  refine tailL0 (L := [40]) (R := (fun _ τ => OwnP τ 40 r ([(Ty.int n), (Ty.val av), (Ty.val x1), (Ty.bool mir), (Ty.val sv), (Ty.bool opn), (Ty.bool dot)].set 6 (Ty.bool true)))) rfl rfl (YldM.toL (m_storep Tryz.inf4 (by decide) o20 (D5.dn 2 (by decide) rfl rfl) (Nat.le_of_ble_eq_true rfl) rfl (one_val rfl))) (fun v2 s11 hs6 r6 => ?_)
  have F11 := (F9.step0 D5.stp).stepL hs6 (by decide); have q31 := kpL hs6 (by decide) rfl (D5.kt q27 rfl); have o22 := Own.keepL o19 hs6 (by decide) (by decide)
  have o21 : OwnP s11 40 r [(Ty.int n), (Ty.val av), (Ty.val x1), (Ty.bool mir), (Ty.val sv), (Ty.bool opn), (Ty.bool true)] := r6
  clear r6; refine wpList_nil (tn (wp_seq ?_))
  refine gI a9 s11 ok9 (gM q31 (gT (Ty.val r) rfl (fun A B G H I d0 => rP (y_nilp (OwnP.k0 o21 G) (ed d0 rfl rfl rfl))) (gT (Ty.val (ptrAt r 2)) rfl (fun A B G H I d0 => rP (ownp_field Tryz.fld107_2 Tryz.inf22 (by decide) (OwnP.k0 o21 G) (ed d0 rfl rfl rfl))) (gS rfl (fun A B G H I d0 => rP (ownp_load Tryz.underlying22 rfl (OwnP.k0 o21 G) (ed d0 rfl rfl rfl) rfl)) (gT (Ty.nat (List.length (blk ++ [l]))) rfl (fun A B G H I d0 => rP (own_len Tryz.underlying22 (al (R := (Pr.own 42 30 1 (List.length (blk ++ [l])) (List.map Ty.ints (blk ++ [l])))) (ed d0 rfl rfl rfl) (Own.k0 o22 G)))) (gS rfl (fun A B G H I d0 => rP (y_gtr (ed d0 rfl rfl rfl) rfl)) (gE ok9 fun a10 s12 ok10 D6 => ?_))))))); have F12 := F11.step0 D6.stp; have o23 := Own.k0 o22 D6.stp; have o24 := OwnP.k0 o21 D6.stp; refine tn ?_
  refine cond_p (p := ((200 : Int) < (((List.length (blk ++ [l])) : Nat) : Int))) (D6.dn 5 rfl rfl) (fun c2 => ?_) (fun c2 => ?_)
  ·
   refine gI a10 s12 ok10 (gE2 ok10 fun a11 s13 ok11 D7 => ?_); have F13 := F12.step0 D7.stp; have o25 := Own.k0 o23 D7.stp; have o26 := OwnP.k0 o24 D7.stp
   refine tailP (L := []) (R := (fun v τ' => ∃ τ, (fun v τ => True ∧ (((3 : Int)) = 0)) v τ ∧ Back [] τ τ')) (E := (fun c_ => c_ = fltC 103 ((3 : Int)) ∧ ((3 : Int)) ≠ 0)) rfl rfl (by decide) ok11 (y_callP (L := []) [] [] #[a11.eval ((Operand.const (Value.int IntKind.i64 3)))] rfl (by decide) Tryz.func102 rfl rfl (by simp only [List.map_toArray, List.map_cons, List.map_nil]) (fail_fn ((3 : Int)) _ (GW.low_lend _ (by decide)) _ (Ty.up _ (GW.le_lend _ _) (cvi (σ := s13) (by omega) rfl))  (by omega))) (fun c_ t_ hs_ he_ => panB ok11 (F13.stepL hs_ (by decide)) (fltTo (fun h_ => by exact putE_2 c1 (by rw [List.length_append, List.length_singleton] at c2; omega)) he_)) (fun a12 s14 hs7 ok12 r7 sm5 => ?_)
   have F14 := F13.stepL hs7 (by decide); have o27 := Own.keepL o25 hs7 (by decide) (by decide); have o28 := OwnP.keepL o26 hs7 (by decide) (by decide)
   obtain ⟨t2, ⟨hT2, hp2⟩, B2⟩ := r7
   exact absurd hp2 (by first | decide | assumption | omega)
  ·
   refine wp_skip ?_
   refine toPn ?_
   exact nL0 rfl ok10 F12 ⟨x1, trivial, o24, o23, (by exact putE_0 c1 (by rw [List.length_append, List.length_singleton] at c2; omega))⟩


theorem Tryz.fld107_4 : fieldOf Tryz.prog 107 4 = some (30, 4) := by kernel_rfl
theorem Tryz.fld107_5 : fieldOf Tryz.prog 107 5 = some (4, 5) := by kernel_rfl
set_option maxHeartbeats 4000000 in
set_option maxRecDepth 100000 in
theorem close_fn (r av bv sv : Value) (n : Int) (blk : List (List Int)) (mir : Bool) (dot : Bool) (ql : List Int) (σ : GW) (hlow : Low [40, 42, 43] σ) (v0 : Value) (hv0 : Ty.has (Ty.val r) σ v0) (ho_r : OwnP σ 40 r [(Ty.int n), (Ty.val av), (Ty.val bv), (Ty.bool mir), (Ty.val sv), (Ty.bool (!(List.isEmpty ql))), (Ty.bool dot)]) (ho_bv : Own σ 42 30 1 bv (List.length blk) (List.map Ty.ints blk)) (ho_sv : Own σ 43 3 1 sv (List.length ql) (List.map Ty.int ql)) (hb : blk.length ≤ 1000) (hn : 1 ≤ n ∧ n ≤ 12) (G : ql.length ≤ 100000) (hsv : ∀ k, k < ql.length → 1 ≤ ql.getD k 0 ∧ ql.getD k 0 ≤ 12) :
    FnP Tryz.prog 100 #[v0] σ [40, 42, 43] (fun v τ => ∃ (bz : Value), ∃ (sz : Value), True ∧ (OwnP τ 40 r [(Ty.int n), (Ty.val av), (Ty.val bz), (Ty.bool mir), (Ty.val sz), (Ty.bool false), (Ty.bool (clD ql dot))]) ∧ (Own τ 42 30 1 bz (List.length (clB n blk ql)) (List.map Ty.ints (clB n blk ql))) ∧ (Own τ 43 3 1 sz (List.length ([] : List Int)) (List.map Ty.int ([] : List Int))) ∧ ((clE n blk ql) = 0)) (fun c_ => c_ = fltC 103 (clE n blk ql) ∧ (clE n blk ql) ≠ 0) := by
 have hsl : (1 ≤ ql.length) ∨ ql = [] := (by cases ql; exact .inr rfl; exact .inl (by simp))
 refine fn_introP hlow Tryz.func100 rfl Tryz.ntmps100 (Nat.le_of_ble_eq_true rfl) (fun a0 F0 ok0 hargs => ?_)
 have p0 := pB (hargs 0 _ rfl) hv0
 clear hargs; refine wp_seq (wp_seq ?_)
 refine gI a0 σ ok0 (gM p0 (gT (Ty.val r) rfl (fun A B G H I d0 => rP (y_nilp (OwnP.k0 ho_r G) (ed d0 rfl rfl rfl))) (gT (Ty.val (ptrAt r 5)) rfl (fun A B G H I d0 => rP (ownp_field Tryz.fld107_5 Tryz.inf4 (by decide) (OwnP.k0 ho_r G) (ed d0 rfl rfl rfl))) (gS rfl (fun A B G H I d0 => rP (ownp_load Tryz.underlying4 rfl (OwnP.k0 ho_r G) (ed d0 rfl rfl rfl) rfl)) (gS rfl (fun A B G H I d0 => rP (y_not (ed d0 rfl rfl rfl))) (gE ok0 fun a1 s1 ok1 D1 => ?_)))))); have F1 := F0.step0 D1.stp; have q1 := D1.kt p0 rfl; have o1 := OwnP.k0 ho_r D1.stp; have o2 := Own.k0 ho_bv D1.stp; have o3 := Own.k0 ho_sv D1.stp; refine tn ?_
 refine cond_t (D1.dn 4 rfl rfl) (fun c1 => ?_) (fun c1 => ?_)
 ·
  have hsn : ql = [] := by simpa using c1
  refine wp_ret (tr ?_)
  refine toP ?_
  exact retL0 rfl ok1 F1 ⟨bv, sv, trivial, (ownp_cell 6 (Ty.bool (clD ql dot)) (ownp_cell 5 (Ty.bool false) o1 rfl (fun _ _ h => (cvb (by (first | (rw [hsn]; done) | (rw [hsn]; rfl))) h))) rfl (fun _ _ h => (cvb (by (first | (rw [hsn]; done) | (rw [hsn]; rfl))) h))), (cvo (by (rw [hsn, clB_nil])) (by (rw [hsn, clB_nil])) o2), (cvo (by (rw [hsn])) (by (rw [hsn])) o3), (by rw [hsn]; exact clE_nil)⟩
 ·
  have hsn : ql ≠ [] := (by simpa using c1); have hq1 : 1 ≤ ql.length := hsl.resolve_right hsn
  refine wp_skip (tn (wp_seq ?_))
  refine gI a1 s1 ok1 (gM q1 (gT (Ty.val r) rfl (fun A B G H I d0 => rP (y_nilp (OwnP.k0 o1 G) (ed d0 rfl rfl rfl))) (gT (Ty.val (ptrAt r 4)) rfl (fun A B G H I d0 => rP (ownp_field Tryz.fld107_4 Tryz.inf30 (by decide) (OwnP.k0 o1 G) (ed d0 rfl rfl rfl))) (gS rfl (fun A B G H I d0 => rP (ownp_load Tryz.underlying30 rfl (OwnP.k0 o1 G) (ed d0 rfl rfl rfl) rfl)) (gB 0 (gE ok1 fun a2 s2 ok2 D2 => ?_)))))); have q3 := D2.kt q1 rfl; have o4 := OwnP.k0 o1 D2.stp; have o5 := Own.k0 o2 D2.stp; have o6 := Own.k0 o3 D2.stp; refine tn (wp_seq ?_)
  refine gI a2 s2 ok2 (gM q3 (gM q3 (gT (Ty.val r) rfl (fun A B G H I d0 d1 d2 => rP (y_nilp (OwnP.k0 o4 G) (ed d0 rfl rfl rfl))) (gT (Ty.val (ptrAt r 4)) rfl (fun A B G H I d0 d1 d2 => rP (ownp_field Tryz.fld107_4 Tryz.inf30 (by decide) (OwnP.k0 o4 G) (ed d0 rfl rfl rfl))) (gE2 ok2 fun a3 s3 ok3 D3 => ?_))))); have o7 := OwnP.k0 o4 D3.stp; have o8 := Own.k0 o5 D3.stp; have o9 := Own.k0 o6 D3.stp
  refine tailL0 (L := [40]) (R := (fun _ τ => OwnP τ 40 r ([(Ty.int n), (Ty.val av), (Ty.val bv), (Ty.bool mir), (Ty.val sv), (Ty.bool (!(List.isEmpty ql))), (Ty.bool dot)].set 4 (Ty.val (Value.slice none 0 0))))) rfl rfl (YldM.toL (m_storep Tryz.inf30 (by decide) o7 (D3.dn 3 (by decide) rfl rfl) (Nat.le_of_ble_eq_true rfl) rfl (one_val rfl))) (fun v1 s4 hs1 r1 => ?_)
  have F4 := ((F1.step0 D2.stp).step0 D3.stp).stepL hs1 (by decide); have q9 := kpL hs1 (by decide) rfl (D3.kt q3 rfl); have q10 := kpL hs1 (by decide) rfl (D3.kt (D2.dn 4 rfl rfl) rfl); have q11 := kpL hs1 (by decide) rfl (D3.dn 1 (by decide) rfl rfl); have o11 := Own.keepL o8 hs1 (by decide) (by decide); have o12 := Own.keepL o9 hs1 (by decide) (by decide)
  have o10 : OwnP s4 40 r [(Ty.int n), (Ty.val av), (Ty.val bv), (Ty.bool mir), (Ty.val (Value.slice none 0 0)), (Ty.bool (!(List.isEmpty ql))), (Ty.bool dot)] := r1
  clear r1
  refine tL (R := (fun v τ => Pr.has (Ty.pr (Ty.val r)) τ v)) ok3 (Yld.toL (y_nilp o10 q11)) fun a4 s5 hs2 ok4 r2 sm1 => ?_
  have F5 := F4.stepL hs2 (by decide); have q13 := kpL hs2 (by decide) (sm1 0 (by decide)) q9; have q14 := kpL hs2 (by decide) (sm1 2 (by decide)) q10; have o13 := Own.keepL o11 hs2 (by decide) (by decide); have o14 := Own.keepL o12 hs2 (by decide) (by decide); have o15 := OwnP.keepL o10 hs2 (by decide) (by decide)
  have q15 : At (Ty.val r) s5 a4 (.tmp 17) := r2
  clear r2
  refine tL (R := (fun v τ => Pr.has (Ty.pr (Ty.val (ptrAt r 5))) τ v)) ok4 (Yld.toL (ownp_field Tryz.fld107_5 Tryz.inf4 (by decide) o15 q15)) fun a5 s6 hs3 ok5 r3 sm2 => ?_
  have F6 := F5.stepL hs3 (by decide); have q16 := kpL hs3 (by decide) (sm2 0 (by decide)) q13; have q17 := kpL hs3 (by decide) (sm2 2 (by decide)) q14; have o16 := Own.keepL o13 hs3 (by decide) (by decide); have o17 := Own.keepL o14 hs3 (by decide) (by decide); have o18 := OwnP.keepL o15 hs3 (by decide) (by decide)
  have q18 : At (Ty.val (ptrAt r 5)) s6 a5 (.tmp 18) := r3
  clear r3
  refine tailL0 (L := [40]) (R := (fun _ τ => OwnP τ 40 r ([(Ty.int n), (Ty.val av), (Ty.val bv), (Ty.bool mir), (Ty.val (Value.slice none 0 0)), (Ty.bool (!(List.isEmpty ql))), (Ty.bool dot)].set 5 (Ty.bool false)))) rfl rfl (YldM.toL (m_storep Tryz.inf4 (by decide) o18 q18 (Nat.le_of_ble_eq_true rfl) rfl (one_val rfl))) (fun v2 s7 hs4 r4 => ?_)
  have F7 := F6.stepL hs4 (by decide); have q19 := kpL hs4 (by decide) rfl q16; have q20 := kpL hs4 (by decide) rfl q17; have o20 := Own.keepL o16 hs4 (by decide) (by decide); have o21 := Own.keepL o17 hs4 (by decide) (by decide)
  have o19 : OwnP s7 40 r [(Ty.int n), (Ty.val av), (Ty.val bv), (Ty.bool mir), (Ty.val (Value.slice none 0 0)), (Ty.bool false), (Ty.bool dot)] := r4
  clear r4; refine wpList_nil (tn (wp_seq (wp_seq ?_)))
  refine gI a5 s7 ok5 (gM q20 (gE2 ok5 fun a6 s8 ok6 D4 => ?_)); have o22 := Own.k0 o20 D4.stp; have o23 := Own.k0 o21 D4.stp; have o24 := OwnP.k0 o19 D4.stp
  refine tL ok6 (y_callL (L := [40]) [(43, 40)] [(40, 43)] #[a6.eval (.tmp 19)] rfl (by decide) Tryz.func119 rfl rfl my1 (isSortedO_fn (sv) (ql) _ (GW.low_lend _ (by decide)) _ (Ty.up _ (GW.le_lend _ _) (D4.dn 0 (by decide) rfl rfl)) (Own.ren (cvo (by (simp)) (by (simp)) o23) (GW.ren_lend _ _ (by decide) rfl)) (by omega) (by omega))) fun a7 s9 hs5 ok7 r5 sm3 => ?_
  have F9 := (F7.step0 D4.stp).stepL hs5 (by decide); have q25 := kpL hs5 (by decide) (sm3 0 (by decide)) (D4.kt q19 rfl); have q26 := kpL hs5 (by decide) (sm3 2 (by decide)) (D4.kt q20 rfl); have o27 := Own.keepL o22 hs5 (by decide) (by decide); have o28 := OwnP.keepL o24 hs5 (by decide) (by decide)
  obtain ⟨t1, ⟨hT1, o25⟩, B1⟩ := r5
  have q27 : At (Ty.bool (sortB (ql))) s9 a7 (.tmp 20) := Ty.up _ B1.le hT1
  have o26 : Own s9 43 3 1 sv (List.length (ql)) (List.map Ty.int (ql)) := Own.ren o25 (B1.ren (by decide) rfl)
  refine tL (R := (fun v τ => Pr.has (Ty.pr (Ty.bool (!(sortB (ql))))) τ v)) ok7 (Yld.toL (y_not q27)) fun a8 s10 hs6 ok8 r6 sm4 => ?_
  have F10 := F9.stepL hs6 (by decide); have q28 := kpL hs6 (by decide) (sm4 0 (by decide)) q25; have q29 := kpL hs6 (by decide) (sm4 2 (by decide)) q26; have o29 := Own.keepL o27 hs6 (by decide) (by decide); have o30 := OwnP.keepL o28 hs6 (by decide) (by decide); have o31 := Own.keepL o26 hs6 (by decide) (by decide)
  have q30 : At (Ty.bool (!(sortB (ql)))) s10 a8 (.tmp 21) := r6
  clear r6
  refine tL ok8 (Yld.toL (y_mv q30)) fun a9 s11 hs7 ok9 r7 sm5 => ?_
  have F11 := F10.stepL hs7 (by decide); have q31 := kpL hs7 (by decide) (sm5 0 (by decide)) q28; have q32 := kpL hs7 (by decide) (sm5 2 (by decide)) q29; have o32 := Own.keepL o29 hs7 (by decide) (by decide); have o33 := OwnP.keepL o30 hs7 (by decide) (by decide); have o34 := Own.keepL o31 hs7 (by decide) (by decide)
  have q33 : At (Ty.bool (!(sortB (ql)))) s11 a9 (.tmp 22) := r7
  clear r7
  rcases Bool.eq_false_or_eq_true (!(sortB (ql))) with hg1 | hg1
  ·
   have q34 : At (Ty.bool true) s11 a9 (.tmp 22) := cvb hg1 q33
   have hso : sortB ql = false := by simpa using hg1
   refine tailSkip ok9 rfl rfl (by decide) q34 rfl rfl (by decide) (fun a10 ok10 q35 sm6 => ?_)
   have q36 : At (Ty.val r) s11 a10 (.tmp 0) := kp (sm6 0 (by decide)) (Stp.refl _ _) q31
   have q37 : At (Ty.val sv) s11 a10 (.tmp 2) := kp (sm6 2 (by decide)) (Stp.refl _ _) q32
   have q38 : At (Ty.bool true) s11 a10 (.tmp 22) := kp (sm6 22 (by decide)) (Stp.refl _ _) q34
   refine tailSkip ok10 rfl rfl (by decide) q38 rfl rfl (by decide) (fun a11 ok11 q39 sm7 => ?_)
   have q40 : At (Ty.val r) s11 a11 (.tmp 0) := kp (sm7 0 (by decide)) (Stp.refl _ _) q36
   have q41 : At (Ty.val sv) s11 a11 (.tmp 2) := kp (sm7 2 (by decide)) (Stp.refl _ _) q37
   have q42 : At (Ty.bool true) s11 a11 (.tmp 22) := kp (sm7 22 (by decide)) (Stp.refl _ _) q38
   refine tailSkip ok11 rfl rfl (by decide) q42 rfl rfl (by decide) (fun a12 ok12 q43 sm8 => ?_)
   have q44 : At (Ty.val r) s11 a12 (.tmp 0) := kp (sm8 0 (by decide)) (Stp.refl _ _) q40
   have q45 : At (Ty.val sv) s11 a12 (.tmp 2) := kp (sm8 2 (by decide)) (Stp.refl _ _) q41
   have q46 : At (Ty.bool true) s11 a12 (.tmp 22) := kp (sm8 22 (by decide)) (Stp.refl _ _) q42
   refine tailSkip ok12 rfl rfl (by decide) q46 rfl rfl (by decide) (fun a13 ok13 q47 sm9 => ?_)
   have q48 : At (Ty.val r) s11 a13 (.tmp 0) := kp (sm9 0 (by decide)) (Stp.refl _ _) q44
   have q49 : At (Ty.val sv) s11 a13 (.tmp 2) := kp (sm9 2 (by decide)) (Stp.refl _ _) q45
   have q50 : At (Ty.bool true) s11 a13 (.tmp 22) := kp (sm9 22 (by decide)) (Stp.refl _ _) q46
   refine tailSkip ok13 rfl rfl (by decide) q50 rfl rfl (by decide) (fun a14 ok14 q51 sm10 => ?_)
   have q52 : At (Ty.val r) s11 a14 (.tmp 0) := kp (sm10 0 (by decide)) (Stp.refl _ _) q48
   have q53 : At (Ty.val sv) s11 a14 (.tmp 2) := kp (sm10 2 (by decide)) (Stp.refl _ _) q49
   have q54 : At (Ty.bool true) s11 a14 (.tmp 22) := kp (sm10 22 (by decide)) (Stp.refl _ _) q50
   have q55 : At (Ty.val undef) s11 a14 (.tmp 26) := kp (sm10 26 (by decide)) (Stp.refl _ _) q47
   refine tailSkip ok14 rfl rfl (by decide) q54 rfl rfl (by decide) (fun a15 ok15 q56 sm11 => ?_)
   have q57 : At (Ty.val r) s11 a15 (.tmp 0) := kp (sm11 0 (by decide)) (Stp.refl _ _) q52
   have q58 : At (Ty.val sv) s11 a15 (.tmp 2) := kp (sm11 2 (by decide)) (Stp.refl _ _) q53
   have q59 : At (Ty.bool true) s11 a15 (.tmp 22) := kp (sm11 22 (by decide)) (Stp.refl _ _) q54
   have q60 : At (Ty.val undef) s11 a15 (.tmp 26) := kp (sm11 26 (by decide)) (Stp.refl _ _) q55
   refine tailSkip ok15 rfl rfl (by decide) q59 rfl rfl (by decide) (fun a16 ok16 q61 sm12 => ?_)
   have q62 : At (Ty.val r) s11 a16 (.tmp 0) := kp (sm12 0 (by decide)) (Stp.refl _ _) q57
   have q63 : At (Ty.val sv) s11 a16 (.tmp 2) := kp (sm12 2 (by decide)) (Stp.refl _ _) q58
   have q64 : At (Ty.bool true) s11 a16 (.tmp 22) := kp (sm12 22 (by decide)) (Stp.refl _ _) q59
   refine tL (R := (fun v τ => Pr.has (Ty.pr (Ty.bool true)) τ v)) ok16 (Yld.toL (y_pickT q64 rfl)) fun a17 s12 hs8 ok17 r8 sm13 => ?_
   have F12 := F11.stepL hs8 (by decide); have q65 := kpL hs8 (by decide) (sm13 0 (by decide)) q62; have q66 := kpL hs8 (by decide) (sm13 2 (by decide)) q63; have o35 := Own.keepL o32 hs8 (by decide) (by decide); have o36 := OwnP.keepL o33 hs8 (by decide) (by decide); have o37 := Own.keepL o34 hs8 (by decide) (by decide)
   have q67 : At (Ty.bool true) s12 a17 (.tmp 30) := r8
   clear r8; refine wpList_nil (tn ?_)
   refine cond_t q67 (fun _ => ?_) (fun c2 => (by cases c2))
   refine gI a17 s12 ok17 (gE2 ok17 fun a18 s13 ok18 D5 => ?_); have F13 := F12.step0 D5.stp; have o38 := Own.k0 o35 D5.stp; have o39 := OwnP.k0 o36 D5.stp; have o40 := Own.k0 o37 D5.stp
   refine tailP (L := []) (R := (fun v τ' => ∃ τ, (fun v τ => True ∧ (((6 : Int)) = 0)) v τ ∧ Back [] τ τ')) (E := (fun c_ => c_ = fltC 103 ((6 : Int)) ∧ ((6 : Int)) ≠ 0)) rfl rfl (by decide) ok18 (y_callP (L := []) [] [] #[a18.eval ((Operand.const (Value.int IntKind.i64 6)))] rfl (by decide) Tryz.func102 rfl rfl (by simp only [List.map_toArray, List.map_cons, List.map_nil]) (fail_fn ((6 : Int)) _ (GW.low_lend _ (by decide)) _ (Ty.up _ (GW.le_lend _ _) (cvi (σ := s13) (by omega) rfl))  (by omega))) (fun c_ t_ hs_ he_ => panB ok18 (F13.stepL hs_ (by decide)) (fltTo (fun h_ => by exact clE_6 hsn (by rw [incr_sd, hso]; rfl)) he_)) (fun a19 s14 hs9 ok19 r9 sm14 => ?_)
   have F14 := F13.stepL hs9 (by decide); have q70 := kpL hs9 (by decide) (sm14 0 (by decide)) (D5.kt q65 rfl); have q71 := kpL hs9 (by decide) (sm14 2 (by decide)) (D5.kt q66 rfl); have o41 := Own.keepL o38 hs9 (by decide) (by decide); have o42 := OwnP.keepL o39 hs9 (by decide) (by decide); have o43 := Own.keepL o40 hs9 (by decide) (by decide)
   obtain ⟨t2, ⟨hT2, hp1⟩, B2⟩ := r9
   exact absurd hp1 (by first | decide | assumption | omega)
  ·
   have q73 : At (Ty.bool false) s11 a9 (.tmp 22) := cvb hg1 q33
   have hso : sortB ql = true := by simpa using hg1
   refine tailDo (L := []) (R := (fun v τ => Pr.has (Ty.pr (Ty.val sv)) τ v)) ok9 rfl rfl (by decide) q73 rfl rfl (by decide) (Yld.toL (y_move q32)) (fun a20 s15 hs10 ok20 r10 sm15 => ?_)
   have F15 := F11.stepL hs10 (by decide); have q74 := kpL hs10 (by decide) (sm15 0 (by decide)) q31; have q75 := kpL hs10 (by decide) (sm15 2 (by decide)) q32; have q76 := kpL hs10 (by decide) (sm15 22 (by decide)) q73; have o44 := Own.keepL o32 hs10 (by decide) (by decide); have o45 := OwnP.keepL o33 hs10 (by decide) (by decide); have o46 := Own.keepL o34 hs10 (by decide) (by decide)
   have q77 : At (Ty.val sv) s15 a20 (.tmp 23) := r10
   clear r10
   refine tailDo (L := [43]) (R := (fun v τ' => ∃ τ, (fun v τ => ∃ (z : Value), (Ty.has (Ty.val z) τ v) ∧ (Own τ 40 3 1 sv (List.length ((ql))) (List.map Ty.int ((ql)))) ∧ (Own τ 41 3 1 z (List.length ((ql))) (List.map Ty.int ((ql))))) v τ ∧ Back [(40, 43), (41, 61)] τ τ')) ok20 rfl rfl (by decide) q76 rfl rfl (by decide) (y_callL (L := [40]) [(43, 40)] [(40, 43), (41, 61)] #[a20.eval (.tmp 23)] rfl (by decide) Tryz.func104 rfl rfl my1 (cloneO_fn (sv) ((ql)) _ (GW.low_lend _ (by decide)) _ (Ty.up _ (GW.le_lend _ _) q77) (Own.ren (cvo (by (simp)) (by (simp)) o46) (GW.ren_lend _ _ (by decide) rfl)) (by first | omega | (simp only [List.length_append, List.length_singleton]; omega)) (by first | omega | (simp only [List.length_append, List.length_singleton]; omega)))) (fun a21 s16 hs11 ok21 r11 sm16 => ?_)
   have F16 := F15.stepL hs11 (by decide); have q78 := kpL hs11 (by decide) (sm16 0 (by decide)) q74; have q79 := kpL hs11 (by decide) (sm16 2 (by decide)) q75; have q80 := kpL hs11 (by decide) (sm16 22 (by decide)) q76; have o51 := Own.keepL o44 hs11 (by decide) (by decide); have o52 := OwnP.keepL o45 hs11 (by decide) (by decide)
   obtain ⟨t3, ⟨x1, hT3, o47, o48⟩, B3⟩ := r11
   have q81 : At (Ty.val x1) s16 a21 (.tmp 24) := Ty.up _ B3.le hT3
   have o49 : Own s16 43 3 1 sv (List.length ((ql))) (List.map Ty.int ((ql))) := Own.ren o47 (B3.ren (by decide) rfl)
   have o50 : Own s16 61 3 1 x1 (List.length ((ql))) (List.map Ty.int ((ql))) := Own.ren o48 (B3.ren (by decide) rfl)
   refine tailDo (L := [61]) (R := (fun v τ' => ∃ τ, (fun v τ => ∃ (zs : List Int), ∃ (z : Value), (Ty.has (Ty.val z) τ v) ∧ (Own τ 40 3 1 z (List.length zs) (List.map Ty.int zs)) ∧ ((dupB (((ql))) = false → zs.length = (((ql))).length) ∧ (dupB (((ql))) = true → zs.length < (((ql))).length))) v τ ∧ Back [(40, 61)] τ τ')) ok21 rfl rfl (by decide) q80 rfl rfl (by decide) (y_callL (L := [40]) [(61, 40)] [(40, 61)] #[a21.eval (.tmp 24)] rfl (by decide) Tryz.func120 rfl rfl my1 (compact_fn (x1) (((ql))) _ (GW.low_lend _ (by decide)) _ (Ty.up _ (GW.le_lend _ _) q81) (Own.ren (cvo (by (simp)) (by (simp)) o50) (GW.ren_lend _ _ (by decide) rfl)) (by omega) (by omega))) (fun a22 s17 hs12 ok22 r12 sm17 => ?_)
   have F17 := F16.stepL hs12 (by decide); have q82 := kpL hs12 (by decide) (sm17 0 (by decide)) q78; have q83 := kpL hs12 (by decide) (sm17 2 (by decide)) q79; have q84 := kpL hs12 (by decide) (sm17 22 (by decide)) q80; have o55 := Own.keepL o51 hs12 (by decide) (by decide); have o56 := OwnP.keepL o52 hs12 (by decide) (by decide); have o57 := Own.keepL o49 hs12 (by decide) (by decide)
   obtain ⟨t4, ⟨g1, x2, hT4, o53, hp2⟩, B4⟩ := r12
   have q85 : At (Ty.val x2) s17 a22 (.tmp 25) := Ty.up _ B4.le hT4
   have o54 : Own s17 61 3 1 x2 (List.length (g1)) (List.map Ty.int (g1)) := Own.ren o53 (B4.ren (by decide) rfl)
   refine tailDo (L := []) (R := (fun v τ => Pr.has (Ty.pr (Ty.nat (List.length (g1)))) τ v)) ok22 rfl rfl (by decide) q84 rfl rfl (by decide) (Yld.toL (own_len Tryz.underlying30 (al (R := (Pr.own 61 3 1 (List.length (g1)) (List.map Ty.int (g1)))) q85 o54))) (fun a23 s18 hs13 ok23 r13 sm18 => ?_)
   have F18 := F17.stepL hs13 (by decide); have q86 := kpL hs13 (by decide) (sm18 0 (by decide)) q82; have q87 := kpL hs13 (by decide) (sm18 2 (by decide)) q83; have q88 := kpL hs13 (by decide) (sm18 22 (by decide)) q84; have o58 := Own.keepL o55 hs13 (by decide) (by decide); have o59 := OwnP.keepL o56 hs13 (by decide) (by decide); have o60 := Own.keepL o57 hs13 (by decide) (by decide); have o61 := Own.keepL o54 hs13 (by decide) (by decide)
   have q89 : At (Ty.nat (List.length (g1))) s18 a23 (.tmp 26) := r13
   clear r13
   refine tailDo (L := []) (R := (fun v τ => Pr.has (Ty.pr (Ty.val sv)) τ v)) ok23 rfl rfl (by decide) q88 rfl rfl (by decide) (Yld.toL (y_move q87)) (fun a24 s19 hs14 ok24 r14 sm19 => ?_)
   have F19 := F18.stepL hs14 (by decide); have q90 := kpL hs14 (by decide) (sm19 0 (by decide)) q86; have q91 := kpL hs14 (by decide) (sm19 2 (by decide)) q87; have q92 := kpL hs14 (by decide) (sm19 22 (by decide)) q88; have q93 := kpL hs14 (by decide) (sm19 26 (by decide)) q89; have o62 := Own.keepL o58 hs14 (by decide) (by decide); have o63 := OwnP.keepL o59 hs14 (by decide) (by decide); have o64 := Own.keepL o60 hs14 (by decide) (by decide); have o65 := Own.keepL o61 hs14 (by decide) (by decide)
   have q94 : At (Ty.val sv) s19 a24 (.tmp 27) := r14
   clear r14
   refine tailDo (L := []) (R := (fun v τ => Pr.has (Ty.pr (Ty.nat (List.length ((ql))))) τ v)) ok24 rfl rfl (by decide) q92 rfl rfl (by decide) (Yld.toL (own_len Tryz.underlying30 (al (R := (Pr.own 43 3 1 (List.length ((ql))) (List.map Ty.int ((ql))))) q94 o64))) (fun a25 s20 hs15 ok25 r15 sm20 => ?_)
   have F20 := F19.stepL hs15 (by decide); have q95 := kpL hs15 (by decide) (sm20 0 (by decide)) q90; have q96 := kpL hs15 (by decide) (sm20 2 (by decide)) q91; have q97 := kpL hs15 (by decide) (sm20 22 (by decide)) q92; have q98 := kpL hs15 (by decide) (sm20 26 (by decide)) q93; have o66 := Own.keepL o62 hs15 (by decide) (by decide); have o67 := OwnP.keepL o63 hs15 (by decide) (by decide); have o68 := Own.keepL o64 hs15 (by decide) (by decide); have o69 := Own.keepL o65 hs15 (by decide) (by decide)
   have q99 : At (Ty.nat (List.length ((ql)))) s20 a25 (.tmp 28) := r15
   clear r15
   refine tailDo (L := []) (R := (fun v τ => Pr.has (Ty.pr (Ty.bool (decide ((((List.length (g1)) : Nat) : Int) < (((List.length ((ql))) : Nat) : Int))))) τ v)) ok25 rfl rfl (by decide) q97 rfl rfl (by decide) (Yld.toL (y_lss q98 q99)) (fun a26 s21 hs16 ok26 r16 sm21 => ?_)
   have F21 := F20.stepL hs16 (by decide); have q100 := kpL hs16 (by decide) (sm21 0 (by decide)) q95; have q101 := kpL hs16 (by decide) (sm21 2 (by decide)) q96; have q102 := kpL hs16 (by decide) (sm21 22 (by decide)) q97; have o70 := Own.keepL o66 hs16 (by decide) (by decide); have o71 := OwnP.keepL o67 hs16 (by decide) (by decide); have o72 := Own.keepL o68 hs16 (by decide) (by decide); have o73 := Own.keepL o69 hs16 (by decide) (by decide)
   have q103 : At (Ty.bool (decide ((((List.length (g1)) : Nat) : Int) < (((List.length ((ql))) : Nat) : Int)))) s21 a26 (.tmp 29) := r16
   clear r16
   refine tL (R := (fun v τ => Pr.has (Ty.pr (Ty.bool (decide ((((List.length (g1)) : Nat) : Int) < (((List.length ((ql))) : Nat) : Int))))) τ v)) ok26 (Yld.toL (y_pickF q102 q103)) fun a27 s22 hs17 ok27 r17 sm22 => ?_
   have F22 := F21.stepL hs17 (by decide); have q104 := kpL hs17 (by decide) (sm22 0 (by decide)) q100; have q105 := kpL hs17 (by decide) (sm22 2 (by decide)) q101; have o74 := Own.keepL o70 hs17 (by decide) (by decide); have o75 := OwnP.keepL o71 hs17 (by decide) (by decide); have o76 := Own.keepL o72 hs17 (by decide) (by decide); have o77 := Own.keepL o73 hs17 (by decide) (by decide)
   have q106 : At (Ty.bool (decide ((((List.length (g1)) : Nat) : Int) < (((List.length ((ql))) : Nat) : Int)))) s22 a27 (.tmp 30) := r17
   clear r17; refine wpList_nil (tn ?_)
   refine cond_p (p := ((((List.length (g1)) : Nat) : Int) < (((List.length ((ql))) : Nat) : Int))) q106 (fun c3 => ?_) (fun c3 => ?_)
   ·
    have hdu : dupB ql = true := (by cases e : dupB ql; exact absurd (hp2.1 e) (by omega); rfl)
    refine gI a27 s22 ok27 (gE2 ok27 fun a28 s23 ok28 D6 => ?_); have F23 := F22.step0 D6.stp; have o78 := Own.k0 o74 D6.stp; have o79 := OwnP.k0 o75 D6.stp; have o80 := Own.k0 o76 D6.stp
    refine tailP (L := []) (R := (fun v τ' => ∃ τ, (fun v τ => True ∧ (((6 : Int)) = 0)) v τ ∧ Back [] τ τ')) (E := (fun c_ => c_ = fltC 103 ((6 : Int)) ∧ ((6 : Int)) ≠ 0)) rfl rfl (by decide) ok28 (y_callP (L := []) [] [] #[a28.eval ((Operand.const (Value.int IntKind.i64 6)))] rfl (by decide) Tryz.func102 rfl rfl (by simp only [List.map_toArray, List.map_cons, List.map_nil]) (fail_fn ((6 : Int)) _ (GW.low_lend _ (by decide)) _ (Ty.up _ (GW.le_lend _ _) (cvi (σ := s23) (by omega) rfl))  (by omega))) (fun c_ t_ hs_ he_ => panB ok28 (F23.stepL hs_ (by decide)) (fltTo (fun h_ => by exact clE_6 hsn (by rw [incr_sd, hdu]; simp)) he_)) (fun a29 s24 hs18 ok29 r18 sm23 => ?_)
    have F24 := F23.stepL hs18 (by decide); have q109 := kpL hs18 (by decide) (sm23 0 (by decide)) (D6.kt q104 rfl); have q110 := kpL hs18 (by decide) (sm23 2 (by decide)) (D6.kt q105 rfl); have o81 := Own.keepL o78 hs18 (by decide) (by decide); have o82 := OwnP.keepL o79 hs18 (by decide) (by decide); have o83 := Own.keepL o80 hs18 (by decide) (by decide)
    obtain ⟨t5, ⟨hT5, hp3⟩, B5⟩ := r18
    exact absurd hp3 (by first | decide | assumption | omega)
   ·
    have hdu : dupB ql = false := (by cases e : dupB ql; rfl; exact absurd (hp2.2 e) (by omega)); have hin : incrB ql = true := (by rw [incr_sd, hso, hdu]; rfl); have hv0 := hsv 0 (by omega); have hv0b : 1 ≤ ql.getD ((0 : Int)).toNat 0 ∧ ql.getD ((0 : Int)).toNat 0 ≤ 12 := hv0; have hvl := hsv (ql.length - 1) (by omega)
    refine wp_skip (tn (wp_seq (wp_seq ?_)))
    refine gI a27 s22 ok27 (gM q105 (gT (Ty.val (cellPtr sv ((0 : Int)).toNat)) rfl (fun A B G H I d0 => rP (own_index1 (i := (0 : Int)) Tryz.underlying30 Tryz.inf3 (Own.k0 o76 G) (ed d0 rfl rfl rfl) rfl (by omega) (by omega))) (gS rfl (fun A B G H I d0 => rP (own_load Tryz.underlying3 rfl (Own.k0 o76 G) (ed d0 rfl rfl rfl) (lst_get Ty.int ((ql)) 0 ((0 : Int)).toNat (by omega)))) (gT (Ty.nat (((((ql)).getD ((0 : Int)).toNat 0)).toNat % 2)) rfl (fun A B G H I d0 => rP (y_remN (toN (σ := B) (ed d0 rfl rfl rfl) (by omega)) (toN (σ := B) rfl (by omega)) (by omega))) (gS rfl (fun A B G H I d0 => rP (y_eql (ed d0 rfl rfl rfl) rfl)) (gE ok27 fun a30 s25 ok30 D7 => ?_)))))); have F25 := F22.step0 D7.stp; have q112 := D7.kt q104 rfl; have q113 := D7.kt q105 rfl; have o84 := Own.k0 o74 D7.stp; have o85 := OwnP.k0 o75 D7.stp; have o86 := Own.k0 o76 D7.stp; refine tn ?_
    refine cond_p (p := ((((((((ql)).getD ((0 : Int)).toNat 0)).toNat % 2) : Nat) : Int) = (0 : Int))) (D7.dn 4 rfl rfl) (fun c4 => ?_) (fun c4 => ?_)
    ·
     have hf : plFst ql = [(1 : Int)] ++ ql := plFst_1 c4; have hl1 : ([(1 : Int)] ++ ql).length = ql.length + 1 := (by rw [List.length_append, List.length_singleton]; omega); have hl2 := ins_last (c := 1) hq1
     refine gI a30 s25 ok30 (gM q113 (gR (Pr.own 50 3 1 1 (List.map Ty.int [(1 : Int)])) rfl (by intro A B G H I; exact rP ((y_lit1 (k := 50) Tryz.underlying30 Tryz.inf3 rfl (one_val rfl) (show Ty.has (Ty.int (1 : Int)) B (A.eval ((Operand.const (Value.int IntKind.i64 1)))) from rfl)).mono (fun _ _ h => cvo (by simp) (by simp) h))) (gE2 ok30 fun a31 s26 ok31 D8 => ?_))); have o87 := Own.k0 o84 D8.stp; have o88 := OwnP.k0 o85 D8.stp; have o89 := Own.k0 o86 D8.stp
     obtain ⟨x3, hx1⟩ : ∃ x, a31.eval (.tmp 38) = x := ⟨_, rfl⟩
     have q118 : At (Ty.val x3) s26 a31 (.tmp 38) := hx1
     have o90 := al2 (R := (Pr.own 50 3 1 1 (List.map Ty.int [(1 : Int)]))) hx1 (D8.done 1 (by decide))
     refine tL ok31 (y_callL (L := [40, 41]) [(43, 40), (50, 41)] [(40, 43), (41, 50)] #[a31.eval (.tmp 37), a31.eval ((Operand.const (Value.int IntKind.i64 0))), a31.eval (.tmp 38)] rfl (by decide) Tryz.func121 rfl rfl my3 (insert_fn (sv) (((ql))) (x3) ([(1 : Int)]) _ (GW.low_lend _ (by decide)) _ _ _ (Ty.up _ (GW.le_lend _ _) (D8.dn 0 (by decide) rfl rfl)) (Ty.up _ (GW.le_lend _ _) (cvi (σ := s26) (by first | omega | exact ⟨_, rfl⟩) rfl)) (Ty.up _ (GW.le_lend _ _) q118) (Own.ren (cvo (by (simp)) (by (simp)) o89) (GW.ren_lend _ _ (by decide) rfl)) (Own.ren (cvo (by (simp)) (by (simp)) o90) (GW.ren_lend _ _ (by decide) rfl)) (by first | omega | exact ⟨_, rfl⟩) (by first | omega | exact ⟨_, rfl⟩) (by first | omega | exact ⟨_, rfl⟩))) fun a32 s27 hs19 ok32 r19 sm24 => ?_
     have F27 := (F25.step0 D8.stp).stepL hs19 (by decide); have q119 := kpL hs19 (by decide) (sm24 0 (by decide)) (D8.kt q112 rfl); have q120 := kpL hs19 (by decide) (sm24 2 (by decide)) (D8.kt q113 rfl); have o93 := Own.keepL o87 hs19 (by decide) (by decide); have o94 := OwnP.keepL o88 hs19 (by decide) (by decide)
     obtain ⟨t6, ⟨x4, hT6, o91⟩, B6⟩ := r19
     have q121 : At (Ty.val x4) s27 a32 (.tmp 39) := Ty.up _ B6.le hT6
     have o92 : Own s27 43 3 1 x4 (List.length (([(1 : Int)]) ++ (((ql))))) (List.map Ty.int (([(1 : Int)]) ++ (((ql))))) := Own.ren o91 (B6.ren (by decide) rfl)
     refine tL ok32 (Yld.toL (y_as q121)) fun a33 s28 hs20 ok33 r20 sm25 => ?_
     have F28 := F27.stepL hs20 (by decide); have q122 := kpL hs20 (by decide) (sm25 0 (by decide)) q119; have o95 := Own.keepL o93 hs20 (by decide) (by decide); have o96 := OwnP.keepL o94 hs20 (by decide) (by decide); have o97 := Own.keepL o92 hs20 (by decide) (by decide)
     have q123 : At (Ty.val x4) s28 a33 (.tmp 2) := r20
     clear r20; refine wpList_nil (tn (wp_seq (wp_seq ?_)))
     refine gI a33 s28 ok33 (gM q123 (gM q123 (gT (Ty.nat (List.length (([(1 : Int)]) ++ (((ql)))))) rfl (fun A B G H I d0 => rP (own_len Tryz.underlying30 (al (R := (Pr.own 43 3 1 (List.length (([(1 : Int)]) ++ (((ql))))) (List.map Ty.int (([(1 : Int)]) ++ (((ql))))))) (ed d0 rfl rfl rfl) (Own.k0 o97 G)))) (gT (Ty.nat ((List.length (([(1 : Int)]) ++ (((ql))))) - 1)) rfl (fun A B G H I d0 => rP ((y_sub (ed d0 rfl rfl rfl) rfl (w64 (by omega) (by omega))).mono (fun τ _ h => cvi (σ := τ) (by omega) h))) (gT (Ty.val (cellPtr x4 ((List.length (([(1 : Int)]) ++ (((ql))))) - 1))) rfl (fun A B G H I d0 d1 => rP (own_index1 (i := ((((List.length (([(1 : Int)]) ++ (((ql))))) - 1) : Nat) : Int)) Tryz.underlying30 Tryz.inf3 (Own.k0 o97 G) (ed d0 rfl rfl rfl) (ed d1 rfl rfl rfl) (by omega) (by omega))) (gS rfl (fun A B G H I d0 => rP (own_load Tryz.underlying3 rfl (Own.k0 o97 G) (ed d0 rfl rfl rfl) (lst_get Ty.int (([(1 : Int)]) ++ (((ql)))) 0 ((List.length (([(1 : Int)]) ++ (((ql))))) - 1) (by omega)))) (gB 0 (gE ok33 fun a34 s29 ok34 D9 => ?_)))))))); have q124 := D9.kt q122 rfl; have o98 := Own.k0 o95 D9.stp; have o99 := OwnP.k0 o96 D9.stp; have o100 := Own.k0 o97 D9.stp; have q126 := D9.dn 6 rfl rfl; refine tn (wp_seq ?_)
     refine gI a34 s29 ok34 (gM q126 (gM q124 (gT (Ty.val r) rfl (fun A B G H I d0 => rP (y_nilp (OwnP.k0 o99 G) (ed d0 rfl rfl rfl))) (gT (Ty.val (ptrAt r 0)) rfl (fun A B G H I d0 => rP (ownp_field Tryz.fld107_0 Tryz.inf3 (by decide) (OwnP.k0 o99 G) (ed d0 rfl rfl rfl))) (gS rfl (fun A B G H I d0 => rP (ownp_load Tryz.underlying3 rfl (OwnP.k0 o99 G) (ed d0 rfl rfl rfl) rfl)) (gS rfl (fun A B G H I d0 d1 => rP (y_lss (ed d0 rfl rfl rfl) (ed d1 rfl rfl rfl))) (gS rfl (fun A B G H I d0 => rP (y_move (ed d0 rfl rfl rfl))) (gS rfl (fun A B G H I d0 => gu H (ed d0 rfl rfl rfl) fun hg => y_move (kp (I 0 rfl) G q124)) (gT (Ty.grd ((decide (((([(1 : Int)]) ++ (((ql)))).getD ((List.length (([(1 : Int)]) ++ (((ql))))) - 1) 0) < n)) = true) (Ty.val r)) rfl (fun A B G H I d0 d1 => gu H (ed d1 rfl rfl rfl) fun hg => y_nilp (OwnP.k0 o99 G) ((ed d0 rfl rfl rfl).1 hg)) (gT (Ty.grd ((decide (((([(1 : Int)]) ++ (((ql)))).getD ((List.length (([(1 : Int)]) ++ (((ql))))) - 1) 0) < n)) = true) (Ty.val (ptrAt r 0))) rfl (fun A B G H I d0 d1 => gut H (ed d1 rfl rfl rfl) fun hg hp => ownp_field Tryz.fld107_0 Tryz.inf3 (by decide) (OwnP.k0 o99 G) ((ed d0 rfl rfl rfl).1 hg)) (gS rfl (fun A B G H I d0 d1 => gu H (ed d1 rfl rfl rfl) fun hg => ownp_load Tryz.underlying3 rfl (OwnP.k0 o99 G) ((ed d0 rfl rfl rfl).1 hg) rfl) (gS rfl (fun A B G H I d0 => gu H (ed d0 rfl rfl rfl) fun hg => y_move (kp (I 3 rfl) G q126)) (gT (Ty.grd ((decide (((([(1 : Int)]) ++ (((ql)))).getD ((List.length (([(1 : Int)]) ++ (((ql))))) - 1) 0) < n)) = true) (Ty.int (n - ((([(1 : Int)]) ++ (((ql)))).getD ((List.length (([(1 : Int)]) ++ (((ql))))) - 1) 0)))) rfl (fun A B G H I d0 d1 d2 => gut H (ed d2 rfl rfl rfl) fun hg hp => y_sub ((ed d0 rfl rfl rfl).1 hg) ((ed d1 rfl rfl rfl).1 hg) (w64 (by omega) (by omega))) ?_)))))))))))))
     refine gT (Ty.grd ((decide (((([(1 : Int)]) ++ (((ql)))).getD ((List.length (([(1 : Int)]) ++ (((ql))))) - 1) 0) < n)) = true) (Ty.nat (((n - ((([(1 : Int)]) ++ (((ql)))).getD ((List.length (([(1 : Int)]) ++ (((ql))))) - 1) 0))).toNat % 2))) rfl (fun A B G H I d0 d1 => gut H (ed d1 rfl rfl rfl) fun hg hp => y_remN (toN (σ := B) ((ed d0 rfl rfl rfl).1 hg) (by omega)) (toN (σ := B) rfl (by omega)) (by omega)) (gS rfl (fun A B G H I d0 d1 => gu H (ed d1 rfl rfl rfl) fun hg => y_eql ((ed d0 rfl rfl rfl).1 hg) rfl) (gS rfl (fun A B G H I d0 d1 => rP (y_pick_and (ed d0 rfl rfl rfl) (ed d1 rfl rfl rfl) rfl)) (gE ok34 fun a35 s30 ok35 D10 => ?_))); have F30 := (F28.step0 D9.stp).step0 D10.stp; have q127 := D10.kt q124 rfl; have q128 := D10.kt (D9.kt q123 rfl) rfl; have o101 := Own.k0 o98 D10.stp; have o102 := OwnP.k0 o99 D10.stp; have o103 := Own.k0 o100 D10.stp; have q129 := D10.dn 15 rfl rfl; refine tn ?_
     refine cond_t q129 (fun c5 => ?_) (fun c5 => ?_)
     ·
      obtain ⟨d1, d2⟩ := Bool.and_eq_true_iff.mp c5
      replace d1 := of_decide_eq_true d1
      replace d2 := of_decide_eq_true d2
      simp only [Bool.and_eq_true, decide_eq_true_eq] at c5; have hL : plIn n ql = ([(1 : Int)] ++ ql) ++ [n] := plIn_1 hf c5.1 (by have h_ := c5.2; omega)
      refine gI a35 s30 ok35 (gM q128 (gM q127 (gT (Ty.val r) rfl (fun A B G H I d0 => rP (y_nilp (OwnP.k0 o102 G) (ed d0 rfl rfl rfl))) (gT (Ty.val (ptrAt r 0)) rfl (fun A B G H I d0 => rP (ownp_field Tryz.fld107_0 Tryz.inf3 (by decide) (OwnP.k0 o102 G) (ed d0 rfl rfl rfl))) (gS rfl (fun A B G H I d0 => rP (ownp_load Tryz.underlying3 rfl (OwnP.k0 o102 G) (ed d0 rfl rfl rfl) rfl)) (gT (Ty.sl 1 1 [(Ty.int n)]) rfl (fun A B G H I d0 => rP (y_build1o Tryz.underlying30 Tryz.inf3 rfl (one_val rfl) (ed d0 rfl rfl rfl))) (gE2 ok35 fun a36 s31 ok36 D11 => ?_))))))); have o104 := Own.k0 o101 D11.stp; have o105 := OwnP.k0 o102 D11.stp; have o106 := Own.k0 o103 D11.stp
      have q132 : At (Ty.val x4) s31 a36 (.tmp 62) := D11.done 0 (by decide)
      have q133 := D11.dn 5 (by decide) rfl rfl
      have b1 := sl_le q133
      refine tL ok36 (YldM.toL (m_append Tryz.underlying30 Tryz.inf3 (by decide) rfl (by decide) (al (R := (Pr.own 43 3 1 (List.length (([(1 : Int)]) ++ (((ql))))) (List.map Ty.int (([(1 : Int)]) ++ (((ql))))))) q132 o106) q133 (by intro U hU; simp at hU; subst hU; exact one_val rfl) (by omega) (by omega))) fun a37 s32 hs21 ok37 r21 sm26 => ?_
      have F32 := (F30.step0 D11.stp).stepL hs21 (by decide); have q134 := kpL hs21 (by decide) (sm26 0 (by decide)) (D11.kt q127 rfl); have q135 := kpL hs21 (by decide) (sm26 2 (by decide)) (D11.kt q128 rfl); have o108 := Own.keepL o104 hs21 (by decide) (by decide); have o109 := OwnP.keepL o105 hs21 (by decide) (by decide)
      obtain ⟨x5, hx2⟩ : ∃ x, a37.eval (.tmp 68) = x := ⟨_, rfl⟩
      have q136 : At (Ty.val x5) s32 a37 (.tmp 68) := hx2
      have o107 := al2 (R := (Pr.own 43 3 1 (List.length ((([(1 : Int)]) ++ (((ql)))) ++ [n])) (List.map Ty.int ((([(1 : Int)]) ++ (((ql)))) ++ [n])))) hx2 (cvo (by first | (simp; done) | (simp; omega)) (by first | (rw [List.map_append]; rfl) | simp) r21)
      clear r21
      refine tL ok37 (Yld.toL (y_as q136)) fun a38 s33 hs22 ok38 r22 sm27 => ?_
      have F33 := F32.stepL hs22 (by decide); have q137 := kpL hs22 (by decide) (sm27 0 (by decide)) q134; have o110 := Own.keepL o108 hs22 (by decide) (by decide); have o111 := OwnP.keepL o109 hs22 (by decide) (by decide); have o112 := Own.keepL o107 hs22 (by decide) (by decide)
      have q138 : At (Ty.val x5) s33 a38 (.tmp 2) := r22
      clear r22; refine wpList_nil (tn ?_)
      obtain ⟨t7, e1, h1, q139⟩ := Own.seal o112 (by decide)
      rw [← e1]
      have F34 := F33.step h1 (by decide); have o113 := Own.keepL o110 (h1.toL (L := [43]) (by simp)) (by decide) (by decide); have o114 := OwnP.keepL o111 (h1.toL (L := [43]) (by simp)) (by decide) (by decide); have q140 := Ty.up (Ty.val r) (h1.le (by decide)) q137
      have q141 : At (Ty.lst Ty.int ((([(1 : Int)]) ++ (((ql)))) ++ [n])) t7 a38 (.tmp 2) := by have e : a38.eval (.tmp 2) = x5 := q138; show Ty.has _ _ _; rw [e]; exact q139
      refine gI a38 t7 ok38 (gM q140 (gM q141 (gE2 ok38 fun a39 s34 ok39 D12 => ?_))); have F35 := F34.step0 D12.stp; have o115 := Own.k0 o113 D12.stp; have o116 := OwnP.k0 o114 D12.stp
      refine tailP (L := [40, 42]) (R := (fun v τ' => ∃ τ, (fun v τ => ∃ (bz : Value), True ∧ (OwnP τ 40 r [(Ty.int n), (Ty.val av), (Ty.val bz), (Ty.bool mir), (Ty.val (Value.slice none 0 0)), (Ty.bool (false)), (Ty.bool true)]) ∧ (Own τ 42 30 1 bz (List.length (blk ++ [(((([(1 : Int)]) ++ (((ql)))) ++ [n]))])) (List.map Ty.ints (blk ++ [(((([(1 : Int)]) ++ (((ql)))) ++ [n]))]))) ∧ ((plPutE n blk.length (((([(1 : Int)]) ++ (((ql)))) ++ [n]))) = 0)) v τ ∧ Back [(40, 40), (42, 42)] τ τ')) (E := (fun c_ => c_ = fltC 103 (plPutE n blk.length (((([(1 : Int)]) ++ (((ql)))) ++ [n]))) ∧ (plPutE n blk.length (((([(1 : Int)]) ++ (((ql)))) ++ [n]))) ≠ 0)) rfl rfl (by decide) ok39 (y_callP (L := [40, 42]) [(40, 40), (42, 42)] [(40, 40), (42, 42)] #[a39.eval (.tmp 69), a39.eval (.tmp 70)] rfl (by decide) Tryz.func101 rfl rfl (by simp only [List.map_toArray, List.map_cons, List.map_nil]) (put_fn (r) (av) (bv) ((Value.slice none 0 0)) (n) (blk) (mir) (false) (dot) (((([(1 : Int)]) ++ (((ql)))) ++ [n])) _ (GW.low_lend _ (by decide)) _ _ (Ty.up _ (GW.le_lend _ _) (D12.dn 0 (by decide) rfl rfl)) (Ty.up _ (GW.le_lend _ _) (D12.dn 1 (by decide) rfl rfl)) (OwnP.ren (ownp_cell 5 (Ty.bool (false)) o116 rfl (fun _ _ h => (cvb (by (first | rfl | omega | (simp_all; done) | (simp_all; omega))) h))) (GW.ren_lend _ _ (by decide) rfl)) (Own.ren o115 (GW.ren_lend _ _ (by decide) rfl)) (by omega) (by omega))) (fun c_ t_ hs_ he_ => panB ok39 (F35.stepL hs_ (by decide)) (fltTo (fun h_ => by exact clE_put hsn hin hL) he_)) (fun a40 s35 hs23 ok40 r23 sm28 => ?_)
      have F36 := F35.stepL hs23 (by decide)
      obtain ⟨t8, ⟨x6, hT7, o117, o118, hp4⟩, B7⟩ := r23
      have o119 : OwnP s35 40 r [(Ty.int n), (Ty.val av), (Ty.val x6), (Ty.bool mir), (Ty.val (Value.slice none 0 0)), (Ty.bool (false)), (Ty.bool true)] := OwnP.ren o117 (B7.ren (by decide) rfl)
      have o120 : Own s35 42 30 1 x6 (List.length (blk ++ [(((([(1 : Int)]) ++ (((ql)))) ++ [n]))])) (List.map Ty.ints (blk ++ [(((([(1 : Int)]) ++ (((ql)))) ++ [n]))])) := Own.ren o118 (B7.ren (by decide) rfl)
      refine wpList_nil ?_
      have o121 : Own s35 43 3 1 (Value.slice none 0 0) 0 (List.map Ty.int ([] : List Int)) := Own.nil _ _ _ _
      refine toPn ?_
      exact nL0 rfl ok40 F36 ⟨x6, (Value.slice none 0 0), trivial, (ownp_cell 6 (Ty.bool (clD ql dot)) (ownp_cell 5 (Ty.bool false) o119 rfl (fun _ _ h => (cvb (by (rfl)) h))) rfl (fun _ _ h => (cvb (by (rw [clD_ne hsn])) h))), (cvo (by (rw [clB_put hsn hL])) (by (rw [clB_put hsn hL])) o120), (cvo (by (simp)) (by (simp)) o121), (by rw [clE_put hsn hin hL]; first | assumption | omega)⟩
     ·
      simp only [Bool.and_eq_false_iff, decide_eq_false_iff_not] at c5; have hL : plIn n ql = [(1 : Int)] ++ ql := plIn_0 hf (by rintro ⟨h1_, h2_⟩; rcases c5 with h_ | h_; exact h_ h1_; omega)
      refine wp_skip (tn ?_)
      obtain ⟨t9, e2, h2, q145⟩ := Own.seal o103 (by decide)
      rw [← e2]
      have F37 := F30.step h2 (by decide); have o122 := Own.keepL o101 (h2.toL (L := [43]) (by simp)) (by decide) (by decide); have o123 := OwnP.keepL o102 (h2.toL (L := [43]) (by simp)) (by decide) (by decide); have q146 := Ty.up (Ty.val r) (h2.le (by decide)) q127
      have q147 : At (Ty.lst Ty.int (([(1 : Int)]) ++ (((ql))))) t9 a35 (.tmp 2) := by have e : a35.eval (.tmp 2) = x4 := q128; show Ty.has _ _ _; rw [e]; exact q145
      have q148 := Ty.up (Ty.bool ((decide (((([(1 : Int)]) ++ (((ql)))).getD ((List.length (([(1 : Int)]) ++ (((ql))))) - 1) 0) < n)) && (decide ((((((n - ((([(1 : Int)]) ++ (((ql)))).getD ((List.length (([(1 : Int)]) ++ (((ql))))) - 1) 0))).toNat % 2) : Nat) : Int) = (1 : Int))))) (h2.le (by decide)) q129
      refine gI a35 t9 ok35 (gM q146 (gM q147 (gE2 ok35 fun a41 s36 ok41 D13 => ?_))); have F38 := F37.step0 D13.stp; have o124 := Own.k0 o122 D13.stp; have o125 := OwnP.k0 o123 D13.stp
      refine tailP (L := [40, 42]) (R := (fun v τ' => ∃ τ, (fun v τ => ∃ (bz : Value), True ∧ (OwnP τ 40 r [(Ty.int n), (Ty.val av), (Ty.val bz), (Ty.bool mir), (Ty.val (Value.slice none 0 0)), (Ty.bool (false)), (Ty.bool true)]) ∧ (Own τ 42 30 1 bz (List.length (blk ++ [((([(1 : Int)]) ++ (((ql)))))])) (List.map Ty.ints (blk ++ [((([(1 : Int)]) ++ (((ql)))))]))) ∧ ((plPutE n blk.length ((([(1 : Int)]) ++ (((ql)))))) = 0)) v τ ∧ Back [(40, 40), (42, 42)] τ τ')) (E := (fun c_ => c_ = fltC 103 (plPutE n blk.length ((([(1 : Int)]) ++ (((ql)))))) ∧ (plPutE n blk.length ((([(1 : Int)]) ++ (((ql)))))) ≠ 0)) rfl rfl (by decide) ok41 (y_callP (L := [40, 42]) [(40, 40), (42, 42)] [(40, 40), (42, 42)] #[a41.eval (.tmp 69), a41.eval (.tmp 70)] rfl (by decide) Tryz.func101 rfl rfl (by simp only [List.map_toArray, List.map_cons, List.map_nil]) (put_fn (r) (av) (bv) ((Value.slice none 0 0)) (n) (blk) (mir) (false) (dot) ((([(1 : Int)]) ++ (((ql))))) _ (GW.low_lend _ (by decide)) _ _ (Ty.up _ (GW.le_lend _ _) (D13.dn 0 (by decide) rfl rfl)) (Ty.up _ (GW.le_lend _ _) (D13.dn 1 (by decide) rfl rfl)) (OwnP.ren (ownp_cell 5 (Ty.bool (false)) o125 rfl (fun _ _ h => (cvb (by (first | rfl | omega | (simp_all; done) | (simp_all; omega))) h))) (GW.ren_lend _ _ (by decide) rfl)) (Own.ren o124 (GW.ren_lend _ _ (by decide) rfl)) (by omega) (by omega))) (fun c_ t_ hs_ he_ => panB ok41 (F38.stepL hs_ (by decide)) (fltTo (fun h_ => by exact clE_put hsn hin hL) he_)) (fun a42 s37 hs24 ok42 r24 sm29 => ?_)
      have F39 := F38.stepL hs24 (by decide)
      obtain ⟨t10, ⟨x7, hT8, o126, o127, hp5⟩, B8⟩ := r24
      have o128 : OwnP s37 40 r [(Ty.int n), (Ty.val av), (Ty.val x7), (Ty.bool mir), (Ty.val (Value.slice none 0 0)), (Ty.bool (false)), (Ty.bool true)] := OwnP.ren o126 (B8.ren (by decide) rfl)
      have o129 : Own s37 42 30 1 x7 (List.length (blk ++ [((([(1 : Int)]) ++ (((ql)))))])) (List.map Ty.ints (blk ++ [((([(1 : Int)]) ++ (((ql)))))])) := Own.ren o127 (B8.ren (by decide) rfl)
      refine wpList_nil ?_
      have o130 : Own s37 43 3 1 (Value.slice none 0 0) 0 (List.map Ty.int ([] : List Int)) := Own.nil _ _ _ _
      refine toPn ?_
      exact nL0 rfl ok42 F39 ⟨x7, (Value.slice none 0 0), trivial, (ownp_cell 6 (Ty.bool (clD ql dot)) (ownp_cell 5 (Ty.bool false) o128 rfl (fun _ _ h => (cvb (by (rfl)) h))) rfl (fun _ _ h => (cvb (by (rw [clD_ne hsn])) h))), (cvo (by (rw [clB_put hsn hL])) (by (rw [clB_put hsn hL])) o129), (cvo (by (simp)) (by (simp)) o130), (by rw [clE_put hsn hin hL]; first | assumption | omega)⟩
    ·
     have hf : plFst ql = ql := plFst_0 c4
     refine wp_skip (tn (wp_seq (wp_seq ?_)))
     refine gI a30 s25 ok30 (gM q113 (gM q113 (gT (Ty.nat (List.length ((ql)))) rfl (fun A B G H I d0 => rP (own_len Tryz.underlying30 (al (R := (Pr.own 43 3 1 (List.length ((ql))) (List.map Ty.int ((ql))))) (ed d0 rfl rfl rfl) (Own.k0 o86 G)))) (gT (Ty.nat ((List.length ((ql))) - 1)) rfl (fun A B G H I d0 => rP ((y_sub (ed d0 rfl rfl rfl) rfl (w64 (by omega) (by omega))).mono (fun τ _ h => cvi (σ := τ) (by omega) h))) (gT (Ty.val (cellPtr sv ((List.length ((ql))) - 1))) rfl (fun A B G H I d0 d1 => rP (own_index1 (i := ((((List.length ((ql))) - 1) : Nat) : Int)) Tryz.underlying30 Tryz.inf3 (Own.k0 o86 G) (ed d0 rfl rfl rfl) (ed d1 rfl rfl rfl) (by omega) (by omega))) (gS rfl (fun A B G H I d0 => rP (own_load Tryz.underlying3 rfl (Own.k0 o86 G) (ed d0 rfl rfl rfl) (lst_get Ty.int ((ql)) 0 ((List.length ((ql))) - 1) (by omega)))) (gB 0 (gE ok30 fun a43 s38 ok43 D14 => ?_)))))))); have q152 := D14.kt q112 rfl; have o131 := Own.k0 o84 D14.stp; have o132 := OwnP.k0 o85 D14.stp; have o133 := Own.k0 o86 D14.stp; have q154 := D14.dn 6 rfl rfl; refine tn (wp_seq ?_)
     refine gI a43 s38 ok43 (gM q154 (gM q152 (gT (Ty.val r) rfl (fun A B G H I d0 => rP (y_nilp (OwnP.k0 o132 G) (ed d0 rfl rfl rfl))) (gT (Ty.val (ptrAt r 0)) rfl (fun A B G H I d0 => rP (ownp_field Tryz.fld107_0 Tryz.inf3 (by decide) (OwnP.k0 o132 G) (ed d0 rfl rfl rfl))) (gS rfl (fun A B G H I d0 => rP (ownp_load Tryz.underlying3 rfl (OwnP.k0 o132 G) (ed d0 rfl rfl rfl) rfl)) (gS rfl (fun A B G H I d0 d1 => rP (y_lss (ed d0 rfl rfl rfl) (ed d1 rfl rfl rfl))) (gS rfl (fun A B G H I d0 => rP (y_move (ed d0 rfl rfl rfl))) (gS rfl (fun A B G H I d0 => gu H (ed d0 rfl rfl rfl) fun hg => y_move (kp (I 0 rfl) G q152)) (gT (Ty.grd ((decide ((((ql)).getD ((List.length ((ql))) - 1) 0) < n)) = true) (Ty.val r)) rfl (fun A B G H I d0 d1 => gu H (ed d1 rfl rfl rfl) fun hg => y_nilp (OwnP.k0 o132 G) ((ed d0 rfl rfl rfl).1 hg)) (gT (Ty.grd ((decide ((((ql)).getD ((List.length ((ql))) - 1) 0) < n)) = true) (Ty.val (ptrAt r 0))) rfl (fun A B G H I d0 d1 => gut H (ed d1 rfl rfl rfl) fun hg hp => ownp_field Tryz.fld107_0 Tryz.inf3 (by decide) (OwnP.k0 o132 G) ((ed d0 rfl rfl rfl).1 hg)) (gS rfl (fun A B G H I d0 d1 => gu H (ed d1 rfl rfl rfl) fun hg => ownp_load Tryz.underlying3 rfl (OwnP.k0 o132 G) ((ed d0 rfl rfl rfl).1 hg) rfl) (gS rfl (fun A B G H I d0 => gu H (ed d0 rfl rfl rfl) fun hg => y_move (kp (I 3 rfl) G q154)) (gT (Ty.grd ((decide ((((ql)).getD ((List.length ((ql))) - 1) 0) < n)) = true) (Ty.int (n - (((ql)).getD ((List.length ((ql))) - 1) 0)))) rfl (fun A B G H I d0 d1 d2 => gut H (ed d2 rfl rfl rfl) fun hg hp => y_sub ((ed d0 rfl rfl rfl).1 hg) ((ed d1 rfl rfl rfl).1 hg) (w64 (by omega) (by omega))) ?_)))))))))))))
     refine gT (Ty.grd ((decide ((((ql)).getD ((List.length ((ql))) - 1) 0) < n)) = true) (Ty.nat (((n - (((ql)).getD ((List.length ((ql))) - 1) 0))).toNat % 2))) rfl (fun A B G H I d0 d1 => gut H (ed d1 rfl rfl rfl) fun hg hp => y_remN (toN (σ := B) ((ed d0 rfl rfl rfl).1 hg) (by omega)) (toN (σ := B) rfl (by omega)) (by omega)) (gS rfl (fun A B G H I d0 d1 => gu H (ed d1 rfl rfl rfl) fun hg => y_eql ((ed d0 rfl rfl rfl).1 hg) rfl) (gS rfl (fun A B G H I d0 d1 => rP (y_pick_and (ed d0 rfl rfl rfl) (ed d1 rfl rfl rfl) rfl)) (gE ok43 fun a44 s39 ok44 D15 => ?_))); have F41 := (F25.step0 D14.stp).step0 D15.stp; have q155 := D15.kt q152 rfl; have q156 := D15.kt (D14.kt q113 rfl) rfl; have o134 := Own.k0 o131 D15.stp; have o135 := OwnP.k0 o132 D15.stp; have o136 := Own.k0 o133 D15.stp; have q157 := D15.dn 15 rfl rfl; refine tn ?_
     refine cond_t q157 (fun c6 => ?_) (fun c6 => ?_)
     ·
      obtain ⟨d3, d4⟩ := Bool.and_eq_true_iff.mp c6
      replace d3 := of_decide_eq_true d3
      replace d4 := of_decide_eq_true d4
      simp only [Bool.and_eq_true, decide_eq_true_eq] at c6; have hL : plIn n ql = ql ++ [n] := plIn_1 hf c6.1 (by have h_ := c6.2; omega)
      refine gI a44 s39 ok44 (gM q156 (gM q155 (gT (Ty.val r) rfl (fun A B G H I d0 => rP (y_nilp (OwnP.k0 o135 G) (ed d0 rfl rfl rfl))) (gT (Ty.val (ptrAt r 0)) rfl (fun A B G H I d0 => rP (ownp_field Tryz.fld107_0 Tryz.inf3 (by decide) (OwnP.k0 o135 G) (ed d0 rfl rfl rfl))) (gS rfl (fun A B G H I d0 => rP (ownp_load Tryz.underlying3 rfl (OwnP.k0 o135 G) (ed d0 rfl rfl rfl) rfl)) (gT (Ty.sl 1 1 [(Ty.int n)]) rfl (fun A B G H I d0 => rP (y_build1o Tryz.underlying30 Tryz.inf3 rfl (one_val rfl) (ed d0 rfl rfl rfl))) (gE2 ok44 fun a45 s40 ok45 D16 => ?_))))))); have o137 := Own.k0 o134 D16.stp; have o138 := OwnP.k0 o135 D16.stp; have o139 := Own.k0 o136 D16.stp; have q161 := D16.dn 5 (by decide) rfl rfl
      have b2 := sl_le q161
      refine tL ok45 (YldM.toL (m_append Tryz.underlying30 Tryz.inf3 (by decide) rfl (by decide) (al (R := (Pr.own 43 3 1 (List.length ((ql))) (List.map Ty.int ((ql))))) (D16.dn 0 (by decide) rfl rfl) o139) q161 (by intro U hU; simp at hU; subst hU; exact one_val rfl) (by omega) (by omega))) fun a46 s41 hs25 ok46 r25 sm30 => ?_
      have F43 := (F41.step0 D16.stp).stepL hs25 (by decide); have q162 := kpL hs25 (by decide) (sm30 0 (by decide)) (D16.kt q155 rfl); have q163 := kpL hs25 (by decide) (sm30 2 (by decide)) (D16.kt q156 rfl); have o141 := Own.keepL o137 hs25 (by decide) (by decide); have o142 := OwnP.keepL o138 hs25 (by decide) (by decide)
      obtain ⟨x8, hx3⟩ : ∃ x, a46.eval (.tmp 68) = x := ⟨_, rfl⟩
      have q164 : At (Ty.val x8) s41 a46 (.tmp 68) := hx3
      have o140 := al2 (R := (Pr.own 43 3 1 (List.length (((ql)) ++ [n])) (List.map Ty.int (((ql)) ++ [n])))) hx3 (cvo (by simp) (by first | (rw [List.map_append]; rfl) | simp) r25)
      clear r25
      refine tL ok46 (Yld.toL (y_as q164)) fun a47 s42 hs26 ok47 r26 sm31 => ?_
      have F44 := F43.stepL hs26 (by decide); have q165 := kpL hs26 (by decide) (sm31 0 (by decide)) q162; have o143 := Own.keepL o141 hs26 (by decide) (by decide); have o144 := OwnP.keepL o142 hs26 (by decide) (by decide); have o145 := Own.keepL o140 hs26 (by decide) (by decide)
      have q166 : At (Ty.val x8) s42 a47 (.tmp 2) := r26
      clear r26; refine wpList_nil (tn ?_)
      obtain ⟨t11, e3, h3, q167⟩ := Own.seal o145 (by decide)
      rw [← e3]
      have F45 := F44.step h3 (by decide); have o146 := Own.keepL o143 (h3.toL (L := [43]) (by simp)) (by decide) (by decide); have o147 := OwnP.keepL o144 (h3.toL (L := [43]) (by simp)) (by decide) (by decide); have q168 := Ty.up (Ty.val r) (h3.le (by decide)) q165
      have q169 : At (Ty.lst Ty.int (((ql)) ++ [n])) t11 a47 (.tmp 2) := by have e : a47.eval (.tmp 2) = x8 := q166; show Ty.has _ _ _; rw [e]; exact q167
      refine gI a47 t11 ok47 (gM q168 (gM q169 (gE2 ok47 fun a48 s43 ok48 D17 => ?_))); have F46 := F45.step0 D17.stp; have o148 := Own.k0 o146 D17.stp; have o149 := OwnP.k0 o147 D17.stp
      refine tailP (L := [40, 42]) (R := (fun v τ' => ∃ τ, (fun v τ => ∃ (bz : Value), True ∧ (OwnP τ 40 r [(Ty.int n), (Ty.val av), (Ty.val bz), (Ty.bool mir), (Ty.val (Value.slice none 0 0)), (Ty.bool (false)), (Ty.bool true)]) ∧ (Own τ 42 30 1 bz (List.length (blk ++ [((((ql)) ++ [n]))])) (List.map Ty.ints (blk ++ [((((ql)) ++ [n]))]))) ∧ ((plPutE n blk.length ((((ql)) ++ [n]))) = 0)) v τ ∧ Back [(40, 40), (42, 42)] τ τ')) (E := (fun c_ => c_ = fltC 103 (plPutE n blk.length ((((ql)) ++ [n]))) ∧ (plPutE n blk.length ((((ql)) ++ [n]))) ≠ 0)) rfl rfl (by decide) ok48 (y_callP (L := [40, 42]) [(40, 40), (42, 42)] [(40, 40), (42, 42)] #[a48.eval (.tmp 69), a48.eval (.tmp 70)] rfl (by decide) Tryz.func101 rfl rfl (by simp only [List.map_toArray, List.map_cons, List.map_nil]) (put_fn (r) (av) (bv) ((Value.slice none 0 0)) (n) (blk) (mir) (false) (dot) ((((ql)) ++ [n])) _ (GW.low_lend _ (by decide)) _ _ (Ty.up _ (GW.le_lend _ _) (D17.dn 0 (by decide) rfl rfl)) (Ty.up _ (GW.le_lend _ _) (D17.dn 1 (by decide) rfl rfl)) (OwnP.ren (ownp_cell 5 (Ty.bool (false)) o149 rfl (fun _ _ h => (cvb (by (first | rfl | omega | (simp_all; done) | (simp_all; omega))) h))) (GW.ren_lend _ _ (by decide) rfl)) (Own.ren o148 (GW.ren_lend _ _ (by decide) rfl)) (by omega) (by omega))) (fun c_ t_ hs_ he_ => panB ok48 (F46.stepL hs_ (by decide)) (fltTo (fun h_ => by exact clE_put hsn hin hL) he_)) (fun a49 s44 hs27 ok49 r27 sm32 => ?_)
      have F47 := F46.stepL hs27 (by decide)
      obtain ⟨t12, ⟨x9, hT9, o150, o151, hp6⟩, B9⟩ := r27
      have o152 : OwnP s44 40 r [(Ty.int n), (Ty.val av), (Ty.val x9), (Ty.bool mir), (Ty.val (Value.slice none 0 0)), (Ty.bool (false)), (Ty.bool true)] := OwnP.ren o150 (B9.ren (by decide) rfl)
      have o153 : Own s44 42 30 1 x9 (List.length (blk ++ [((((ql)) ++ [n]))])) (List.map Ty.ints (blk ++ [((((ql)) ++ [n]))])) := Own.ren o151 (B9.ren (by decide) rfl)
      refine wpList_nil ?_
      have o154 : Own s44 43 3 1 (Value.slice none 0 0) 0 (List.map Ty.int ([] : List Int)) := Own.nil _ _ _ _
      refine toPn ?_
      exact nL0 rfl ok49 F47 ⟨x9, (Value.slice none 0 0), trivial, (ownp_cell 6 (Ty.bool (clD ql dot)) (ownp_cell 5 (Ty.bool false) o152 rfl (fun _ _ h => (cvb (by (rfl)) h))) rfl (fun _ _ h => (cvb (by (rw [clD_ne hsn])) h))), (cvo (by (rw [clB_put hsn hL])) (by (rw [clB_put hsn hL])) o153), (cvo (by (simp)) (by (simp)) o154), (by rw [clE_put hsn hin hL]; first | assumption | omega)⟩
     ·
      simp only [Bool.and_eq_false_iff, decide_eq_false_iff_not] at c6; have hL : plIn n ql = ql := plIn_0 hf (by rintro ⟨h1_, h2_⟩; rcases c6 with h_ | h_; exact h_ h1_; omega)
      refine wp_skip (tn ?_)
      obtain ⟨t13, e4, h4, q173⟩ := Own.seal o136 (by decide)
      rw [← e4]
      have F48 := F41.step h4 (by decide); have o155 := Own.keepL o134 (h4.toL (L := [43]) (by simp)) (by decide) (by decide); have o156 := OwnP.keepL o135 (h4.toL (L := [43]) (by simp)) (by decide) (by decide); have q174 := Ty.up (Ty.val r) (h4.le (by decide)) q155
      have q175 : At (Ty.lst Ty.int ((ql))) t13 a44 (.tmp 2) := by have e : a44.eval (.tmp 2) = sv := q156; show Ty.has _ _ _; rw [e]; exact q173
      have q176 := Ty.up (Ty.bool ((decide ((((ql)).getD ((List.length ((ql))) - 1) 0) < n)) && (decide ((((((n - (((ql)).getD ((List.length ((ql))) - 1) 0))).toNat % 2) : Nat) : Int) = (1 : Int))))) (h4.le (by decide)) q157
      refine gI a44 t13 ok44 (gM q174 (gM q175 (gE2 ok44 fun a50 s45 ok50 D18 => ?_))); have F49 := F48.step0 D18.stp; have o157 := Own.k0 o155 D18.stp; have o158 := OwnP.k0 o156 D18.stp
      refine tailP (L := [40, 42]) (R := (fun v τ' => ∃ τ, (fun v τ => ∃ (bz : Value), True ∧ (OwnP τ 40 r [(Ty.int n), (Ty.val av), (Ty.val bz), (Ty.bool mir), (Ty.val (Value.slice none 0 0)), (Ty.bool (false)), (Ty.bool true)]) ∧ (Own τ 42 30 1 bz (List.length (blk ++ [(((ql)))])) (List.map Ty.ints (blk ++ [(((ql)))]))) ∧ ((plPutE n blk.length (((ql)))) = 0)) v τ ∧ Back [(40, 40), (42, 42)] τ τ')) (E := (fun c_ => c_ = fltC 103 (plPutE n blk.length (((ql)))) ∧ (plPutE n blk.length (((ql)))) ≠ 0)) rfl rfl (by decide) ok50 (y_callP (L := [40, 42]) [(40, 40), (42, 42)] [(40, 40), (42, 42)] #[a50.eval (.tmp 69), a50.eval (.tmp 70)] rfl (by decide) Tryz.func101 rfl rfl (by simp only [List.map_toArray, List.map_cons, List.map_nil]) (put_fn (r) (av) (bv) ((Value.slice none 0 0)) (n) (blk) (mir) (false) (dot) (((ql))) _ (GW.low_lend _ (by decide)) _ _ (Ty.up _ (GW.le_lend _ _) (D18.dn 0 (by decide) rfl rfl)) (Ty.up _ (GW.le_lend _ _) (D18.dn 1 (by decide) rfl rfl)) (OwnP.ren (ownp_cell 5 (Ty.bool (false)) o158 rfl (fun _ _ h => (cvb (by (first | rfl | omega | (simp_all; done) | (simp_all; omega))) h))) (GW.ren_lend _ _ (by decide) rfl)) (Own.ren o157 (GW.ren_lend _ _ (by decide) rfl)) (by omega) (by omega))) (fun c_ t_ hs_ he_ => panB ok50 (F49.stepL hs_ (by decide)) (fltTo (fun h_ => by exact clE_put hsn hin hL) he_)) (fun a51 s46 hs28 ok51 r28 sm33 => ?_)
      have F50 := F49.stepL hs28 (by decide)
      obtain ⟨t14, ⟨x10, hT10, o159, o160, hp7⟩, B10⟩ := r28
      have o161 : OwnP s46 40 r [(Ty.int n), (Ty.val av), (Ty.val x10), (Ty.bool mir), (Ty.val (Value.slice none 0 0)), (Ty.bool (false)), (Ty.bool true)] := OwnP.ren o159 (B10.ren (by decide) rfl)
      have o162 : Own s46 42 30 1 x10 (List.length (blk ++ [(((ql)))])) (List.map Ty.ints (blk ++ [(((ql)))])) := Own.ren o160 (B10.ren (by decide) rfl)
      refine wpList_nil ?_
      have o163 : Own s46 43 3 1 (Value.slice none 0 0) 0 (List.map Ty.int ([] : List Int)) := Own.nil _ _ _ _
      refine toPn ?_
      exact nL0 rfl ok51 F50 ⟨x10, (Value.slice none 0 0), trivial, (ownp_cell 6 (Ty.bool (clD ql dot)) (ownp_cell 5 (Ty.bool false) o161 rfl (fun _ _ h => (cvb (by (rfl)) h))) rfl (fun _ _ h => (cvb (by (rw [clD_ne hsn])) h))), (cvo (by (rw [clB_put hsn hL])) (by (rw [clB_put hsn hL])) o162), (cvo (by (simp)) (by (simp)) o163), (by rw [clE_put hsn hin hL]; first | assumption | omega)⟩


set_option maxHeartbeats 4000000 in
set_option maxRecDepth 100000 in
theorem cloneS_fn (xs : List Int) (σ : GW)  (v0 : Value) (hv0 : Ty.has (Ty.lst Ty.int xs) σ v0)  (hx2 : xs.length ≤ 1000000) :
    FnC Tryz.prog 104 #[v0] σ (Ty.lst Ty.int xs) := by
 refine fn_intro0 Tryz.func104 rfl Tryz.ntmps104 (Nat.le_of_ble_eq_true rfl) (fun s0 a0 hle F0 ok0 hargs => ?_)
 have p0 := pA hle (hargs 0 _ rfl) hv0
 have b1 := sl_le p0
 clear hargs; refine wp_seq ?_
 refine gI a0 s0 ok0 (gC (Ty.val (Value.slice none 0 0)) (gE ok0 fun a1 s1 ok1 D1 => ?_)); have q1 := D1.kt p0 rfl; refine tn (wp_seq (wp_seq ?_))
 refine gI a1 s1 ok1 (gM q1 (gT (Ty.nilb xs) rfl (fun A B G H I d0 => rP (y_slnb Tryz.underlying30 (ed d0 rfl rfl rfl) rfl)) (gE ok1 fun a2 s2 ok2 D2 => ?_))); have F2 := (F0.step0 D1.stp).step0 D2.stp; refine tn ?_
 refine cond_nb (D2.dn 1 rfl rfl) (fun c1 => ?_) ?_
 ·
  have hxe := c1
  refine wp_seq ?_
  refine gI a2 s2 ok2 (gC (Ty.val (Value.slice none 0 0)) (gE ok2 fun a3 s3 ok3 D3 => ?_)); refine tn (wp_ret (tr ?_))
  exact retL1 rfl ok3 (F2.step0 D3.stp) (nil_lst (by (rw [hxe])) (D3.dn 0 rfl rfl))
 ·
  refine wp_skip (tn (wp_seq ?_))
  refine gI a2 s2 ok2 (gR (Pr.own 5 3 1 0 (List.map Ty.int ([] : List Int))) rfl (by intro A B G H I; exact rP ((y_lit0 (k := 5) Tryz.underlying30 Tryz.inf3).mono (fun _ _ h => cvo (by simp) (by simp) h))) (gM (D2.kt q1 rfl) (gE2 ok2 fun a4 s4 ok4 D4 => ?_)))
  obtain ⟨x1, hx1⟩ : ∃ x, a4.eval (.tmp 5) = x := ⟨_, rfl⟩
  have q5 : At (Ty.val x1) s4 a4 (.tmp 5) := hx1
  have o1 := al2 (R := (Pr.own 5 3 1 0 (List.map Ty.int ([] : List Int)))) hx1 (D4.done 0 (by decide))
  refine tL ok4 (YldM.toL (m_append Tryz.underlying30 Tryz.inf3 (by decide) rfl (by decide) (al (R := (Pr.own 5 3 1 0 (List.map Ty.int ([] : List Int)))) q5 o1) (D4.dn 1 (by decide) rfl rfl) (one_map (fun _ => one_val rfl)) (by omega) (by omega))) fun a5 s5 hs1 ok5 r1 sm1 => ?_
  have F5 := (F2.step0 D4.stp).stepL hs1 (by decide)
  obtain ⟨x2, hx2⟩ : ∃ x, a5.eval (.tmp 7) = x := ⟨_, rfl⟩
  have q7 : At (Ty.val x2) s5 a5 (.tmp 7) := hx2
  have o2 := al2 (R := (Pr.own 5 3 1 (List.length xs) (List.map Ty.int xs))) hx2 (cvo (by simp) (by first | (rw [List.map_append]; rfl) | simp) r1)
  clear r1
  refine tL ok5 (Yld.toL (y_as q7)) fun a6 s6 hs2 ok6 r2 sm2 => ?_
  have F6 := F5.stepL hs2 (by decide); have o3 := Own.keepL o2 hs2 (by decide) (by decide)
  have q8 : At (Ty.val x2) s6 a6 (.tmp 2) := r2
  clear r2; refine wpList_nil (tn (wp_ret ?_))
  obtain ⟨t1, e1, h1, q9⟩ := Own.seal o3 (by decide)
  rw [← e1]
  have F7 := F6.step h1 (by decide)
  have q10 : At (Ty.lst Ty.int xs) t1 a6 (.tmp 2) := by have e : a6.eval (.tmp 2) = x2 := q8; show Ty.has _ _ _; rw [e]; exact q9
  exact retL1 rfl ok6 F7 q10


end Go.Proofs.YtdjihbjikpbhgaaGreatDoor
