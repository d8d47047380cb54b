/- The functions that the law MethodSays reaches, each by its contract. Part 5. -/
import Derived.Test.YtdjihbjikpbhgaaGreatDoorMethodSaysW4
namespace Go.Proofs.YtdjihbjikpbhgaaGreatDoor
open Go.KL

set_option maxRecDepth 100000 in
theorem rBy_fn (a : List Int) (b : List Int) (σ : GW) (v0 v1 : Value) (hv0 : Ty.has (Ty.lst Ty.int a) σ v0) (hv1 : Ty.has (Ty.lst Ty.int b) σ v1) (hbd : ∀ i, i < b.length → 0 ≤ b.getD i 0 ∧ b.getD i 0 < a.length) (E : b.length ≤ 1000000) :
    FnC Tryz.prog 38 #[v0, v1] σ (Ty.lst Ty.int (byL a b)) := by
 refine fn_intro Tryz.func38 rfl Tryz.ntmps38 (Nat.le_of_ble_eq_true rfl) (fun s0 a0 hle F0 ok0 hargs => ?_)
 have p0 := pA hle (hargs 0 _ rfl) hv0
 have b1 := sl_le p0
 have p1 := pA hle (hargs 1 _ rfl) hv1
 have b2 := sl_le p1
 clear hargs; refine wp_seq ?_
 refine gI a0 s0 ok0 (gC (Ty.val (Value.slice none 0 0)) (gE ok0 fun a1 s1 ok1 D1 => ?_)); refine tn (wp_seq ?_)
 refine gI a1 s1 ok1 (gC (Ty.val (Value.slice none 0 0)) (gE ok1 fun a2 s2 ok2 D2 => ?_)); refine tn (wp_seq (wp_seq ?_))
 refine gI a2 s2 ok2 (gC (Ty.int (0 : Int)) (gE ok2 fun a3 s3 ok3 D3 => ?_)); refine tn (wp_block ?_)
 refine loop (fun n1 a4 w1 => ∃ (t1 : GW) (k : Nat), t1.w = w1 ∧ From s0 t1 ∧ Ok 24 [] a4 ∧ (Pr.own 2 3 1 (List.length (byL a (b.take k))) (List.map Ty.int (byL a (b.take k)))).has t1 (a4.eval (.tmp 5)) ∧ At (Ty.nat k) t1 a4 (.tmp 6) ∧ At (Ty.lst Ty.int a) t1 a4 (.tmp 0) ∧ At (Ty.lst Ty.int b) t1 a4 (.tmp 1) ∧ (k ≤ b.length) ∧ n1 = b.length - k) (b.length - (0)) ?_ ?_
 ·
  exact ⟨s3, 0, rfl, (((F0.step0 D1.stp).step0 D2.stp).step0 D3.stp), ok3, (by have e : a3.eval (.tmp 5) = _ := (D3.kt (D2.dn 0 rfl rfl) rfl); rw [e]; exact Own.nil _ _ _ _), (cvi (by (first | rfl | omega | (simp_all; done) | (simp_all; omega))) (D3.dn 0 rfl rfl)), (D3.kt (D2.kt (D1.kt p0 rfl) rfl) rfl), (D3.kt (D2.kt (D1.kt p1 rfl) rfl) rfl), by omega, rfl⟩
 ·
  rintro n2 a5 w2 ⟨t2, k, rfl, F4, ok4, q10, q11, q12, q13, hk, rfl⟩
  have hp := byL_take_len a b k
  refine wp_seq (wp_seq ?_)
  refine gI a5 t2 ok4 (gM q11 (gM q13 (gS rfl (fun A B E G H d0 => rP (y_len Tryz.underlying30 (ed d0 rfl rfl rfl))) (gS rfl (fun A B E G H d0 d1 => rP (y_lss (ed d0 rfl rfl rfl) (ed d1 rfl rfl rfl))) (gE ok4 fun a6 s4 ok5 D4 => ?_))))); have F5 := F4.step0 D4.stp
  have q14 : (Pr.own 2 3 1 (List.length (byL a (b.take k))) (List.map Ty.int (byL a (b.take k)))).has s4 (a6.eval (.tmp 5)) := D4.ko q10 rfl
  have q15 := D4.kt q11 rfl; have q16 := D4.kt q12 rfl; have q17 := D4.kt q13 rfl; refine tn ?_
  refine cond_p (p := (((k : Nat) : Int) < (((List.length b) : Nat) : Int))) (D4.dn 3 rfl rfl) (fun c1 => ?_) (fun c1 => ?_)
  ·
   have hq := hbd k (by omega)
   refine wp_skip (tn (wp_seq (wp_block ?_)))
   refine gI a6 s4 ok5 (gT (Ty.val (a6.eval (.tmp 5))) rfl (fun A B E G H => rP (y_move (H 5 rfl))) (gM q16 (gM q17 (gM q15 (gT (Ty.ref [(Ty.int (b.getD k 0))]) rfl (fun A B E G H d0 d1 => rP (y_index1 Tryz.underlying30 Tryz.inf3 (ed d0 rfl rfl rfl) (ed d1 rfl rfl rfl) (by omega) (lst_get Ty.int b 0 k (by omega)))) (gS rfl (fun A B E G H d0 => rP (y_load Tryz.underlying3 rfl (ed d0 rfl rfl rfl) rfl)) (gT (Ty.ref [(Ty.int (a.getD ((b.getD k 0)).toNat 0))]) rfl (fun A B E G H d0 d1 => rP (y_index1 Tryz.underlying30 Tryz.inf3 (ed d0 rfl rfl rfl) (ed d1 rfl rfl rfl) (by omega) (lst_get Ty.int a 0 ((b.getD k 0)).toNat (by omega)))) (gS rfl (fun A B E G H d0 => rP (y_load Tryz.underlying3 rfl (ed d0 rfl rfl rfl) rfl)) (gT (Ty.sl 1 1 [(Ty.int (a.getD ((b.getD k 0)).toNat 0))]) rfl (fun A B E G H d0 => rP (y_build1o Tryz.underlying30 Tryz.inf3 rfl (one_val rfl) (ed d0 rfl rfl rfl))) (gE2 ok5 fun a7 s5 ok6 D5 => ?_)))))))))); have q19 := (Pr.own 2 3 1 (List.length (byL a (b.take k))) (List.map Ty.int (byL a (b.take k)))).up D5.stp q14
   have q20 : a7.eval (.tmp 5) = a6.eval (.tmp 5) := D5.same 5 rfl
   have q25 := D5.dn 8 (by decide) rfl rfl
   refine tail_step (m := 2) (R := (fun v τ => Own τ 2 3 1 v ((List.length (byL a (b.take k))) + 1) ((List.map Ty.int (byL a (b.take k))) ++ [(Ty.int (a.getD ((b.getD k 0)).toNat 0))]))) rfl rfl (by decide) ok6 (m_append Tryz.underlying30 Tryz.inf3 (by decide) rfl (by decide) (al (D5.dn 0 (by decide) rfl rfl) q19) q25 (by intro U hU; simp at hU;  subst hU; exact one_val rfl) (by omega) (by omega)) (fun a8 s6 hs1 ok7 r1 sm1 => ?_)
   have F7 := (F5.step0 D5.stp).step hs1 (by decide)
   have q26 : At (Ty.nat k) s6 a8 (.tmp 6) := kpm hs1 (by decide) (sm1 6 (by decide)) (D5.kt q15 rfl)
   have q27 : At (Ty.lst Ty.int a) s6 a8 (.tmp 0) := kpm hs1 (by decide) (sm1 0 (by decide)) (D5.kt q16 rfl)
   have q28 : At (Ty.lst Ty.int b) s6 a8 (.tmp 1) := kpm hs1 (by decide) (sm1 1 (by decide)) (D5.kt q17 rfl)
   have q29 : At (Ty.sl 1 1 [(Ty.int (a.getD ((b.getD k 0)).toNat 0))]) s6 a8 (.tmp 21) := kpm hs1 (by decide) (sm1 21 (by decide)) q25
   have q30 : (Pr.own 2 3 1 (List.length ((byL a (b.take k)) ++ [(a.getD ((b.getD k 0)).toNat 0)])) (List.map Ty.int ((byL a (b.take k)) ++ [(a.getD ((b.getD k 0)).toNat 0)]))).has s6 (a8.eval (.tmp 22)) := (cvo (by simp) (by first | (rw [List.map_append]; rfl) | simp) r1)
   refine tail_step (m := 0) (R := (fun v τ => Pr.has (Pr.own 2 3 1 (List.length ((byL a (b.take k)) ++ [(a.getD ((b.getD k 0)).toNat 0)])) (List.map Ty.int ((byL a (b.take k)) ++ [(a.getD ((b.getD k 0)).toNat 0)]))) τ v)) rfl rfl (by decide) ok7 (Yld.toM (y_assign q30)) (fun a9 s7 hs2 ok8 r2 sm2 => ?_)
   have F8 := F7.step hs2 (by decide)
   have q31 : At (Ty.nat k) s7 a9 (.tmp 6) := kpm hs2 (by decide) (sm2 6 (by decide)) q26
   have q32 : At (Ty.lst Ty.int a) s7 a9 (.tmp 0) := kpm hs2 (by decide) (sm2 0 (by decide)) q27
   have q33 : At (Ty.lst Ty.int b) s7 a9 (.tmp 1) := kpm hs2 (by decide) (sm2 1 (by decide)) q28
   have q34 : At (Ty.sl 1 1 [(Ty.int (a.getD ((b.getD k 0)).toNat 0))]) s7 a9 (.tmp 21) := kpm hs2 (by decide) (sm2 21 (by decide)) q29
   have q35 : (Pr.own 2 3 1 (List.length ((byL a (b.take k)) ++ [(a.getD ((b.getD k 0)).toNat 0)])) (List.map Ty.int ((byL a (b.take k)) ++ [(a.getD ((b.getD k 0)).toNat 0)]))).has s7 (a9.eval (.tmp 22)) := kpmo hs2 (by decide) (.inl rfl) (sm2 22 (by decide)) q30
   have q36 : (Pr.own 2 3 1 (List.length ((byL a (b.take k)) ++ [(a.getD ((b.getD k 0)).toNat 0)])) (List.map Ty.int ((byL a (b.take k)) ++ [(a.getD ((b.getD k 0)).toNat 0)]))).has s7 (a9.eval (.tmp 5)) := r2
   refine wpList_nil (bn (tn ?_))
   refine gI a9 s7 ok8 (gM q31 (gT (Ty.int (((k : Nat) : Int) + (1 : Int))) rfl (fun A B E G H d0 => rP (y_add (ed d0 rfl rfl rfl) rfl (w64 (by omega) (by omega)))) (gB 0 (gE ok8 fun a10 s8 ok9 D6 => ?_))))
   have q39 : (Pr.own 2 3 1 (List.length ((byL a (b.take k)) ++ [(a.getD ((b.getD k 0)).toNat 0)])) (List.map Ty.int ((byL a (b.take k)) ++ [(a.getD ((b.getD k 0)).toNat 0)]))).has s8 (a10.eval (.tmp 5)) := D6.ko q36 rfl
   exact tn ⟨b.length - ((k+1)), by omega, s8, (k+1), rfl, (F8.step0 D6.stp), ok9, (cvo (by (rw [byL_snoc a b k (by omega)])) (by (rw [byL_snoc a b k (by omega)])) q39), (cvi (by (first | rfl | omega | (simp_all; done) | (simp_all; omega))) (D6.dn 2 rfl rfl)), (D6.kt q32 rfl), (D6.kt q33 rfl), by omega, rfl⟩
  ·
   refine wp_exit (tx (tx (bx (tn (wp_seq ?_)))))
   refine gI a6 s4 ok5 (gT (Ty.val (a6.eval (.tmp 5))) rfl (fun A B E G H => rP (y_move (H 5 rfl))) (gB 0 (gE ok5 fun a11 s9 ok10 D7 => ?_)))
   have q41 : (Pr.own 2 3 1 (List.length (byL a (b.take k))) (List.map Ty.int (byL a (b.take k)))).has s9 (a11.eval (.tmp 4)) := al (show _ = _ from D7.done 1) ((Pr.own 2 3 1 (List.length (byL a (b.take k))) (List.map Ty.int (byL a (b.take k)))).up D7.stp q14)
   refine tn (wp_ret ?_)
   obtain ⟨t3, e1, h1, q42⟩ := Own.seal q41 (by decide)
   rw [← e1]
   have F11 := (F5.step0 D7.stp).step h1 (by decide)
   exact ret1 rfl ok10 F11 (cvt (by (obtain rfl : k = b.length := (by omega); rw [List.take_length])) q42)


set_option maxHeartbeats 4000000 in
set_option maxRecDepth 100000 in
theorem rFrom_fn (r : List Int) (l : List (List Int)) (σ : GW)  (v0 v1 : Value) (hv0 : Ty.has (Ty.lst Ty.int r) σ v0) (hv1 : Ty.has (Ty.lst Ty.ints l) σ v1)  (hr : r.length ≤ 12) (hok : ∀ k, k < l.length → okL 0 (l.getD k []) r.length) (hl : l.length ≤ 200) :
    FnC Tryz.prog 14 #[v0, v1] σ (Ty.lst Ty.ints (fromL r l)) := by
 refine fn_intro0 Tryz.func14 rfl Tryz.ntmps14 (Nat.le_of_ble_eq_true rfl) (fun s0 a0 hle F0 ok0 hargs => ?_)
 have p0 := pA hle (hargs 0 _ rfl) hv0
 have b1 := sl_le p0
 have p1 := pA hle (hargs 1 _ rfl) hv1
 have b2 := sl_le p1
 clear hargs; refine wp_seq ?_
 refine gI a0 s0 ok0 (gC (Ty.val (Value.slice none 0 0)) (gE ok0 fun a1 s1 ok1 D1 => ?_)); have q1 := D1.kt p0 rfl; refine tn (wp_seq ?_)
 refine gI a1 s1 ok1 (gM q1 (gR (Pr.own 5 30 1 1 (List.map Ty.ints [r])) rfl (by intro A B E G H d0; exact rP ((y_lit1 (k := 5) Tryz.underlying22 Tryz.inf30 rfl (one_sl) (ed d0 rfl rfl rfl)).mono (fun _ _ h => cvo (by simp) (by simp) h))) (gE2 ok1 fun a2 s2 ok2 D2 => ?_)))
 obtain ⟨x1, hx1⟩ : ∃ x, a2.eval (.tmp 9) = x := ⟨_, rfl⟩
 have q5 : At (Ty.val x1) s2 a2 (.tmp 9) := hx1
 have o1 := al2 (R := (Pr.own 5 30 1 1 (List.map Ty.ints [r]))) hx1 (D2.done 1 (by decide))
 refine tL ok2 (Yld.toL (y_as q5)) fun a3 s3 hs1 ok3 r1 sm1 => ?_
 have F3 := ((F0.step0 D1.stp).step0 D2.stp).stepL hs1 (by decide); have q6 := kpL hs1 (by decide) (sm1 0 (by decide)) (D2.kt q1 rfl); have q7 := kpL hs1 (by decide) (sm1 1 (by decide)) (D2.kt (D1.kt p1 rfl) rfl); have o2 := Own.keepL o1 hs1 (by decide) (by decide)
 have q8 : At (Ty.val x1) s3 a3 (.tmp 5) := r1
 clear r1; refine wpList_nil (tn (wp_seq (wp_seq ?_)))
 refine gI a3 s3 ok3 (gC (Ty.int (0 : Int)) (gE ok3 fun a4 s4 ok4 D3 => ?_)); have o3 := Own.k0 o2 D3.stp; refine tn (wp_block ?_)
 refine loop (fun n1 a5 w1 => ∃ (t1 : GW) (k : Nat) (x5_0 : Value), t1.w = w1 ∧ FromL [] s0 t1 ∧ Ok 31 [] a5 ∧ At (Ty.nat k) t1 a5 (.tmp 6) ∧ At (Ty.lst Ty.int (curL r l k)) t1 a5 (.tmp 0) ∧ At (Ty.val x5_0) t1 a5 (.tmp 5) ∧ At (Ty.lst Ty.ints l) t1 a5 (.tmp 1) ∧ Own t1 5 30 1 x5_0 (List.length (fromTo r l k)) (List.map Ty.ints (fromTo r l k)) ∧ (k ≤ l.length) ∧ n1 = l.length - k) (l.length - (0)) ?_ ?_
 ·
  exact ⟨s4, 0, x1, rfl, (F3.step0 D3.stp), ok4, (cvi (by (first | rfl | omega | (simp_all; done) | (simp_all; omega))) (D3.dn 0 rfl rfl)), (cvt (by (rfl)) (D3.kt q6 rfl)), (D3.kt q8 rfl), (D3.kt q7 rfl), (cvo (by (simp [fromTo_zero])) (by (simp [fromTo_zero])) o3), by omega, rfl⟩
 ·
  rintro n2 a6 w2 ⟨t2, k, x5_0, rfl, F5, ok5, q13, q14, q15, q16, o4, hk, rfl⟩
  have hcl := curL_len hok k hk
  have hfl := fromTo_len r l k
  refine wp_seq (wp_seq ?_)
  refine gI a6 t2 ok5 (gM q13 (gM q16 (gS rfl (fun A B E G H d0 => rP (y_len Tryz.underlying22 (ed d0 rfl rfl rfl))) (gS rfl (fun A B E G H d0 d1 => rP (y_lss (ed d0 rfl rfl rfl) (ed d1 rfl rfl rfl))) (gE ok5 fun a7 s5 ok6 D4 => ?_))))); have F6 := F5.step0 D4.stp; have q17 := D4.kt q13 rfl; have q18 := D4.kt q14 rfl; have q19 := D4.kt q15 rfl; have q20 := D4.kt q16 rfl; have o5 := Own.k0 o4 D4.stp; refine tn ?_
  refine cond_p (p := (((k : Nat) : Int) < (((List.length l) : Nat) : Int))) (D4.dn 3 rfl rfl) (fun c1 => ?_) (fun c1 => ?_)
  ·
   have hokk := hok k (by omega); rw [← hcl] at hokk; have hcc := chgRow_len hokk; have hcd := hcc.symm; have hcl0 : (curL r l k).length ≤ 12 := (by omega); have hbd : ∀ i, i < (chgRow (curL r l k).length (l.getD k [])).length → 0 ≤ (chgRow (curL r l k).length (l.getD k [])).getD i 0 ∧ (chgRow (curL r l k).length (l.getD k [])).getD i 0 < ((curL r l k).length : Int) := (fun i hi => chgRow_bd hokk hi)
   refine wp_skip (tn (wp_seq (wp_block (wp_seq ?_))))
   refine gI a7 s5 ok6 (gM q18 (gS rfl (fun A B E G H d0 => rP (y_len Tryz.underlying30 (ed d0 rfl rfl rfl))) (gM q20 (gM q17 (gT (Ty.ref [(Ty.lst Ty.int (l.getD k []))]) rfl (fun A B E G H d0 d1 => rP (y_index1 Tryz.underlying22 Tryz.inf30 (ed d0 rfl rfl rfl) (ed d1 rfl rfl rfl) (by omega) (lst_get Ty.ints l [] k (by omega)))) (gS rfl (fun A B E G H d0 => rP (y_load Tryz.underlying30 rfl (ed d0 rfl rfl rfl) rfl)) (gS rfl (fun A B E G H d0 d1 => rP (y_call _ Tryz.func37 rfl rfl my2 (rChangeRow_fn ((List.length (curL r l k))) ((l.getD k [])) _ _ _ (cvi (σ := B) (by omega) (ed d0 rfl rfl rfl)) (ed d1 rfl rfl rfl) (by omega)))) (gB 0 (gE ok6 fun a8 s6 ok7 D5 => ?_))))))))); have o6 := Own.k0 o5 D5.stp; refine tn (wp_seq ?_)
   refine gI a8 s6 ok7 (gM (D5.kt q18 rfl) (gM (D5.dn 7 rfl rfl) (gS rfl (fun A B E G H d0 d1 => rP (y_call _ Tryz.func38 rfl rfl my2 (rBy_fn ((curL r l k)) ((chgRow ((List.length (curL r l k))) ((l.getD k [])))) _ _ _ (ed d0 rfl rfl rfl) (ed d1 rfl rfl rfl) (by first | assumption | omega) (by first | assumption | omega)))) (gB 0 (gE ok7 fun a9 s7 ok8 D6 => ?_))))); have q28 := D6.kt (D5.kt q19 rfl) rfl; have o7 := Own.k0 o6 D6.stp; have q30 := D6.dn 3 rfl rfl; refine tn ?_
   refine gI a9 s7 ok8 (gM q28 (gM q30 (gT (Ty.sl 1 1 [(Ty.lst Ty.int (byL ((curL r l k)) ((chgRow ((List.length (curL r l k))) ((l.getD k []))))))]) rfl (fun A B E G H d0 => rP (y_build1o Tryz.underlying22 Tryz.inf30 rfl (one_sl) (ed d0 rfl rfl rfl))) (gE2 ok8 fun a10 s8 ok9 D7 => ?_)))); have o8 := Own.k0 o7 D7.stp
   have q35 : At (Ty.val x5_0) s8 a10 (.tmp 26) := D7.done 0 (by decide)
   have q36 := D7.dn 2 (by decide) rfl rfl
   have b3 := sl_le q36
   refine tL ok9 (YldM.toL (m_append Tryz.underlying22 Tryz.inf30 (by decide) rfl (by decide) (al (R := (Pr.own 5 30 1 (List.length (fromTo r l k)) (List.map Ty.ints (fromTo r l k)))) q35 o8) q36 (by intro U hU; simp at hU; subst hU; exact one_sl) (by omega) (by omega))) fun a11 s9 hs2 ok10 r2 sm2 => ?_
   have F10 := (((F6.step0 D5.stp).step0 D6.stp).step0 D7.stp).stepL hs2 (by decide); have q37 := kpL hs2 (by decide) (sm2 6 (by decide)) (D7.kt (D6.kt (D5.kt q17 rfl) rfl) rfl); have q38 := kpL hs2 (by decide) (sm2 5 (by decide)) (D7.kt q28 rfl); have q39 := kpL hs2 (by decide) (sm2 1 (by decide)) (D7.kt (D6.kt (D5.kt q20 rfl) rfl) rfl); have q40 := kpL hs2 (by decide) (sm2 0 (by decide)) (D7.kt q30 rfl)
   obtain ⟨x2, hx2⟩ : ∃ x, a11.eval (.tmp 29) = x := ⟨_, rfl⟩
   have q41 : At (Ty.val x2) s9 a11 (.tmp 29) := hx2
   have o9 := al2 (R := (Pr.own 5 30 1 (List.length ((fromTo r l k) ++ [(byL ((curL r l k)) ((chgRow ((List.length (curL r l k))) ((l.getD k [])))))])) (List.map Ty.ints ((fromTo r l k) ++ [(byL ((curL r l k)) ((chgRow ((List.length (curL r l k))) ((l.getD k [])))))])))) hx2 (cvo (by simp) (by first | (rw [List.map_append]; rfl) | simp) r2)
   clear r2
   refine tL ok10 (Yld.toL (y_as q41)) fun a12 s10 hs3 ok11 r3 sm3 => ?_
   have F11 := F10.stepL hs3 (by decide); have q42 := kpL hs3 (by decide) (sm3 6 (by decide)) q37; have q43 := kpL hs3 (by decide) (sm3 1 (by decide)) q39; have q44 := kpL hs3 (by decide) (sm3 0 (by decide)) q40; have o10 := Own.keepL o9 hs3 (by decide) (by decide)
   have q45 : At (Ty.val x2) s10 a12 (.tmp 5) := r3
   clear r3; refine wpList_nil (bn (tn ?_))
   refine gI a12 s10 ok11 (gM q42 (gT (Ty.int (((k : Nat) : Int) + (1 : Int))) rfl (fun A B E G H d0 => rP (y_add (ed d0 rfl rfl rfl) rfl (w64 (by omega) (by omega)))) (gB 0 (gE ok11 fun a13 s11 ok12 D8 => ?_)))); have o11 := Own.k0 o10 D8.stp
   exact tn ⟨l.length - ((k+1)), by omega, s11, (k+1), x2, rfl, (F11.step0 D8.stp), ok12, (cvi (by (first | rfl | omega | (simp_all; done) | (simp_all; omega))) (D8.dn 2 rfl rfl)), (cvt (by (rw [curL_succ r l k (by omega)])) (D8.kt q44 rfl)), (D8.kt q45 rfl), (D8.kt q43 rfl), (cvo (by (rw [fromTo_succ, curL_succ r l k (by omega)])) (by (rw [fromTo_succ, curL_succ r l k (by omega)])) o11), by omega, rfl⟩
  ·
   refine wp_exit (tx (tx (bx (tn (wp_seq ?_)))))
   refine gI a7 s5 ok6 (gM q19 (gB 0 (gE ok6 fun a14 s12 ok13 D9 => ?_))); have o12 := Own.k0 o5 D9.stp
   have q50 : At (Ty.val x5_0) s12 a14 (.tmp 4) := D9.done 1
   refine tn (wp_ret ?_)
   obtain ⟨t3, e1, h1, q51⟩ := Own.seal o12 (by decide)
   rw [← e1]
   have F14 := (F6.step0 D9.stp).step h1 (by decide)
   have q52 : At (Ty.lst Ty.ints (fromTo r l k)) t3 a14 (.tmp 4) := by have e : a14.eval (.tmp 4) = x5_0 := q50; show Ty.has _ _ _; rw [e]; exact q51
   exact retL1 rfl ok13 F14 (cvt (by (obtain rfl : k = l.length := (by omega); rfl)) q52)


set_option maxRecDepth 100000 in
theorem rsame_fn (xs : List Int) (ys : List Int) (σ : GW) (v0 v1 : Value) (hv0 : Ty.has (Ty.lst Ty.int xs) σ v0) (hv1 : Ty.has (Ty.lst Ty.int ys) σ v1)  :
    FnC Tryz.prog 18 #[v0, v1] σ (Ty.bool (decide (xs = ys))) := by
 refine fn_intro Tryz.func18 rfl Tryz.ntmps18 (Nat.le_of_ble_eq_true rfl) (fun s0 a0 hle F0 ok0 hargs => ?_)
 have p0 := pA hle (hargs 0 _ rfl) hv0
 have b1 := sl_le p0
 have p1 := pA hle (hargs 1 _ rfl) hv1
 have b2 := sl_le p1
 clear hargs; refine wp_seq ?_
 refine gI a0 s0 ok0 (gC (Ty.bool false) (gE ok0 fun a1 s1 ok1 D1 => ?_)); have q1 := D1.kt p0 rfl; have q2 := D1.kt p1 rfl; refine tn (wp_seq (wp_seq ?_))
 refine gI a1 s1 ok1 (gM q1 (gS rfl (fun A B E G H d0 => rP (y_len Tryz.underlying30 (ed d0 rfl rfl rfl))) (gM q2 (gS rfl (fun A B E G H d0 => rP (y_len Tryz.underlying30 (ed d0 rfl rfl rfl))) (gS rfl (fun A B E G H d0 d1 => rP (y_neq (ed d0 rfl rfl rfl) (ed d1 rfl rfl rfl))) (gE ok1 fun a2 s2 ok2 D2 => ?_)))))); have F2 := (F0.step0 D1.stp).step0 D2.stp; refine tn ?_
 refine cond_p (p := ((((List.length xs) : Nat) : Int) ≠ (((List.length ys) : Nat) : Int))) (D2.dn 4 rfl rfl) (fun c1 => ?_) (fun c1 => ?_)
 ·
  refine wp_seq ?_
  refine gI a2 s2 ok2 (gC (Ty.bool false) (gE ok2 fun a3 s3 ok3 D3 => ?_)); refine tn (wp_ret (tr ?_))
  exact ret1 rfl ok3 (F2.step0 D3.stp) (cvb (by (rw [decide_eq_false]; intro e; subst e; omega)) (D3.dn 0 rfl rfl))
 ·
  refine wp_skip (tn (wp_seq (wp_seq ?_)))
  refine gI a2 s2 ok2 (gC (Ty.int (0 : Int)) (gE ok2 fun a4 s4 ok4 D4 => ?_)); refine tn (wp_block ?_)
  refine loop (fun n1 a5 w1 => ∃ (t1 : GW) (k : Nat), t1.w = w1 ∧ From s0 t1 ∧ Ok 26 [] a5 ∧ At (Ty.nat k) t1 a5 (.tmp 5) ∧ At (Ty.lst Ty.int xs) t1 a5 (.tmp 0) ∧ At (Ty.lst Ty.int ys) t1 a5 (.tmp 1) ∧ (k ≤ xs.length) ∧ (xs.length = ys.length) ∧ (∀ j, j < k → xs.getD j 0 = ys.getD j 0) ∧ n1 = xs.length - k) (xs.length - (0)) ?_ ?_
  ·
   exact ⟨s4, 0, rfl, (F2.step0 D4.stp), ok4, (cvi (by (first | rfl | omega | (simp_all; done) | (simp_all; omega))) (D4.dn 0 rfl rfl)), (D4.kt (D2.kt q1 rfl) rfl), (D4.kt (D2.kt q2 rfl) rfl), by omega, by omega, fun j hj => absurd hj (Nat.not_lt_zero j), rfl⟩
  ·
   rintro n2 a6 w2 ⟨t2, k, rfl, F5, ok5, q10, q11, q12, hk, hl, heq, rfl⟩
   refine wp_seq (wp_seq ?_)
   refine gI a6 t2 ok5 (gM q10 (gM q11 (gS rfl (fun A B E G H d0 => rP (y_len Tryz.underlying30 (ed d0 rfl rfl rfl))) (gS rfl (fun A B E G H d0 d1 => rP (y_lss (ed d0 rfl rfl rfl) (ed d1 rfl rfl rfl))) (gE ok5 fun a7 s5 ok6 D5 => ?_))))); have F6 := F5.step0 D5.stp; have q13 := D5.kt q10 rfl; have q14 := D5.kt q11 rfl; have q15 := D5.kt q12 rfl; refine tn ?_
   refine cond_p (p := (((k : Nat) : Int) < (((List.length xs) : Nat) : Int))) (D5.dn 3 rfl rfl) (fun c2 => ?_) (fun c2 => ?_)
   ·
    refine wp_skip (tn (wp_seq (wp_block (wp_seq ?_))))
    refine gI a7 s5 ok6 (gM q14 (gM q13 (gT (Ty.ref [(Ty.int (xs.getD k 0))]) rfl (fun A B E G H d0 d1 => rP (y_index1 Tryz.underlying30 Tryz.inf3 (ed d0 rfl rfl rfl) (ed d1 rfl rfl rfl) (by omega) (lst_get Ty.int xs 0 k (by omega)))) (gS rfl (fun A B E G H d0 => rP (y_load Tryz.underlying3 rfl (ed d0 rfl rfl rfl) rfl)) (gM q15 (gM q13 (gT (Ty.ref [(Ty.int (ys.getD k 0))]) rfl (fun A B E G H d0 d1 => rP (y_index1 Tryz.underlying30 Tryz.inf3 (ed d0 rfl rfl rfl) (ed d1 rfl rfl rfl) (by omega) (lst_get Ty.int ys 0 k (by omega)))) (gS rfl (fun A B E G H d0 => rP (y_load Tryz.underlying3 rfl (ed d0 rfl rfl rfl) rfl)) (gS rfl (fun A B E G H d0 d1 => rP (y_neq (ed d0 rfl rfl rfl) (ed d1 rfl rfl rfl))) (gE ok6 fun a8 s6 ok7 D6 => ?_)))))))))); have F7 := F6.step0 D6.stp; refine tn ?_
    refine cond_p (p := ((xs.getD k 0) ≠ (ys.getD k 0))) (D6.dn 8 rfl rfl) (fun c3 => ?_) (fun c3 => ?_)
    ·
     refine wp_seq ?_
     refine gI a8 s6 ok7 (gC (Ty.bool false) (gE ok7 fun a9 s7 ok8 D7 => ?_)); refine tn (wp_ret (br (tr (tr (br (tr ?_))))))
     exact ret1 rfl ok8 (F7.step0 D7.stp) (cvb (by (exact (decide_eq_false (fun e => by subst e; simp_all)).symm)) (D7.dn 0 rfl rfl))
    ·
     refine wp_skip (bn (tn ?_))
     refine gI a8 s6 ok7 (gM (D6.kt q13 rfl) (gT (Ty.int (((k : Nat) : Int) + (1 : Int))) rfl (fun A B E G H d0 => rP (y_add (ed d0 rfl rfl rfl) rfl (w64 (by omega) (by omega)))) (gB 0 (gE ok7 fun a10 s8 ok9 D8 => ?_))))
     exact tn ⟨xs.length - ((k+1)), by omega, s8, (k+1), rfl, (F7.step0 D8.stp), ok9, (cvi (by (first | rfl | omega | (simp_all; done) | (simp_all; omega))) (D8.dn 2 rfl rfl)), (D8.kt (D6.kt q14 rfl) rfl), (D8.kt (D6.kt q15 rfl) rfl), by omega, by omega, all_snoc heq (by assumption), rfl⟩
   ·
    refine wp_exit (tx (tx (bx (tn (wp_seq ?_)))))
    refine gI a7 s5 ok6 (gC (Ty.bool true) (gE ok6 fun a11 s9 ok10 D9 => ?_)); refine tn (wp_ret ?_)
    exact ret1 rfl ok10 (F6.step0 D9.stp) (cvb (by (exact (decide_eq_true (list_ext (by omega) (fun j hj => heq j (by omega)))).symm)) (D9.dn 0 rfl rfl))


set_option maxHeartbeats 4000000 in
set_option maxRecDepth 100000 in
theorem rOrder_fn (r : List Int) (σ : GW)  (v0 : Value) (hv0 : Ty.has (Ty.lst Ty.int r) σ v0)  (hr : IsRow r) :
    FnC Tryz.prog 16 #[v0] σ (Ty.tup2 (Ty.nat (ordL r)) (Ty.bool (oddL r))) := by
 have hln := hr.le
 have hpo := ordL_pos hr
 have hle : ordL r ≤ 27720 := (ordTo_le hr _ (Nat.le_refl _)).2
 refine fn_intro0 Tryz.func16 rfl Tryz.ntmps16 (Nat.le_of_ble_eq_true rfl) (fun s0 a0 hle F0 ok0 hargs => ?_)
 have p0 := pA hle (hargs 0 _ rfl) hv0
 have b1 := sl_le p0
 clear hargs; refine wp_seq ?_
 refine gI a0 s0 ok0 (gC (Ty.int (0 : Int)) (gC (Ty.bool false) (gE ok0 fun a1 s1 ok1 D1 => ?_))); refine tn (wp_seq ?_)
 refine gI a1 s1 ok1 (gC (Ty.int (1 : Int)) (gE ok1 fun a2 s2 ok2 D2 => ?_)); have q2 := D2.kt (D1.kt p0 rfl) rfl; refine tn (wp_seq ?_)
 refine gI a2 s2 ok2 (gR (Pr.own 2 3 1 0 (List.map Ty.int ([] : List Int))) rfl (by intro A B E G H; exact rP ((y_lit0 (k := 2) Tryz.underlying30 Tryz.inf3).mono (fun _ _ h => cvo (by simp) (by simp) h))) (gM q2 (gE2 ok2 fun a3 s3 ok3 D3 => ?_)))
 obtain ⟨x1, hx1⟩ : ∃ x, a3.eval (.tmp 10) = x := ⟨_, rfl⟩
 have q6 : At (Ty.val x1) s3 a3 (.tmp 10) := hx1
 have o1 := al2 (R := (Pr.own 2 3 1 0 (List.map Ty.int ([] : List Int)))) hx1 (D3.done 0 (by decide))
 refine tL ok3 (YldM.toL (m_append Tryz.underlying30 Tryz.inf3 (by decide) rfl (by decide) (al (R := (Pr.own 2 3 1 0 (List.map Ty.int ([] : List Int)))) q6 o1) (D3.dn 1 (by decide) rfl rfl) (one_map (fun _ => one_val rfl)) (by omega) (by omega))) fun a4 s4 hs1 ok4 r1 sm1 => ?_
 have F4 := (((F0.step0 D1.stp).step0 D2.stp).step0 D3.stp).stepL hs1 (by decide); have q8 := kpL hs1 (by decide) (sm1 0 (by decide)) (D3.kt q2 rfl); have q9 := kpL hs1 (by decide) (sm1 4 (by decide)) (D3.kt (D2.dn 0 rfl rfl) rfl)
 obtain ⟨x2, hx2⟩ : ∃ x, a4.eval (.tmp 12) = x := ⟨_, rfl⟩
 have q10 : At (Ty.val x2) s4 a4 (.tmp 12) := hx2
 have o2 := al2 (R := (Pr.own 2 3 1 (List.length r) (List.map Ty.int r))) hx2 (cvo (by simp) (by first | (rw [List.map_append]; rfl) | simp) r1)
 clear r1
 refine tL ok4 (Yld.toL (y_as q10)) fun a5 s5 hs2 ok5 r2 sm2 => ?_
 have F5 := F4.stepL hs2 (by decide); have q11 := kpL hs2 (by decide) (sm2 0 (by decide)) q8; have q12 := kpL hs2 (by decide) (sm2 4 (by decide)) q9; have o3 := Own.keepL o2 hs2 (by decide) (by decide)
 have q13 : At (Ty.val x2) s5 a5 (.tmp 5) := r2
 clear r2; refine wpList_nil ?_
 have o4 : Own s5 2 3 1 x2 (List.length r) (List.map Ty.int r) := o3
 refine tn (wp_seq ?_)
 refine gI a5 s5 ok5 (gM q11 (gS rfl (fun A B E G H d0 => rP (y_len Tryz.underlying30 (ed d0 rfl rfl rfl))) (gS rfl (fun A B E G H d0 => rP (y_call _ Tryz.func15 rfl rfl my1 (rRounds_fn ((List.length r)) _ _ (cvi (σ := B) (by omega) (ed d0 rfl rfl rfl)) (by omega)))) (gB 0 (gE ok5 fun a6 s6 ok6 D4 => ?_))))); have o5 := Own.k0 o4 D4.stp; refine tn (wp_seq (wp_block ?_))
 obtain ⟨t1, e1, h1, q18⟩ := Own.seal o5 (by decide)
 rw [← e1]
 have F7 := (F5.step0 D4.stp).step h1 (by decide); have q19 := Ty.up (Ty.lst Ty.int r) (h1.le (by decide)) (D4.kt q11 rfl); have q20 := Ty.up (Ty.int (1 : Int)) (h1.le (by decide)) (D4.kt q12 rfl)
 have q21 : At (Ty.lst Ty.int r) t1 a6 (.tmp 5) := by have e : a6.eval (.tmp 5) = x2 := (D4.kt q13 rfl); show Ty.has _ _ _; rw [e]; exact q18
 have q22 := Ty.up (Ty.lst Ty.int (roundsL ((List.length r)))) (h1.le (by decide)) (D4.dn 3 rfl rfl)
 refine loop (fun n1 a7 w1 => ∃ (t2 : GW) (m : Nat), t2.w = w1 ∧ FromL [] s0 t2 ∧ Ok 51 [] a7 ∧ At (Ty.nat m) t2 a7 (.tmp 4) ∧ At (Ty.lst Ty.int (powL r.length r m)) t2 a7 (.tmp 5) ∧ At (Ty.lst Ty.int r) t2 a7 (.tmp 0) ∧ At (Ty.lst Ty.int (roundsL ((List.length r)))) t2 a7 (.tmp 6) ∧ (1 ≤ m) ∧ (m ≤ ordL r) ∧ n1 = ordL r - m) (ordL r - (1)) ?_ ?_
 ·
  exact ⟨t1, 1, rfl, F7, ok6, (cvi (by (rfl)) q20), (cvt (by (exact congrArg _ (pow_one hr rfl).symm)) q21), q19, q22, by omega, by omega, rfl⟩
 ·
  rintro n2 a8 w2 ⟨t3, m, rfl, F8, ok7, q23, q24, q25, q26, h1, hm, rfl⟩
  have hst := pow_stop hr h1 hm
  have hpl := powL_len (n := r.length) (h := r) rfl m
  have hbd : ∀ i, i < r.length → 0 ≤ r.getD i 0 ∧ r.getD i 0 < (powL r.length r m).length := (fun i hi => by rw [hpl]; exact hr.at hi)
  refine wp_seq (wp_seq ?_)
  refine gI a8 t3 ok7 (gM q24 (gM q26 (gS rfl (fun A B E G H d0 d1 => rP (y_call _ Tryz.func18 rfl rfl my2 (rsame_fn ((powL r.length r m)) ((roundsL ((List.length r)))) _ _ _ (ed d0 rfl rfl rfl) (ed d1 rfl rfl rfl) ))) (gS rfl (fun A B E G H d0 => rP (y_not (ed d0 rfl rfl rfl))) (gE ok7 fun a9 s7 ok8 D5 => ?_))))); have F9 := F8.step0 D5.stp; have q27 := D5.kt q23 rfl; have q29 := D5.kt q25 rfl; refine tn ?_
  refine cond_t (D5.dn 3 rfl rfl) (fun c1 => ?_) (fun c1 => ?_)
  ·
   have hne : powL r.length r m ≠ roundsL r.length := (by simpa using c1); have hmo : m ≠ ordL r := fun e => hne (hst.2 e)
   refine wp_skip (tn (wp_block (wp_seq ?_)))
   refine gI a9 s7 ok8 (gM (D5.kt q24 rfl) (gM q29 (gS rfl (fun A B E G H d0 d1 => rP (y_call _ Tryz.func38 rfl rfl my2 (rBy_fn ((powL r.length r m)) (r) _ _ _ (ed d0 rfl rfl rfl) (ed d1 rfl rfl rfl) (by first | assumption | omega) (by first | assumption | omega)))) (gB 0 (gE ok8 fun a10 s8 ok9 D6 => ?_))))); refine tn ?_
   refine gI a10 s8 ok9 (gM (D6.kt q27 rfl) (gT (Ty.nat (m + 1)) rfl (fun A B E G H d0 => rP ((y_add (ed d0 rfl rfl rfl) rfl (w64 (by omega) (by omega))).mono (fun τ _ h => cvi (σ := τ) (by first | omega | exact (Int.natCast_mul _ _).symm) h))) (gB 0 (gE ok9 fun a11 s9 ok10 D7 => ?_)))); refine bn ?_
   exact tn ⟨ordL r - ((m + 1)), by omega, s9, (m + 1), rfl, ((F9.step0 D6.stp).step0 D7.stp), ok10, (cvi (by (first | rfl | omega | (simp_all; done) | (simp_all; omega))) (D7.dn 2 rfl rfl)), (cvt (by (rfl)) (D7.kt (D6.dn 3 rfl rfl) rfl)), (D7.kt (D6.kt q29 rfl) rfl), (D7.kt (D6.kt (D5.kt q26 rfl) rfl) rfl), by omega, by omega, rfl⟩
  ·
   have he : powL r.length r m = roundsL r.length := (by simpa using c1); have hmo := hst.1 he
   refine wp_exit (tx (tx (bx (tn (wp_seq ?_)))))
   refine gI a9 s7 ok8 (gC (Ty.int (0 : Int)) (gE ok8 fun a12 s10 ok11 D8 => ?_)); refine tn (wp_seq (wp_seq ?_))
   refine gI a12 s10 ok11 (gC (Ty.int (0 : Int)) (gE ok11 fun a13 s11 ok12 D9 => ?_)); refine tn (wp_block ?_)
   refine loop (fun n3 a14 w3 => ∃ (t4 : GW) (i : Nat), t4.w = w3 ∧ FromL [] s0 t4 ∧ Ok 51 [] a14 ∧ At (Ty.nat i) t4 a14 (.tmp 8) ∧ At (Ty.nat (wrN r i)) t4 a14 (.tmp 7) ∧ At (Ty.nat m) t4 a14 (.tmp 4) ∧ At (Ty.lst Ty.int r) t4 a14 (.tmp 0) ∧ (i ≤ r.length) ∧ n3 = r.length - i) (r.length - (0)) ?_ ?_
   ·
    exact ⟨s11, 0, rfl, ((F9.step0 D8.stp).step0 D9.stp), ok12, (cvi (by (first | rfl | omega | (simp_all; done) | (simp_all; omega))) (D9.dn 0 rfl rfl)), (cvi (by (rfl)) (D9.kt (D8.dn 0 rfl rfl) rfl)), (D9.kt (D8.kt q27 rfl) rfl), (D9.kt (D8.kt q29 rfl) rfl), by omega, rfl⟩
   ·
    rintro n4 a15 w4 ⟨t5, i, rfl, F14, ok13, q47, q48, q49, q50, hi, rfl⟩
    have hwl := wrN_le r i
    have hii := Nat.mul_le_mul (show i ≤ 12 by omega) (show i ≤ 12 by omega)
    refine wp_seq (wp_seq ?_)
    refine gI a15 t5 ok13 (gM q47 (gM q50 (gS rfl (fun A B E G H d0 => rP (y_len Tryz.underlying30 (ed d0 rfl rfl rfl))) (gS rfl (fun A B E G H d0 d1 => rP (y_lss (ed d0 rfl rfl rfl) (ed d1 rfl rfl rfl))) (gE ok13 fun a16 s12 ok14 D10 => ?_))))); have F15 := F14.step0 D10.stp; have q52 := D10.kt q48 rfl; have q53 := D10.kt q49 rfl; refine tn ?_
    refine cond_p (p := (((i : Nat) : Int) < (((List.length r) : Nat) : Int))) (D10.dn 3 rfl rfl) (fun c2 => ?_) (fun c2 => ?_)
    ·
     refine wp_skip (tn (wp_seq (wp_block (wp_seq ?_))))
     refine gI a16 s12 ok14 (gC (Ty.int (0 : Int)) (gE ok14 fun a17 s13 ok15 D11 => ?_)); refine tn (wp_block ?_)
     refine loop (fun n5 a18 w5 => ∃ (t6 : GW) (k : Nat), t6.w = w5 ∧ FromL [] s0 t6 ∧ Ok 51 [] a18 ∧ At (Ty.nat k) t6 a18 (.tmp 9) ∧ At (Ty.nat (wrN r i + ((r.take k).countP fun x => decide (r.getD i 0 < x)))) t6 a18 (.tmp 7) ∧ At (Ty.nat i) t6 a18 (.tmp 8) ∧ At (Ty.nat m) t6 a18 (.tmp 4) ∧ At (Ty.lst Ty.int r) t6 a18 (.tmp 0) ∧ (k ≤ i) ∧ n5 = i - k) (i - (0)) ?_ ?_
     ·
      exact ⟨s13, 0, rfl, (F15.step0 D11.stp), ok15, (cvi (by (first | rfl | omega | (simp_all; done) | (simp_all; omega))) (D11.dn 0 rfl rfl)), (cvi (by (simp)) (D11.kt q52 rfl)), (D11.kt (D10.kt q47 rfl) rfl), (D11.kt q53 rfl), (D11.kt (D10.kt q50 rfl) rfl), by omega, rfl⟩
     ·
      rintro n6 a19 w6 ⟨t7, k, rfl, F17, ok16, q61, q62, q63, q64, q65, hk, rfl⟩
      have hcl : (r.take k).countP (fun x => decide (r.getD i 0 < x)) ≤ (r.take k).length := List.countP_le_length
      have htl := List.length_take_le k r
      refine wp_seq (wp_seq ?_)
      refine gI a19 t7 ok16 (gM q61 (gM q63 (gS rfl (fun A B E G H d0 d1 => rP (y_lss (ed d0 rfl rfl rfl) (ed d1 rfl rfl rfl))) (gE ok16 fun a20 s14 ok17 D12 => ?_)))); have F18 := F17.step0 D12.stp; have q66 := D12.kt q61 rfl; have q67 := D12.kt q62 rfl; have q68 := D12.kt q63 rfl; have q69 := D12.kt q64 rfl; have q70 := D12.kt q65 rfl; refine tn ?_
      refine cond_p (p := (((k : Nat) : Int) < ((i : Nat) : Int))) (D12.dn 2 rfl rfl) (fun c3 => ?_) (fun c3 => ?_)
      ·
       refine wp_skip (tn (wp_seq (wp_block (wp_seq ?_))))
       refine gI a20 s14 ok17 (gM q70 (gM q66 (gT (Ty.ref [(Ty.int (r.getD k 0))]) rfl (fun A B E G H d0 d1 => rP (y_index1 Tryz.underlying30 Tryz.inf3 (ed d0 rfl rfl rfl) (ed d1 rfl rfl rfl) (by omega) (lst_get Ty.int r 0 k (by omega)))) (gS rfl (fun A B E G H d0 => rP (y_load Tryz.underlying3 rfl (ed d0 rfl rfl rfl) rfl)) (gM q70 (gM q68 (gT (Ty.ref [(Ty.int (r.getD i 0))]) rfl (fun A B E G H d0 d1 => rP (y_index1 Tryz.underlying30 Tryz.inf3 (ed d0 rfl rfl rfl) (ed d1 rfl rfl rfl) (by omega) (lst_get Ty.int r 0 i (by omega)))) (gS rfl (fun A B E G H d0 => rP (y_load Tryz.underlying3 rfl (ed d0 rfl rfl rfl) rfl)) (gS rfl (fun A B E G H d0 d1 => rP (y_gtr (ed d0 rfl rfl rfl) (ed d1 rfl rfl rfl))) (gE ok17 fun a21 s15 ok18 D13 => ?_)))))))))); have F19 := F18.step0 D13.stp; have q72 := D13.kt q66 rfl; have q73 := D13.kt q67 rfl; have q74 := D13.kt q68 rfl; have q75 := D13.kt q69 rfl; have q76 := D13.kt q70 rfl; refine tn ?_
       refine cond_p (p := ((r.getD i 0) < (r.getD k 0))) (D13.dn 8 rfl rfl) (fun c4 => ?_) (fun c4 => ?_)
       ·
        refine gI a21 s15 ok18 (gM q73 (gT (Ty.nat ((wrN r i + ((r.take k).countP fun x => decide (r.getD i 0 < x))) + 1)) rfl (fun A B E G H d0 => rP ((y_add (ed d0 rfl rfl rfl) rfl (w64 (by omega) (by omega))).mono (fun τ _ h => cvi (σ := τ) (by first | omega | exact (Int.natCast_mul _ _).symm) h))) (gB 0 (gE ok18 fun a22 s16 ok19 D14 => ?_)))); refine bn (tn ?_)
        refine gI a22 s16 ok19 (gM (D14.kt q72 rfl) (gT (Ty.nat (k + 1)) rfl (fun A B E G H d0 => rP ((y_add (ed d0 rfl rfl rfl) rfl (w64 (by omega) (by omega))).mono (fun τ _ h => cvi (σ := τ) (by first | omega | exact (Int.natCast_mul _ _).symm) h))) (gB 0 (gE ok19 fun a23 s17 ok20 D15 => ?_))))
        exact tn ⟨i - ((k+1)), by omega, s17, (k+1), rfl, ((F19.step0 D14.stp).step0 D15.stp), ok20, (cvi (by (first | rfl | omega | (simp_all; done) | (simp_all; omega))) (D15.dn 2 rfl rfl)), (cvi (by (rw [take_snoc r 0 k (by omega), List.countP_append]; simp only [List.countP_cons, List.countP_nil, decide_eq_true (show r.getD i 0 < r.getD k 0 by assumption), if_true]; omega)) (D15.kt (D14.dn 2 rfl rfl) rfl)), (D15.kt (D14.kt q74 rfl) rfl), (D15.kt (D14.kt q75 rfl) rfl), (D15.kt (D14.kt q76 rfl) rfl), by omega, rfl⟩
       ·
        refine wp_skip (bn (tn ?_))
        refine gI a21 s15 ok18 (gM q72 (gT (Ty.nat (k + 1)) rfl (fun A B E G H d0 => rP ((y_add (ed d0 rfl rfl rfl) rfl (w64 (by omega) (by omega))).mono (fun τ _ h => cvi (σ := τ) (by first | omega | exact (Int.natCast_mul _ _).symm) h))) (gB 0 (gE ok18 fun a24 s18 ok21 D16 => ?_))))
        exact tn ⟨i - ((k+1)), by omega, s18, (k+1), rfl, (F19.step0 D16.stp), ok21, (cvi (by (first | rfl | omega | (simp_all; done) | (simp_all; omega))) (D16.dn 2 rfl rfl)), (cvi (by (rw [take_snoc r 0 k (by omega), List.countP_append]; simp only [List.countP_cons, List.countP_nil, decide_eq_false (show ¬ r.getD i 0 < r.getD k 0 by assumption)]; rfl)) (D16.kt q73 rfl)), (D16.kt q74 rfl), (D16.kt q75 rfl), (D16.kt q76 rfl), by omega, rfl⟩
      ·
       refine wp_exit (tx (tx (bx (bn (tn ?_)))))
       refine gI a20 s14 ok17 (gM q68 (gT (Ty.nat (i + 1)) rfl (fun A B E G H d0 => rP ((y_add (ed d0 rfl rfl rfl) rfl (w64 (by omega) (by omega))).mono (fun τ _ h => cvi (σ := τ) (by first | omega | exact (Int.natCast_mul _ _).symm) h))) (gB 0 (gE ok17 fun a25 s19 ok22 D17 => ?_))))
       obtain rfl : i = k := (by omega)
       exact tn ⟨r.length - ((i+1)), by omega, s19, (i+1), rfl, (F18.step0 D17.stp), ok22, (cvi (by (first | rfl | omega | (simp_all; done) | (simp_all; omega))) (D17.dn 2 rfl rfl)), (cvi (by (rfl)) (D17.kt q67 rfl)), (D17.kt q69 rfl), (D17.kt q70 rfl), by omega, rfl⟩
    ·
     refine wp_exit (tx (tx (bx (tn (wp_seq ?_)))))
     refine gI a16 s12 ok14 (gM q53 (gM q52 (gT (Ty.nat ((wrN r i) % 2)) rfl (fun A B E G H d0 d1 => rP (y_remN (ed d0 rfl rfl rfl) (toN (σ := B) rfl (by omega)) (by omega))) (gS rfl (fun A B E G H d0 d1 => rP (y_eql (ed d0 rfl rfl rfl) rfl)) (gB 0 (gB 0 (gE ok14 fun a26 s20 ok23 D18 => ?_))))))); refine tn (wp_ret ?_)
     exact retL2 rfl ok23 (F15.step0 D18.stp) (hasT2 (cvi (by (rw [hmo])) (D18.dn 4 rfl rfl)) (cvb (by (obtain rfl : i = r.length := (by omega); rw [oddL_inv hr, ← List.take_length (l := r), ← wrN_inv r r.length (Nat.le_refl _), List.take_length, decide_eq_decide]; omega)) (D18.dn 5 rfl rfl)))


set_option maxHeartbeats 4000000 in
set_option maxRecDepth 100000 in
theorem rSameAll_fn (a : List (List Int)) (b : List (List Int)) (σ : GW)  (v0 v1 : Value) (hv0 : Ty.has (Ty.lst Ty.ints a) σ v0) (hv1 : Ty.has (Ty.lst Ty.ints b) σ v1)   :
    FnC Tryz.prog 17 #[v0, v1] σ (Ty.bool (decide (a = b))) := by
 refine fn_intro0 Tryz.func17 rfl Tryz.ntmps17 (Nat.le_of_ble_eq_true rfl) (fun s0 a0 hle F0 ok0 hargs => ?_)
 have p0 := pA hle (hargs 0 _ rfl) hv0
 have b1 := sl_le p0
 have p1 := pA hle (hargs 1 _ rfl) hv1
 have b2 := sl_le p1
 clear hargs; refine wp_seq ?_
 refine gI a0 s0 ok0 (gC (Ty.bool false) (gE ok0 fun a1 s1 ok1 D1 => ?_)); have q1 := D1.kt p0 rfl; have q2 := D1.kt p1 rfl; refine tn (wp_seq (wp_seq ?_))
 refine gI a1 s1 ok1 (gM q1 (gS rfl (fun A B E G H d0 => rP (y_len Tryz.underlying22 (ed d0 rfl rfl rfl))) (gM q2 (gS rfl (fun A B E G H d0 => rP (y_len Tryz.underlying22 (ed d0 rfl rfl rfl))) (gS rfl (fun A B E G H d0 d1 => rP (y_neq (ed d0 rfl rfl rfl) (ed d1 rfl rfl rfl))) (gE ok1 fun a2 s2 ok2 D2 => ?_)))))); have F2 := (F0.step0 D1.stp).step0 D2.stp; refine tn ?_
 refine cond_p (p := ((((List.length a) : Nat) : Int) ≠ (((List.length b) : Nat) : Int))) (D2.dn 4 rfl rfl) (fun c1 => ?_) (fun c1 => ?_)
 ·
  refine wp_seq ?_
  refine gI a2 s2 ok2 (gC (Ty.bool false) (gE ok2 fun a3 s3 ok3 D3 => ?_)); refine tn (wp_ret (tr ?_))
  exact retL1 rfl ok3 (F2.step0 D3.stp) (cvb (by (rw [decide_eq_false]; intro e; subst e; omega)) (D3.dn 0 rfl rfl))
 ·
  refine wp_skip (tn (wp_seq (wp_seq ?_)))
  refine gI a2 s2 ok2 (gC (Ty.int (0 : Int)) (gE ok2 fun a4 s4 ok4 D4 => ?_)); refine tn (wp_block ?_)
  refine loop (fun n1 a5 w1 => ∃ (t1 : GW) (k : Nat), t1.w = w1 ∧ FromL [] s0 t1 ∧ Ok 29 [] a5 ∧ At (Ty.nat k) t1 a5 (.tmp 5) ∧ At (Ty.lst Ty.ints a) t1 a5 (.tmp 0) ∧ At (Ty.lst Ty.ints b) t1 a5 (.tmp 1) ∧ (k ≤ a.length) ∧ (a.length = b.length) ∧ (∀ j, j < k → a.getD j [] = b.getD j []) ∧ n1 = a.length - k) (a.length - (0)) ?_ ?_
  ·
   exact ⟨s4, 0, rfl, (F2.step0 D4.stp), ok4, (cvi (by (first | rfl | omega | (simp_all; done) | (simp_all; omega))) (D4.dn 0 rfl rfl)), (D4.kt (D2.kt q1 rfl) rfl), (D4.kt (D2.kt q2 rfl) rfl), by omega, by omega, fun j hj => absurd hj (Nat.not_lt_zero j), rfl⟩
  ·
   rintro n2 a6 w2 ⟨t2, k, rfl, F5, ok5, q10, q11, q12, hk, hl, heq, rfl⟩
   refine wp_seq (wp_seq ?_)
   refine gI a6 t2 ok5 (gM q10 (gM q11 (gS rfl (fun A B E G H d0 => rP (y_len Tryz.underlying22 (ed d0 rfl rfl rfl))) (gS rfl (fun A B E G H d0 d1 => rP (y_lss (ed d0 rfl rfl rfl) (ed d1 rfl rfl rfl))) (gE ok5 fun a7 s5 ok6 D5 => ?_))))); have F6 := F5.step0 D5.stp; have q13 := D5.kt q10 rfl; have q14 := D5.kt q11 rfl; have q15 := D5.kt q12 rfl; refine tn ?_
   refine cond_p (p := (((k : Nat) : Int) < (((List.length a) : Nat) : Int))) (D5.dn 3 rfl rfl) (fun c2 => ?_) (fun c2 => ?_)
   ·
    refine wp_skip (tn (wp_seq (wp_block (wp_seq ?_))))
    refine gI a7 s5 ok6 (gM q14 (gM q13 (gT (Ty.ref [(Ty.lst Ty.int (a.getD k []))]) rfl (fun A B E G H d0 d1 => rP (y_index1 Tryz.underlying22 Tryz.inf30 (ed d0 rfl rfl rfl) (ed d1 rfl rfl rfl) (by omega) (lst_get Ty.ints a [] k (by omega)))) (gS rfl (fun A B E G H d0 => rP (y_load Tryz.underlying30 rfl (ed d0 rfl rfl rfl) rfl)) (gM q15 (gM q13 (gT (Ty.ref [(Ty.lst Ty.int (b.getD k []))]) rfl (fun A B E G H d0 d1 => rP (y_index1 Tryz.underlying22 Tryz.inf30 (ed d0 rfl rfl rfl) (ed d1 rfl rfl rfl) (by omega) (lst_get Ty.ints b [] k (by omega)))) (gS rfl (fun A B E G H d0 => rP (y_load Tryz.underlying30 rfl (ed d0 rfl rfl rfl) rfl)) (gS rfl (fun A B E G H d0 d1 => rP (y_call _ Tryz.func18 rfl rfl my2 (rsame_fn ((a.getD k [])) ((b.getD k [])) _ _ _ (ed d0 rfl rfl rfl) (ed d1 rfl rfl rfl) ))) (gB 0 (gE ok6 fun a8 s6 ok7 D6 => ?_))))))))))); refine tn (wp_seq ?_)
    refine gI a8 s6 ok7 (gM (D6.dn 9 rfl rfl) (gS rfl (fun A B E G H d0 => rP (y_not (ed d0 rfl rfl rfl))) (gE ok7 fun a9 s7 ok8 D7 => ?_))); have F8 := (F6.step0 D6.stp).step0 D7.stp; refine tn ?_
    refine cond_t (D7.dn 1 rfl rfl) (fun c3 => ?_) (fun c3 => ?_)
    ·
     refine wp_seq ?_
     refine gI a9 s7 ok8 (gC (Ty.bool false) (gE ok8 fun a10 s8 ok9 D8 => ?_)); refine tn (wp_ret (br (tr (tr (br (tr ?_))))))
     exact retL1 rfl ok9 (F8.step0 D8.stp) (cvb (by (exact (decide_eq_false (fun e => by subst e; simp at c3)).symm)) (D8.dn 0 rfl rfl))
    ·
     refine wp_skip (bn (tn ?_))
     refine gI a9 s7 ok8 (gM (D7.kt (D6.kt q13 rfl) rfl) (gT (Ty.int (((k : Nat) : Int) + (1 : Int))) rfl (fun A B E G H d0 => rP (y_add (ed d0 rfl rfl rfl) rfl (w64 (by omega) (by omega)))) (gB 0 (gE ok8 fun a11 s9 ok10 D9 => ?_))))
     exact tn ⟨a.length - ((k+1)), by omega, s9, (k+1), rfl, (F8.step0 D9.stp), ok10, (cvi (by (first | rfl | omega | (simp_all; done) | (simp_all; omega))) (D9.dn 2 rfl rfl)), (D9.kt (D7.kt (D6.kt q14 rfl) rfl) rfl), (D9.kt (D7.kt (D6.kt q15 rfl) rfl) rfl), by omega, by omega, all_snocs heq (by simpa using c3), rfl⟩
   ·
    refine wp_exit (tx (tx (bx (tn (wp_seq ?_)))))
    refine gI a7 s5 ok6 (gC (Ty.bool true) (gE ok6 fun a12 s10 ok11 D10 => ?_)); refine tn (wp_ret ?_)
    exact retL1 rfl ok11 (F6.step0 D10.stp) (cvb (by (exact (decide_eq_true (lists_ext (by omega) (fun j hj => heq j (by omega)))).symm)) (D10.dn 0 rfl rfl))


set_option maxHeartbeats 4000000 in
set_option maxRecDepth 100000 in
theorem rDec_fn : ∀ (d : Nat) (n : Nat) (σ : GW)  (v0 : Value) (hv0 : Ty.has (Ty.nat n) σ v0)  (hd : d = n) (hn : n < 100), FnC Tryz.prog 39 #[v0] σ (Ty.val (Value.string (decB n))) := by
 intro d
 induction d using Nat.strongRecOn with
 | _ d ih =>
 intro n σ v0 hv0 hd hn
 refine fn_intro0 Tryz.func39 rfl Tryz.ntmps39 (Nat.le_of_ble_eq_true rfl) (fun s0 a0 hle F0 ok0 hargs => ?_)
 have p0 := pA hle (hargs 0 _ rfl) hv0
 clear hargs; refine wp_seq ?_
 refine gI a0 s0 ok0 (gC (Ty.val (Value.string (ByteArray.mk #[]))) (gE ok0 fun a1 s1 ok1 D1 => ?_)); have q1 := D1.kt p0 rfl; refine tn (wp_seq (wp_seq ?_))
 refine gI a1 s1 ok1 (gM q1 (gS rfl (fun A B E G H d0 => rP (y_lss (ed d0 rfl rfl rfl) rfl)) (gE ok1 fun a2 s2 ok2 D2 => ?_))); have q2 := D2.kt q1 rfl; refine tn ?_
 refine cond_p (p := (((n : Nat) : Int) < (-9 : Int))) (D2.dn 1 rfl rfl) (fun c1 => ?_) (fun c1 => ?_)
 ·
  exfalso
  omega
 ·
  refine wp_skip (tn (wp_seq (wp_seq ?_)))
  refine gI a2 s2 ok2 (gM q2 (gS rfl (fun A B E G H d0 => rP (y_lss (ed d0 rfl rfl rfl) rfl)) (gE ok2 fun a3 s3 ok3 D3 => ?_))); have q4 := D3.kt q2 rfl; refine tn ?_
  refine cond_p (p := (((n : Nat) : Int) < (0 : Int))) (D3.dn 1 rfl rfl) (fun c2 => ?_) (fun c2 => ?_)
  ·
   exfalso
   omega
  ·
   refine wp_skip (tn (wp_seq (wp_seq ?_)))
   refine gI a3 s3 ok3 (gM q4 (gS rfl (fun A B E G H d0 => rP (y_lss (ed d0 rfl rfl rfl) rfl)) (gE ok3 fun a4 s4 ok4 D4 => ?_))); have F4 := (((F0.step0 D1.stp).step0 D2.stp).step0 D3.stp).step0 D4.stp; have q6 := D4.kt q4 rfl; refine tn ?_
   refine cond_p (p := (((n : Nat) : Int) < (10 : Int))) (D4.dn 1 rfl rfl) (fun c3 => ?_) (fun c3 => ?_)
   ·
    refine wp_seq ?_
    refine gI a4 s4 ok4 (gM q6 (gT (Ty.nat (48 + n)) rfl (fun A B E G H d0 => rP ((y_add rfl (ed d0 rfl rfl rfl) (w64 (by omega) (by omega))).mono (fun τ _ h => cvi (σ := τ) (by first | omega | exact (Int.natCast_mul _ _).symm) h))) (gT (Ty.val (Value.int .u8 (((48 + n) : Nat) : Int))) rfl (fun A B E G H d0 => rP (y_conv Tryz.underlying5 (ed d0 rfl rfl rfl) (by exact wrap_u8 (by omega) (by omega)) (by rw [Tryz.underlying3]; rfl))) (gT (Ty.sl 1 1 [(Ty.byte (Nat.toUInt8 (Int.toNat (((48 + n) : Nat) : Int))))]) rfl (fun A B E G H d0 => rP (y_build1o Tryz.underlying75 Tryz.inf5 rfl (one_val rfl) (cvByte (by omega) (by omega) (ed d0 rfl rfl rfl)))) (gT (Ty.val (Value.string (bsL [(Nat.toUInt8 (Int.toNat (((48 + n) : Nat) : Int)))]))) rfl (fun A B E G H d0 => rP (y_convBS (bs := [(Nat.toUInt8 (Int.toNat (((48 + n) : Nat) : Int)))]) Tryz.underlying75 Tryz.underlying5 Tryz.underlying9 (ed d0 rfl rfl rfl))) (gB 0 (gE ok4 fun a5 s5 ok5 D5 => ?_))))))); refine tn (wp_ret (tr ?_))
    exact retL1 rfl ok5 (F4.step0 D5.stp) (cvt (by (rw [show Int.toNat ((48 + n : Nat) : Int) = 48 + n from Int.toNat_natCast _, dec_lo (by omega)])) (D5.dn 5 rfl rfl))
   ·
    refine wp_skip (tn (wp_seq ?_))
    refine gI a4 s4 ok4 (gM q6 (gT (Ty.nat (n / 10)) rfl (fun A B E G H d0 => rP (y_quoN (ed d0 rfl rfl rfl) (toN (σ := B) rfl (by omega)) (by omega) (by omega))) (gS rfl (fun A B E G H d0 => rP (y_call _ Tryz.func39 rfl rfl my1 (ih (((n / 10))) (by omega) ((n / 10)) _ _ (cvi (σ := B) (by first | omega | rfl) (ed d0 rfl rfl rfl)) (by first | omega | rfl) (by first | omega | rfl)))) (gM q6 (gT (Ty.nat (n % 10)) rfl (fun A B E G H d0 => rP (y_remN (ed d0 rfl rfl rfl) (toN (σ := B) rfl (by omega)) (by omega))) (gT (Ty.nat (48 + (n % 10))) rfl (fun A B E G H d0 => rP ((y_add rfl (ed d0 rfl rfl rfl) (w64 (by omega) (by omega))).mono (fun τ _ h => cvi (σ := τ) (by first | omega | exact (Int.natCast_mul _ _).symm) h))) (gT (Ty.val (Value.int .u8 (((48 + (n % 10)) : Nat) : Int))) rfl (fun A B E G H d0 => rP (y_conv Tryz.underlying5 (ed d0 rfl rfl rfl) (by exact wrap_u8 (by omega) (by omega)) (by rw [Tryz.underlying3]; rfl))) (gT (Ty.sl 1 1 [(Ty.byte (Nat.toUInt8 (Int.toNat (((48 + (n % 10)) : Nat) : Int))))]) rfl (fun A B E G H d0 => rP (y_build1o Tryz.underlying75 Tryz.inf5 rfl (one_val rfl) (cvByte (by omega) (by omega) (ed d0 rfl rfl rfl)))) (gT (Ty.val (Value.string (bsL [(Nat.toUInt8 (Int.toNat (((48 + (n % 10)) : Nat) : Int)))]))) rfl (fun A B E G H d0 => rP (y_convBS (bs := [(Nat.toUInt8 (Int.toNat (((48 + (n % 10)) : Nat) : Int)))]) Tryz.underlying75 Tryz.underlying5 Tryz.underlying9 (ed d0 rfl rfl rfl))) (gT (Ty.val (Value.string ((decB ((n / 10))) ++ (bsL [(Nat.toUInt8 (Int.toNat (((48 + (n % 10)) : Nat) : Int)))])))) rfl (fun A B E G H d0 d1 => rP (y_scat (ed d0 rfl rfl rfl) (ed d1 rfl rfl rfl) (by have h1_ := dec_size (n := n / 10); rw [bsL_size, List.length_singleton]; omega))) (gB 0 (gE ok4 fun a6 s6 ok6 D6 => ?_)))))))))))); refine tn (wp_ret ?_)
    exact retL1 rfl ok6 (F4.step0 D6.stp) (cvt (by (rw [show Int.toNat ((48 + n % 10 : Nat) : Int) = 48 + n % 10 from Int.toNat_natCast _, dec_hi (by omega) (by omega)])) (D6.dn 10 rfl rfl))


set_option maxHeartbeats 4000000 in
set_option maxRecDepth 100000 in
theorem rSignOf_fn (b : Int) (σ : GW)  (v0 : Value) (hv0 : Ty.has (Ty.int b) σ v0)  (hb : 0 ≤ b ∧ b < 12) :
    FnC Tryz.prog 59 #[v0] σ (Ty.val (Value.string (ByteArray.extract SIGNS (b).toNat (b + 1).toNat))) := by
 have hsz := signs_size
 refine fn_intro0 Tryz.func59 rfl Tryz.ntmps59 (Nat.le_of_ble_eq_true rfl) (fun s0 a0 hle F0 ok0 hargs => ?_)
 have p0 := pA hle (hargs 0 _ rfl) hv0
 clear hargs; refine wp_seq ?_
 refine gI a0 s0 ok0 (gC (Ty.val (Value.string (ByteArray.mk #[]))) (gE ok0 fun a1 s1 ok1 D1 => ?_)); have q1 := D1.kt p0 rfl; refine tn (wp_seq ?_)
 refine gI a1 s1 ok1 (gM q1 (gM q1 (gT (Ty.int (b + (1 : Int))) rfl (fun A B E G H d0 => rP (y_add (ed d0 rfl rfl rfl) rfl (w64 (by omega) (by omega)))) (gT (Ty.val (Value.string (ByteArray.extract SIGNS (b).toNat ((b + (1 : Int))).toNat))) rfl (fun A B E G H d0 d1 => rP (y_sft (l := (b).toNat) (h := ((b + (1 : Int))).toNat) Tryz.underlying9 rfl (toN (σ := B) (ed d0 rfl rfl rfl) (by omega)) (toN (σ := B) (ed d1 rfl rfl rfl) (by omega)) (by omega) (by omega))) (gB 0 (gE ok1 fun a2 s2 ok2 D2 => ?_)))))); refine tn (wp_ret ?_)
 exact retL1 rfl ok2 ((F0.step0 D1.stp).step0 D2.stp) (cvt (by (first | rfl | omega | (simp_all; done) | (simp_all; omega))) (D2.dn 4 rfl rfl))


set_option maxHeartbeats 4000000 in
set_option maxRecDepth 100000 in
theorem rPlacesText_fn (l : List (List Int)) (σ : GW)  (v0 : Value) (hv0 : Ty.has (Ty.lst Ty.ints l) σ v0)  (hl : l.length ≤ 200) (hp : ∀ x ∈ l, x.length ≤ 12 ∧ ∀ p ∈ x, 1 ≤ p ∧ p ≤ 12) :
    FnC Tryz.prog 40 #[v0] σ (Ty.val (Value.string (bsL (txB false l)))) := by
 obtain ⟨T, hT⟩ : ∃ T, T = txB false l := ⟨_, rfl⟩
 have hTl : T.length ≤ 2600 := by rw [hT]; have h_ := tx_len (fun x hx => (hp x hx).1) false; omega
 refine fn_intro0 Tryz.func40 rfl Tryz.ntmps40 (Nat.le_of_ble_eq_true rfl) (fun s0 a0 hle F0 ok0 hargs => ?_)
 have p0 := pA hle (hargs 0 _ rfl) hv0
 have b1 := sl_le p0
 clear hargs; refine wp_seq ?_
 refine gI a0 s0 ok0 (gC (Ty.val (Value.string (ByteArray.mk #[]))) (gE ok0 fun a1 s1 ok1 D1 => ?_)); refine tn (wp_seq ?_)
 refine gI a1 s1 ok1 (gC (Ty.val (Value.string (ByteArray.mk #[]))) (gE ok1 fun a2 s2 ok2 D2 => ?_)); refine tn (wp_seq (wp_seq ?_))
 refine gI a2 s2 ok2 (gC (Ty.int (0 : Int)) (gE ok2 fun a3 s3 ok3 D3 => ?_)); refine tn (wp_block ?_)
 refine loop (fun n1 a4 w1 => ∃ (t1 : GW) (i : Nat) (out : List UInt8), t1.w = w1 ∧ FromL [] s0 t1 ∧ Ok 54 [] a4 ∧ At (Ty.nat i) t1 a4 (.tmp 4) ∧ At (Ty.val (Value.string (bsL out))) t1 a4 (.tmp 3) ∧ At (Ty.lst Ty.ints l) t1 a4 (.tmp 0) ∧ (out ++ txB (prv l i) (l.drop i) = T) ∧ (i ≤ l.length) ∧ n1 = l.length - i) (l.length - (0)) ?_ ?_
 ·
  exact ⟨s3, 0, ([] : List UInt8), rfl, (((F0.step0 D1.stp).step0 D2.stp).step0 D3.stp), ok3, (cvi (by (rfl)) (D3.dn 0 rfl rfl)), (cvt (by (rfl)) (D3.kt (D2.dn 0 rfl rfl) rfl)), (D3.kt (D2.kt (D1.kt p0 rfl) rfl) rfl), by rw [hT]; exact tx_0, by omega, rfl⟩
 ·
  rintro n2 a5 w2 ⟨t2, i, out, rfl, F4, ok4, q7, q8, q9, E, hi, rfl⟩
  have hpi : i < l.length → (l.getD i []).length ≤ 12 ∧ ∀ p ∈ (l.getD i []), 1 ≤ p ∧ p ≤ 12 := fun h_ => hp _ (mem_getDD [] h_)
  have hol : out.length ≤ 2600 := by have h_ := congrArg List.length E; rw [List.length_append] at h_; omega
  refine wp_seq (wp_seq ?_)
  refine gI a5 t2 ok4 (gM q7 (gM q9 (gS rfl (fun A B E G H d0 => rP (y_len Tryz.underlying22 (ed d0 rfl rfl rfl))) (gS rfl (fun A B E G H d0 d1 => rP (y_lss (ed d0 rfl rfl rfl) (ed d1 rfl rfl rfl))) (gE ok4 fun a6 s4 ok5 D4 => ?_))))); have F5 := F4.step0 D4.stp; have q10 := D4.kt q7 rfl; have q11 := D4.kt q8 rfl; have q12 := D4.kt q9 rfl; refine tn ?_
  refine cond_p (p := (((i : Nat) : Int) < (((List.length l) : Nat) : Int))) (D4.dn 3 rfl rfl) (fun c1 => ?_) (fun c1 => ?_)
  ·
   have hpi2 := hpi (by omega); have hos := bsL_size out; have hm1 : (ByteArray.mk #[120]).size = 1 := rfl; have hm2 : (ByteArray.mk #[46]).size = 1 := rfl
   refine wp_skip (tn (wp_seq (wp_block (wp_seq (wp_seq ?_)))))
   refine gI a6 s4 ok5 (gM q12 (gM q10 (gT (Ty.ref [(Ty.lst Ty.int (l.getD i []))]) rfl (fun A B E G H d0 d1 => rP (y_index1 Tryz.underlying22 Tryz.inf30 (ed d0 rfl rfl rfl) (ed d1 rfl rfl rfl) (by omega) (lst_get Ty.ints l [] i (by omega)))) (gS rfl (fun A B E G H d0 => rP (y_load Tryz.underlying30 rfl (ed d0 rfl rfl rfl) rfl)) (gS rfl (fun A B E G H d0 => rP (y_len Tryz.underlying30 (ed d0 rfl rfl rfl))) (gS rfl (fun A B E G H d0 => rP (y_eql (ed d0 rfl rfl rfl) rfl)) (gE ok5 fun a7 s5 ok6 D5 => ?_))))))); have F6 := F5.step0 D5.stp; have q14 := D5.kt q10 rfl; have q15 := D5.kt q11 rfl; have q16 := D5.kt q12 rfl; refine tn ?_
   refine cond_p (p := ((((List.length (l.getD i [])) : Nat) : Int) = (0 : Int))) (D5.dn 5 rfl rfl) (fun c2 => ?_) (fun c2 => ?_)
   ·
    have hxe : (l.getD i []) = [] := List.eq_nil_of_length_eq_zero (by omega)
    refine wp_seq ?_
    refine gI a7 s5 ok6 (gM q15 (gT (Ty.val (Value.string ((bsL out) ++ (ByteArray.mk #[120])))) rfl (fun A B E G H d0 => rP (y_scat (ed d0 rfl rfl rfl) rfl (by omega))) (gB 0 (gE ok6 fun a8 s6 ok7 D6 => ?_)))); refine tn (wp_exit (tx (bx (tn ?_))))
    refine gI a8 s6 ok7 (gM (D6.kt q14 rfl) (gT (Ty.nat (i + 1)) rfl (fun A B E G H d0 => rP ((y_add (ed d0 rfl rfl rfl) rfl (w64 (by omega) (by omega))).mono (fun τ _ h => cvi (σ := τ) (by first | omega | exact (Int.natCast_mul _ _).symm) h))) (gB 0 (gE ok7 fun a9 s7 ok8 D7 => ?_))))
    exact tn ⟨l.length - ((i + 1)), by omega, s7, (i + 1), (out ++ [120]), rfl, ((F6.step0 D6.stp).step0 D7.stp), ok8, (cvi (by (first | rfl | omega | (simp_all; done) | (simp_all; omega))) (D7.dn 2 rfl rfl)), (cvt (by (rw [bsL_app]; rfl)) (D7.kt (D6.dn 2 rfl rfl) rfl)), (D7.kt (D6.kt q16 rfl) rfl), tx_e E (by omega) hxe, by omega, rfl⟩
   ·
    have hxn : (l.getD i []) ≠ [] := fun e_ => c2 (by rw [e_]; rfl)
    refine wp_skip (tn (wp_seq (wp_seq ?_)))
    refine gI a7 s5 ok6 (gM q14 (gS rfl (fun A B E G H d0 => rP (y_gtr (ed d0 rfl rfl rfl) rfl)) (gS rfl (fun A B E G H d0 => rP (y_move (ed d0 rfl rfl rfl))) (gS rfl (fun A B E G H d0 => gu G (ed d0 rfl rfl rfl) fun hg => y_move (kp (H 0 rfl) E q16)) (gS rfl (fun A B E G H d0 => gu G (ed d0 rfl rfl rfl) fun hg => y_move (kp (H 4 rfl) E q14)) (gT (Ty.grd ((decide ((0 : Int) < ((i : Nat) : Int))) = true) (Ty.int (((i : Nat) : Int) - (1 : Int)))) rfl (fun A B E G H d0 d1 => gut G (ed d1 rfl rfl rfl) fun hg hp => y_sub ((ed d0 rfl rfl rfl).1 hg) rfl (w64 (by omega) (by omega))) (gT (Ty.grd ((decide ((0 : Int) < ((i : Nat) : Int))) = true) (Ty.ref [(Ty.lst Ty.int (l.getD ((((i : Nat) : Int) - (1 : Int))).toNat []))])) rfl (fun A B E G H d0 d1 d2 => gut G (ed d2 rfl rfl rfl) fun hg hp => y_index1 Tryz.underlying22 Tryz.inf30 ((ed d0 rfl rfl rfl).1 hg) ((ed d1 rfl rfl rfl).1 hg) (by omega) (lst_get Ty.ints l [] ((((i : Nat) : Int) - (1 : Int))).toNat (by omega))) (gS rfl (fun A B E G H d0 d1 => gu G (ed d1 rfl rfl rfl) fun hg => y_load Tryz.underlying30 rfl ((ed d0 rfl rfl rfl).1 hg) rfl) (gS rfl (fun A B E G H d0 d1 => gu G (ed d1 rfl rfl rfl) fun hg => y_len Tryz.underlying30 ((ed d0 rfl rfl rfl).1 hg)) (gS rfl (fun A B E G H d0 d1 => gu G (ed d1 rfl rfl rfl) fun hg => y_gtr ((ed d0 rfl rfl rfl).1 hg) rfl) (gS rfl (fun A B E G H d0 d1 => rP (y_pick_and (ed d0 rfl rfl rfl) (ed d1 rfl rfl rfl) rfl)) (gE ok6 fun a10 s8 ok9 D8 => ?_)))))))))))); have F9 := F6.step0 D8.stp; have q24 := D8.kt q14 rfl; have q25 := D8.kt q15 rfl; have q26 := D8.kt q16 rfl; refine tn ?_
    refine Go.KL.join_then (Q' := fun a11 w3 => ∃ (t3 : GW) (ou : List UInt8), t3.w = w3 ∧ FromL [] s0 t3 ∧ Ok 54 [] a11 ∧ At (Ty.val (Value.string (bsL ou))) t3 a11 (.tmp 3) ∧ At (Ty.nat i) t3 a11 (.tmp 4) ∧ At (Ty.lst Ty.ints l) t3 a11 (.tmp 0) ∧ (ou ++ wdB ((l.getD i []).drop 0) ++ txB true (l.drop (i + 1)) = T) ∧ True) ?_ ?_
    ·
     refine cond_t (D8.dn 10 rfl rfl) (fun c3 => ?_) (fun c3 => ?_)
     ·
      obtain ⟨d1, d2⟩ := Bool.and_eq_true_iff.mp c3
      replace d1 := of_decide_eq_true d1
      replace d2 := of_decide_eq_true d2
      have hb : prv l i = true := prv_c.symm.trans c3
      refine gI a10 s8 ok9 (gM q25 (gT (Ty.val (Value.string ((bsL out) ++ (ByteArray.mk #[46])))) rfl (fun A B E G H d0 => rP (y_scat (ed d0 rfl rfl rfl) rfl (by omega))) (gB 0 (gE ok9 fun a12 s9 ok10 D9 => ?_))))
      exact tn ⟨s9, (out ++ [46]), rfl, (F9.step0 D9.stp), ok10, (cvt (by (rw [bsL_app]; rfl)) (D9.dn 2 rfl rfl)), (D9.kt q24 rfl), (D9.kt q26 rfl), tx_d E (by omega) hxn hb, trivial⟩
     ·
      have hb : prv l i = false := prv_c.symm.trans c3
      refine wp_skip ?_
      exact tn ⟨s8, out, rfl, F9, ok9, (cvt (by (first | rfl | omega | (simp_all; done) | (simp_all; omega))) q25), q24, q26, tx_n E (by omega) hxn hb, trivial⟩
    ·
     rintro a13 w4 ⟨t4, ou, rfl, F11, ok11, q31, q32, q33, hz, -⟩
     refine wp_seq ?_
     refine gI a13 t4 ok11 (gC (Ty.int (0 : Int)) (gE ok11 fun a14 s10 ok12 D10 => ?_)); refine tn (wp_block ?_)
     refine loop (fun n3 a15 w5 => ∃ (t5 : GW) (j : Nat) (ov : List UInt8), t5.w = w5 ∧ FromL [] s0 t5 ∧ Ok 54 [] a15 ∧ At (Ty.nat j) t5 a15 (.tmp 5) ∧ At (Ty.val (Value.string (bsL ov))) t5 a15 (.tmp 3) ∧ At (Ty.nat i) t5 a15 (.tmp 4) ∧ At (Ty.lst Ty.ints l) t5 a15 (.tmp 0) ∧ (ov ++ wdB ((l.getD i []).drop j) ++ txB true (l.drop (i + 1)) = T) ∧ (j ≤ (l.getD i []).length) ∧ n3 = (l.getD i []).length - j) ((l.getD i []).length - (0)) ?_ ?_
     ·
      exact ⟨s10, 0, ou, rfl, (F11.step0 D10.stp), ok12, (cvi (by (rfl)) (D10.dn 0 rfl rfl)), (cvt (by (first | rfl | omega | (simp_all; done) | (simp_all; omega))) (D10.kt q31 rfl)), (D10.kt q32 rfl), (D10.kt q33 rfl), hz, by omega, rfl⟩
     ·
      rintro n4 a16 w6 ⟨t6, j, ov, rfl, F13, ok13, q38, q39, q40, q41, hq, hj, rfl⟩
      have hvl : ov.length ≤ 2600 := by have h_ := congrArg List.length hq; rw [List.length_append, List.length_append] at h_; omega
      have hvs := bsL_size ov
      have hpj : j < (l.getD i []).length → 1 ≤ (l.getD i []).getD j 0 ∧ (l.getD i []).getD j 0 ≤ 12 := fun h_ => hpi2.2 _ (mem_getDD 0 h_)
      have hxs : (ByteArray.extract SIGNS ((l.getD i []).getD j 0 - 1).toNat ((l.getD i []).getD j 0 - 1 + 1).toNat).size ≤ 12 := by rw [ByteArray.size_extract]; have h_ := signs_size; omega
      refine wp_seq (wp_seq ?_)
      refine gI a16 t6 ok13 (gM q38 (gM q41 (gM q40 (gT (Ty.ref [(Ty.lst Ty.int (l.getD i []))]) rfl (fun A B E G H d0 d1 => rP (y_index1 Tryz.underlying22 Tryz.inf30 (ed d0 rfl rfl rfl) (ed d1 rfl rfl rfl) (by omega) (lst_get Ty.ints l [] i (by omega)))) (gS rfl (fun A B E G H d0 => rP (y_load Tryz.underlying30 rfl (ed d0 rfl rfl rfl) rfl)) (gS rfl (fun A B E G H d0 => rP (y_len Tryz.underlying30 (ed d0 rfl rfl rfl))) (gS rfl (fun A B E G H d0 d1 => rP (y_lss (ed d0 rfl rfl rfl) (ed d1 rfl rfl rfl))) (gE ok13 fun a17 s11 ok14 D11 => ?_)))))))); have F14 := F13.step0 D11.stp; have q42 := D11.kt q38 rfl; have q43 := D11.kt q39 rfl; have q44 := D11.kt q40 rfl; have q45 := D11.kt q41 rfl; refine tn ?_
      refine cond_p (p := (((j : Nat) : Int) < (((List.length (l.getD i [])) : Nat) : Int))) (D11.dn 6 rfl rfl) (fun c4 => ?_) (fun c4 => ?_)
      ·
       have hpj2 := hpj (by omega)
       refine wp_skip (tn (wp_seq (wp_block ?_)))
       refine gI a17 s11 ok14 (gM q43 (gM q45 (gM q44 (gT (Ty.ref [(Ty.lst Ty.int (l.getD i []))]) rfl (fun A B E G H d0 d1 => rP (y_index1 Tryz.underlying22 Tryz.inf30 (ed d0 rfl rfl rfl) (ed d1 rfl rfl rfl) (by omega) (lst_get Ty.ints l [] i (by omega)))) (gS rfl (fun A B E G H d0 => rP (y_load Tryz.underlying30 rfl (ed d0 rfl rfl rfl) rfl)) (gM q42 (gT (Ty.ref [(Ty.int ((l.getD i []).getD j 0))]) rfl (fun A B E G H d0 d1 => rP (y_index1 Tryz.underlying30 Tryz.inf3 (ed d0 rfl rfl rfl) (ed d1 rfl rfl rfl) (by omega) (lst_get Ty.int (l.getD i []) 0 j (by omega)))) (gS rfl (fun A B E G H d0 => rP (y_load Tryz.underlying3 rfl (ed d0 rfl rfl rfl) rfl)) (gT (Ty.int (((l.getD i []).getD j 0) - (1 : Int))) rfl (fun A B E G H d0 => rP (y_sub (ed d0 rfl rfl rfl) rfl (w64 (by omega) (by omega)))) (gS rfl (fun A B E G H d0 => rP (y_call _ Tryz.func59 rfl rfl my1 (rSignOf_fn ((((l.getD i []).getD j 0) - (1 : Int))) _ _ (cvi (σ := B) (by omega) (ed d0 rfl rfl rfl)) (by omega)))) (gT (Ty.val (Value.string ((bsL ov) ++ (ByteArray.extract SIGNS (((((l.getD i []).getD j 0) - (1 : Int)))).toNat (((((l.getD i []).getD j 0) - (1 : Int))) + 1).toNat)))) rfl (fun A B E G H d0 d1 => rP (y_scat (ed d0 rfl rfl rfl) (ed d1 rfl rfl rfl) (by omega))) (gB 0 (gE ok14 fun a18 s12 ok15 D12 => ?_))))))))))))); refine bn (tn ?_)
       refine gI a18 s12 ok15 (gM (D12.kt q42 rfl) (gT (Ty.nat (j + 1)) rfl (fun A B E G H d0 => rP ((y_add (ed d0 rfl rfl rfl) rfl (w64 (by omega) (by omega))).mono (fun τ _ h => cvi (σ := τ) (by first | omega | exact (Int.natCast_mul _ _).symm) h))) (gB 0 (gE ok15 fun a19 s13 ok16 D13 => ?_))))
       exact tn ⟨(l.getD i []).length - ((j + 1)), by omega, s13, (j + 1), (ov ++ [SIGNS.get! ((l.getD i []).getD j 0 - 1).toNat]), rfl, ((F14.step0 D12.stp).step0 D13.stp), ok16, (cvi (by (first | rfl | omega | (simp_all; done) | (simp_all; omega))) (D13.dn 2 rfl rfl)), (cvt (by (rw [bsL_app, sg_ext (by omega)])) (D13.kt (D12.dn 11 rfl rfl) rfl)), (D13.kt (D12.kt q44 rfl) rfl), (D13.kt (D12.kt q45 rfl) rfl), tx_s hq (by omega), by omega, rfl⟩
      ·
       refine wp_exit (tx (tx (bx (bn (tn ?_)))))
       refine gI a17 s11 ok14 (gM q44 (gT (Ty.nat (i + 1)) rfl (fun A B E G H d0 => rP ((y_add (ed d0 rfl rfl rfl) rfl (w64 (by omega) (by omega))).mono (fun τ _ h => cvi (σ := τ) (by first | omega | exact (Int.natCast_mul _ _).symm) h))) (gB 0 (gE ok14 fun a20 s14 ok17 D14 => ?_))))
       exact tn ⟨l.length - ((i + 1)), by omega, s14, (i + 1), ov, rfl, (F14.step0 D14.stp), ok17, (cvi (by (first | rfl | omega | (simp_all; done) | (simp_all; omega))) (D14.dn 2 rfl rfl)), (cvt (by (first | rfl | omega | (simp_all; done) | (simp_all; omega))) (D14.kt q43 rfl)), (D14.kt q45 rfl), tx_o hq (by omega) (by omega) hxn, by omega, rfl⟩
  ·
   have hfin := tx_end E (by omega)
   refine wp_exit (tx (tx (bx (tn (wp_seq ?_)))))
   refine gI a6 s4 ok5 (gM q11 (gB 0 (gE ok5 fun a21 s15 ok18 D15 => ?_))); refine tn (wp_ret ?_)
   exact retL1 rfl ok18 (F5.step0 D15.stp) (cvt (by (rw [← hT, ← hfin])) (D15.dn 1 rfl rfl))


set_option maxHeartbeats 4000000 in
set_option maxRecDepth 100000 in
theorem rMethodLine_fn (nm : ByteArray) (n : Int) (l : List (List Int)) (σ : GW)  (v0 : Value) (hv0 : Ty.has (Ty.agg [(Ty.val (Value.string nm)), (Ty.int n), (Ty.lst Ty.ints l)]) σ v0)  (hnm : nm.size ≤ 1099511627776) (hn : -9223372036854775808 ≤ n ∧ n ≤ 9223372036854775807) (h0 : methMay nm n l = 0) :
    FnC Tryz.prog 19 #[v0] σ (Ty.val (Value.string (mlB nm n.toNat l))) := by
 obtain ⟨hmo, hnn⟩ := methMay_ok' h0; have hm1 := hmo.n1; have hm2 := hmo.n2; have hml := hmo.l2; have hml1 := hmo.l1; have hrl := roundsL_len n.toNat; have hfl := fromL_len (roundsL n.toNat) l; obtain ⟨hhr, hhl⟩ := hmo.head; have hrm := rowMay_ok.2 hhr; have hol := ordTo_le hhr _ (Nat.le_refl _)
 have hE := plw_of h0; have hz1 : (ByteArray.mk #[124]).size = 1 := rfl; have hz2 := dec_size (n := n.toNat); have hz3 : (bsL (txB false l)).size ≤ 2600 := tx_size hE
 refine fn_intro0 Tryz.func19 rfl Tryz.ntmps19 (Nat.le_of_ble_eq_true rfl) (fun s0 a0 hle F0 ok0 hargs => ?_)
 have p0 := pA hle (hargs 0 _ rfl) hv0
 clear hargs; refine wp_seq ?_
 refine gI a0 s0 ok0 (gS rfl (fun A B E G H => rP (y_boxagg (kp (H 0 rfl) E p0))) (gC (Ty.val (Value.string (ByteArray.mk #[]))) (gE ok0 fun a1 s1 ok1 D1 => ?_))); have q1 := D1.dn 0 rfl rfl; refine tn (wp_seq ?_)
 refine gI a1 s1 ok1 (gS rfl (fun A B E G H => rP (y_field Tryz.fld24_0 Tryz.inf9 (by decide) (kp (H 1 rfl) E q1) rfl)) (gS rfl (fun A B E G H d0 => rP (y_load Tryz.underlying9 rfl (ed d0 rfl rfl rfl) rfl)) (gT (Ty.val (Value.string (nm ++ (ByteArray.mk #[124])))) rfl (fun A B E G H d0 => rP (y_scat (ed d0 rfl rfl rfl) rfl (by (try simp only [ByteArray.size_append]); omega))) (gS rfl (fun A B E G H => rP (y_field Tryz.fld24_1 Tryz.inf3 (by decide) (kp (H 1 rfl) E q1) rfl)) (gS rfl (fun A B E G H d0 => rP (y_load Tryz.underlying3 rfl (ed d0 rfl rfl rfl) rfl)) (gS rfl (fun A B E G H d0 => rP (y_call _ Tryz.func39 rfl rfl my1 (rDec_fn (((n).toNat)) ((n).toNat) _ _ (cvi (σ := B) (by first | omega | rfl) (ed d0 rfl rfl rfl)) (by first | omega | rfl) (by first | omega | rfl)))) (gT (Ty.val (Value.string ((nm ++ (ByteArray.mk #[124])) ++ (decB ((n).toNat))))) rfl (fun A B E G H d0 d1 => rP (y_scat (ed d0 rfl rfl rfl) (ed d1 rfl rfl rfl) (by (try simp only [ByteArray.size_append]); omega))) (gT (Ty.val (Value.string (((nm ++ (ByteArray.mk #[124])) ++ (decB ((n).toNat))) ++ (ByteArray.mk #[124])))) rfl (fun A B E G H d0 => rP (y_scat (ed d0 rfl rfl rfl) rfl (by (try simp only [ByteArray.size_append]); omega))) (gS rfl (fun A B E G H => rP (y_field Tryz.fld24_2 Tryz.inf22 (by decide) (kp (H 1 rfl) E q1) rfl)) (gS rfl (fun A B E G H d0 => rP (y_load Tryz.underlying22 rfl (ed d0 rfl rfl rfl) rfl)) (gS rfl (fun A B E G H d0 d1 => rP (y_call _ Tryz.func40 rfl rfl my1 (rPlacesText_fn (l) _ _ (ed d0 rfl rfl rfl) (by first | omega | assumption | exact (pl_pre hE).1 | exact (pl_pre hE).2) (by first | omega | assumption | exact (pl_pre hE).1 | exact (pl_pre hE).2)))) ?_)))))))))))
 refine gT (Ty.val (Value.string ((((nm ++ (ByteArray.mk #[124])) ++ (decB ((n).toNat))) ++ (ByteArray.mk #[124])) ++ (bsL (txB false l))))) rfl (fun A B E G H d0 d1 => rP (y_scat (ed d0 rfl rfl rfl) (ed d1 rfl rfl rfl) (by (try simp only [ByteArray.size_append]); omega))) (gB 0 (gE ok1 fun a2 s2 ok2 D2 => ?_)); refine tn (wp_ret ?_)
 exact retL1 rfl ok2 ((F0.step0 D1.stp).step0 D2.stp) (cvt (by (rfl)) (D2.dn 12 rfl rfl))


set_option maxHeartbeats 4000000 in
set_option maxRecDepth 100000 in
theorem rMirrored_fn (nm : ByteArray) (n : Int) (l : List (List Int)) (σ : GW)  (v0 : Value) (hv0 : Ty.has (Ty.agg [(Ty.val (Value.string nm)), (Ty.int n), (Ty.lst Ty.ints l)]) σ v0)  (h1 : 1 ≤ l.length ∧ l.length ≤ 200) :
    FnC Tryz.prog 20 #[v0] σ (Ty.bool (mirB l)) := by
 refine fn_intro0 Tryz.func20 rfl Tryz.ntmps20 (Nat.le_of_ble_eq_true rfl) (fun s0 a0 hle F0 ok0 hargs => ?_)
 have p0 := pA hle (hargs 0 _ rfl) hv0
 clear hargs; refine wp_seq ?_
 refine gI a0 s0 ok0 (gS rfl (fun A B E G H => rP (y_boxagg (kp (H 0 rfl) E p0))) (gC (Ty.bool false) (gE ok0 fun a1 s1 ok1 D1 => ?_))); have q1 := D1.dn 0 rfl rfl; refine tn (wp_seq ?_)
 refine gI a1 s1 ok1 (gS rfl (fun A B E G H => rP (y_field Tryz.fld24_2 Tryz.inf22 (by decide) (kp (H 1 rfl) E q1) rfl)) (gS rfl (fun A B E G H d0 => rP (y_load Tryz.underlying22 rfl (ed d0 rfl rfl rfl) rfl)) (gS rfl (fun A B E G H d0 => rP (y_len Tryz.underlying22 (ed d0 rfl rfl rfl))) (gT (Ty.int ((((List.length l) : Nat) : Int) - (1 : Int))) rfl (fun A B E G H d0 => rP (y_sub (ed d0 rfl rfl rfl) rfl (w64 (by omega) (by omega)))) (gB 0 (gE ok1 fun a2 s2 ok2 D2 => ?_)))))); refine tn (wp_seq (wp_seq ?_))
 refine gI a2 s2 ok2 (gC (Ty.int (0 : Int)) (gE ok2 fun a3 s3 ok3 D3 => ?_)); refine tn (wp_block ?_)
 refine loop (fun n1 a4 w1 => ∃ (t1 : GW) (k : Nat), t1.w = w1 ∧ FromL [] s0 t1 ∧ Ok 31 [] a4 ∧ At (Ty.nat k) t1 a4 (.tmp 4) ∧ At (Ty.ref [(Ty.val (Value.string nm)), (Ty.int n), (Ty.lst Ty.ints l)]) t1 a4 (.tmp 1) ∧ At (Ty.int ((((List.length l) : Nat) : Int) - (1 : Int))) t1 a4 (.tmp 3) ∧ (k ≤ (l.length - 1)) ∧ (∀ j, j < k → l.getD j [] = l.getD (l.length - 2 - j) []) ∧ n1 = (l.length - 1) - k) ((l.length - 1) - (0)) ?_ ?_
 ·
  exact ⟨s3, 0, rfl, (((F0.step0 D1.stp).step0 D2.stp).step0 D3.stp), ok3, (cvi (by (first | rfl | omega | (simp_all; done) | (simp_all; omega))) (D3.dn 0 rfl rfl)), (D3.kt (D2.kt q1 rfl) rfl), (D3.kt (D2.dn 4 rfl rfl) rfl), by omega, fun j hj => absurd hj (Nat.not_lt_zero j), rfl⟩
 ·
  rintro n2 a5 w2 ⟨t2, k, rfl, F4, ok4, q7, q8, q9, hk, heq, rfl⟩
  refine wp_seq (wp_seq ?_)
  refine gI a5 t2 ok4 (gM q7 (gM q9 (gS rfl (fun A B E G H d0 d1 => rP (y_lss (ed d0 rfl rfl rfl) (ed d1 rfl rfl rfl))) (gE ok4 fun a6 s4 ok5 D4 => ?_)))); have F5 := F4.step0 D4.stp; have q10 := D4.kt q7 rfl; have q11 := D4.kt q8 rfl; have q12 := D4.kt q9 rfl; refine tn ?_
  refine cond_p (p := (((k : Nat) : Int) < ((((List.length l) : Nat) : Int) - (1 : Int)))) (D4.dn 2 rfl rfl) (fun c1 => ?_) (fun c1 => ?_)
  ·
   have ei : ((((((l.length : Nat) : Int) - (1 : Int)) - (1 : Int)) - ((k : Nat) : Int))).toNat = l.length - 2 - k := (by omega)
   refine wp_skip (tn (wp_seq (wp_block (wp_seq ?_))))
   refine gI a6 s4 ok5 (gS rfl (fun A B E G H => rP (y_field Tryz.fld24_2 Tryz.inf22 (by decide) (kp (H 1 rfl) E q11) rfl)) (gS rfl (fun A B E G H d0 => rP (y_load Tryz.underlying22 rfl (ed d0 rfl rfl rfl) rfl)) (gM q10 (gT (Ty.ref [(Ty.lst Ty.int (l.getD k []))]) rfl (fun A B E G H d0 d1 => rP (y_index1 Tryz.underlying22 Tryz.inf30 (ed d0 rfl rfl rfl) (ed d1 rfl rfl rfl) (by omega) (lst_get Ty.ints l [] k (by omega)))) (gS rfl (fun A B E G H d0 => rP (y_load Tryz.underlying30 rfl (ed d0 rfl rfl rfl) rfl)) (gS rfl (fun A B E G H => rP (y_field Tryz.fld24_2 Tryz.inf22 (by decide) (kp (H 1 rfl) E q11) rfl)) (gS rfl (fun A B E G H d0 => rP (y_load Tryz.underlying22 rfl (ed d0 rfl rfl rfl) rfl)) (gM q12 (gT (Ty.int (((((List.length l) : Nat) : Int) - (1 : Int)) - (1 : Int))) rfl (fun A B E G H d0 => rP (y_sub (ed d0 rfl rfl rfl) rfl (w64 (by omega) (by omega)))) (gM q10 (gT (Ty.int ((((((List.length l) : Nat) : Int) - (1 : Int)) - (1 : Int)) - ((k : Nat) : Int))) rfl (fun A B E G H d0 d1 => rP (y_sub (ed d0 rfl rfl rfl) (ed d1 rfl rfl rfl) (w64 (by omega) (by omega)))) (gT (Ty.ref [(Ty.lst Ty.int (l.getD (((((((List.length l) : Nat) : Int) - (1 : Int)) - (1 : Int)) - ((k : Nat) : Int))).toNat []))]) rfl (fun A B E G H d0 d1 => rP (y_index1 Tryz.underlying22 Tryz.inf30 (ed d0 rfl rfl rfl) (ed d1 rfl rfl rfl) (by omega) (lst_get Ty.ints l [] (((((((List.length l) : Nat) : Int) - (1 : Int)) - (1 : Int)) - ((k : Nat) : Int))).toNat (by omega)))) (gS rfl (fun A B E G H d0 => rP (y_load Tryz.underlying30 rfl (ed d0 rfl rfl rfl) rfl)) ?_)))))))))))))
   refine gS rfl (fun A B E G H d0 d1 => rP (y_call _ Tryz.func18 rfl rfl my2 (rsame_fn ((l.getD k [])) ((l.getD (((((((List.length l) : Nat) : Int) - (1 : Int)) - (1 : Int)) - ((k : Nat) : Int))).toNat [])) _ _ _ (ed d0 rfl rfl rfl) (ed d1 rfl rfl rfl) ))) (gB 0 (gE ok5 fun a7 s5 ok6 D5 => ?_)); refine tn (wp_seq ?_)
   refine gI a7 s5 ok6 (gM (D5.dn 14 rfl rfl) (gS rfl (fun A B E G H d0 => rP (y_not (ed d0 rfl rfl rfl))) (gE ok6 fun a8 s6 ok7 D6 => ?_))); have F7 := (F5.step0 D5.stp).step0 D6.stp; refine tn ?_
   refine cond_t (D6.dn 1 rfl rfl) (fun c2 => ?_) (fun c2 => ?_)
   ·
    have hx : l.getD k [] ≠ l.getD (l.length - 2 - k) [] := (by rw [← ei]; simpa using c2)
    refine wp_seq ?_
    refine gI a8 s6 ok7 (gC (Ty.bool false) (gE ok7 fun a9 s7 ok8 D7 => ?_)); refine tn (wp_ret (br (tr (tr (br (tr ?_))))))
    exact retL1 rfl ok8 (F7.step0 D7.stp) (cvb (by (exact (decide_eq_false (fun e => hx (e k (by omega)))).symm)) (D7.dn 0 rfl rfl))
   ·
    have hx : l.getD k [] = l.getD (l.length - 2 - k) [] := (by rw [← ei]; simpa using c2)
    refine wp_skip (bn (tn ?_))
    refine gI a8 s6 ok7 (gM (D6.kt (D5.kt q10 rfl) rfl) (gT (Ty.int (((k : Nat) : Int) + (1 : Int))) rfl (fun A B E G H d0 => rP (y_add (ed d0 rfl rfl rfl) rfl (w64 (by omega) (by omega)))) (gB 0 (gE ok7 fun a10 s8 ok9 D8 => ?_))))
    exact tn ⟨(l.length - 1) - ((k+1)), by omega, s8, (k+1), rfl, (F7.step0 D8.stp), ok9, (cvi (by (first | rfl | omega | (simp_all; done) | (simp_all; omega))) (D8.dn 2 rfl rfl)), (D8.kt (D6.kt (D5.kt q11 rfl) rfl) rfl), (D8.kt (D6.kt (D5.kt q12 rfl) rfl) rfl), by omega, fun j hj => by (by_cases e : j = k; subst e; exact hx; exact heq j (by omega)), rfl⟩
  ·
   refine wp_exit (tx (tx (bx (tn (wp_seq ?_)))))
   refine gI a6 s4 ok5 (gC (Ty.bool true) (gE ok5 fun a11 s9 ok10 D9 => ?_)); refine tn (wp_ret ?_)
   exact retL1 rfl ok10 (F5.step0 D9.stp) (cvb (by (exact (decide_eq_true (fun j hj => heq j (by omega))).symm)) (D9.dn 0 rfl rfl))


set_option maxHeartbeats 4000000 in
set_option maxRecDepth 100000 in
theorem line_fn (nm : ByteArray) (n : Int) (l : List (List Int)) (b : Int) (σ : GW)  (v0 v1 : Value) (hv0 : Ty.has (Ty.agg [(Ty.val (Value.string nm)), (Ty.int n), (Ty.lst Ty.ints l)]) σ v0) (hv1 : Ty.has (Ty.int b) σ v1)  (hnm : nm.size ≤ 1099511627776) (hn : -9223372036854775808 ≤ n ∧ n ≤ 9223372036854775807) (hb64 : -9223372036854775808 ≤ b ∧ b ≤ 9223372036854775807) :
    FnC Tryz.prog 21 #[v0, v1] σ (Ty.tup2 (Ty.lst Ty.int (if methMay nm n l = 0 ∧ ¬ (b < 0 ∨ n ≤ b) then (lnTo (fromL (roundsL n.toNat) l) b (l.length + 1)) else [])) (Ty.int (if methMay nm n l ≠ 0 then methMay nm n l else if b < 0 ∨ n ≤ b then 12 else 0))) := by
 refine fn_intro0 Tryz.func21 rfl Tryz.ntmps21 (Nat.le_of_ble_eq_true rfl) (fun s0 a0 hle F0 ok0 hargs => ?_)
 have p0 := pA hle (hargs 0 _ rfl) hv0
 have p1 := pA hle (hargs 1 _ rfl) hv1
 clear hargs; refine wp_seq ?_
 refine gI a0 s0 ok0 (gS rfl (fun A B E G H => rP (y_boxagg (kp (H 0 rfl) E p0))) (gC (Ty.val (Value.slice none 0 0)) (gC (Ty.int (0 : Int)) (gE ok0 fun a1 s1 ok1 D1 => ?_)))); have q2 := D1.dn 0 rfl rfl; refine tn (wp_seq ?_)
 refine gI a1 s1 ok1 (gS rfl (fun A B E G H => rP (y_loadagg Tryz.underlying24 Tryz.inf24 (kp (H 2 rfl) E q2))) (gS rfl (fun A B E G H d0 => rP (y_call _ Tryz.func8 rfl rfl my1 (lead_fn (nm) (n) (l) _ _ (ed d0 rfl rfl rfl) (by first | omega | assumption) (by first | omega | assumption)))) (gS rfl (fun A B E G H d0 => rP (y_move (ed d0 rfl rfl rfl))) (gT (Ty.lst Ty.ints (if methMay nm n l = 0 then fromL (roundsL n.toNat) l else [])) rfl (fun A B E G H d0 => rP (y_ext2_0 (ed d0 rfl rfl rfl))) (gT (Ty.int (methMay nm n l)) rfl (fun A B E G H d0 d1 => rP (y_ext2_1 (ed d0 rfl rfl rfl))) (gB 0 (gB 0 (gE ok1 fun a2 s2 ok2 D2 => ?_)))))))); have q6 := D2.dn 6 rfl rfl; refine tn (wp_seq (wp_seq ?_))
 refine gI a2 s2 ok2 (gM q6 (gS rfl (fun A B E G H d0 => rP (y_neq (ed d0 rfl rfl rfl) rfl)) (gE ok2 fun a3 s3 ok3 D3 => ?_))); have F3 := ((F0.step0 D1.stp).step0 D2.stp).step0 D3.stp; have q7 := D3.kt (D2.kt (D1.kt p1 rfl) rfl) rfl; refine tn ?_
 refine cond_p (p := ((methMay nm n l) ≠ (0 : Int))) (D3.dn 1 rfl rfl) (fun c1 => ?_) (fun c1 => ?_)
 ·
  refine wp_seq ?_
  refine gI a3 s3 ok3 (gM (D3.kt q6 rfl) (gC (Ty.val (Value.slice none 0 0)) (gB 0 (gE ok3 fun a4 s4 ok4 D4 => ?_)))); refine tn (wp_ret (tr ?_))
  exact retL2 rfl ok4 (F3.step0 D4.stp) (hasT2 (nil_lst (by (rw [if_neg (fun e => c1 e.1)])) (D4.dn 1 rfl rfl)) (cvi (by (rw [if_pos c1])) (D4.dn 2 rfl rfl)))
 ·
  have h0 := Classical.not_not.1 c1; obtain ⟨hmo, hnn⟩ := methMay_ok' h0; have hm1 := hmo.n1; have hm2 := hmo.n2; have hml := hmo.l2; have hml1 := hmo.l1; have hrl := roundsL_len n.toNat; have hfl := fromL_len (roundsL n.toNat) l; obtain ⟨hhr, hhl⟩ := hmo.head; have hrm := rowMay_ok.2 hhr; have hol := ordTo_le hhr _ (Nat.le_refl _); obtain ⟨F, hF⟩ : ∃ F, F = (fromL (roundsL n.toNat) l) := ⟨_, rfl⟩; have hFl : F.length = l.length + 1 := (by rw [hF, fromL_len])
  have q14 : At (Ty.lst Ty.ints F) s3 a3 (.tmp 6) := cvt (T := (Ty.lst Ty.ints (if methMay nm n l = 0 then fromL (roundsL n.toNat) l else []))) (U := (Ty.lst Ty.ints F)) (by rw [if_pos h0, hF]) (D3.kt (D2.dn 5 rfl rfl) rfl)
  refine wp_skip (tn (wp_seq (wp_seq ?_)))
  refine gI a3 s3 ok3 (gM q7 (gS rfl (fun A B E G H d0 => rP (y_lss (ed d0 rfl rfl rfl) rfl)) (gS rfl (fun A B E G H d0 => rP (y_move (ed d0 rfl rfl rfl))) (gS rfl (fun A B E G H d0 => gu G (ed d0 rfl rfl rfl) fun hg => y_move (kp (H 1 rfl) E q7)) (gS rfl (fun A B E G H d0 => guf G (ed d0 rfl rfl rfl) fun hg hp => y_field Tryz.fld24_1 Tryz.inf3 (by decide) (kp (H 2 rfl) E (D3.kt (D2.kt q2 rfl) rfl)) rfl) (gS rfl (fun A B E G H d0 d1 => gu G (ed d1 rfl rfl rfl) fun hg => y_load Tryz.underlying3 rfl ((ed d0 rfl rfl rfl).1 hg) rfl) (gS rfl (fun A B E G H d0 d1 d2 => gu G (ed d2 rfl rfl rfl) fun hg => y_geq ((ed d0 rfl rfl rfl).1 hg) ((ed d1 rfl rfl rfl).1 hg)) (gS rfl (fun A B E G H d0 d1 => rP (y_pick_or (ed d0 rfl rfl rfl) rfl (ed d1 rfl rfl rfl))) (gE ok3 fun a5 s5 ok5 D5 => ?_))))))))); have F5 := F3.step0 D5.stp; refine tn ?_
  refine cond_t (D5.dn 7 rfl rfl) (fun c2 => ?_) (fun c2 => ?_)
  ·
   have hb : b < 0 ∨ n ≤ b := (by simp only [Bool.or_eq_true, decide_eq_true_eq] at c2; omega)
   refine wp_seq ?_
   refine gI a5 s5 ok5 (gC (Ty.val (Value.slice none 0 0)) (gC (Ty.int (12 : Int)) (gE ok5 fun a6 s6 ok6 D6 => ?_))); refine tn (wp_ret (tr ?_))
   exact retL2 rfl ok6 (F5.step0 D6.stp) (hasT2 (nil_lst (by (rw [if_neg (fun e => e.2 hb)])) (D6.dn 0 rfl rfl)) (cvi (by (rw [if_neg (fun e => e h0), if_pos hb])) (D6.dn 1 rfl rfl)))
  ·
   obtain ⟨d1, d2⟩ := Bool.or_eq_false_iff.mp c2
   replace d1 := of_decide_eq_false d1
   replace d2 := of_decide_eq_false d2
   have hb : ¬ (b < 0 ∨ n ≤ b) := (by simp only [Bool.or_eq_false_iff, decide_eq_false_iff_not] at c2; omega)
   refine wp_skip (tn (wp_seq ?_))
   refine gI a5 s5 ok5 (gC (Ty.val (Value.slice none 0 0)) (gE ok5 fun a7 s7 ok7 D7 => ?_)); refine tn (wp_seq (wp_seq ?_))
   refine gI a7 s7 ok7 (gM (D7.kt (D5.kt q14 rfl) rfl) (gS rfl (fun A B E G H d0 => rP (y_len Tryz.underlying22 (ed d0 rfl rfl rfl))) (gT (Ty.int (0 : Int)) rfl (fun A B E G H => rP (y_move rfl)) (gE ok7 fun a8 s8 ok8 D8 => ?_)))); refine tn (wp_block ?_)
   have o1 : Own s8 5 3 1 (Value.slice none 0 0) 0 (List.map Ty.int ([] : List Int)) := Own.nil _ _ _ _
   refine loop (fun n1 a9 w1 => ∃ (t1 : GW) (k : Nat) (x8_0 : Value), t1.w = w1 ∧ FromL [] s0 t1 ∧ Ok 42 [] a9 ∧ At (Ty.nat k) t1 a9 (.tmp 29) ∧ At (Ty.val x8_0) t1 a9 (.tmp 8) ∧ At (Ty.int b) t1 a9 (.tmp 1) ∧ At (Ty.lst Ty.ints F) t1 a9 (.tmp 27) ∧ At (Ty.nat (List.length F)) t1 a9 (.tmp 28) ∧ Own t1 5 3 1 x8_0 (List.length (lnTo F b k)) (List.map Ty.int (lnTo F b k)) ∧ (k ≤ F.length) ∧ n1 = F.length - k) (F.length - (0)) ?_ ?_
   ·
    exact ⟨s8, 0, (Value.slice none 0 0), rfl, ((F5.step0 D7.stp).step0 D8.stp), ok8, (cvi (by (first | rfl | omega | (simp_all; done) | (simp_all; omega))) (D8.dn 2 rfl rfl)), (D8.kt (D7.dn 0 rfl rfl) rfl), (D8.kt (D7.kt (D5.kt q7 rfl) rfl) rfl), (D8.dn 0 rfl rfl), (D8.dn 1 rfl rfl), (cvo (by (rfl)) (by (rfl)) o1), by omega, rfl⟩
   ·
    rintro n2 a10 w2 ⟨t2, k, x8_0, rfl, F9, ok9, q28, q29, q30, q31, q32, o2, hk, rfl⟩
    refine wp_seq ?_
    refine gI a10 t2 ok9 (gS rfl (fun A B E G H => rP (y_lss (kp (H 29 rfl) E q28) (kp (H 28 rfl) E q32))) (gE ok9 fun a11 s9 ok10 D9 => ?_)); have F10 := F9.step0 D9.stp; have q33 := D9.kt q28 rfl; have q34 := D9.kt q29 rfl; have q36 := D9.kt q31 rfl; have o3 := Own.k0 o2 D9.stp; refine tn (wp_seq ?_)
    refine cond_p (p := (((k : Nat) : Int) < (((List.length F) : Nat) : Int))) (D9.dn 0 rfl rfl) (fun c3 => ?_) (fun c3 => ?_)
    ·
     have hll := ln_len F b k; have hil := indexL_bd (F.getD k []) b; have hrl2 := (lead_rows hmo (k := k) (by omega)).2; rw [← hF] at hrl2
     refine wp_skip (tn (wp_seq (wp_block (wp_seq ?_))))
     refine gI a11 s9 ok10 (gT (Ty.ref [(Ty.lst Ty.int (F.getD k []))]) rfl (fun A B E G H => rP (y_index1 Tryz.underlying22 Tryz.inf30 (kp (H 27 rfl) E q36) (kp (H 29 rfl) E q33) (by omega) (lst_get Ty.ints F [] k (by omega)))) (gS rfl (fun A B E G H d0 => rP (y_load Tryz.underlying30 rfl (ed d0 rfl rfl rfl) rfl)) (gB 0 (gE ok10 fun a12 s10 ok11 D10 => ?_)))); have q40 := D10.kt q34 rfl; have q41 := D10.kt (D9.kt q30 rfl) rfl; have o4 := Own.k0 o3 D10.stp; refine tn ?_
     refine gI a12 s10 ok11 (gM q40 (gM (D10.dn 2 rfl rfl) (gM q41 (gS rfl (fun A B E G H d0 d1 => rP (y_call _ Tryz.func41 rfl rfl my2 (index_fn ((F.getD k [])) (b) _ _ _ (ed d0 rfl rfl rfl) (cvi (σ := B) (by omega) (ed d1 rfl rfl rfl)) ))) (gT (Ty.int ((indexL ((F.getD k [])) (b)) + (1 : Int))) rfl (fun A B E G H d0 => rP (y_add (ed d0 rfl rfl rfl) rfl (w64 (by omega) (by omega)))) (gT (Ty.sl 1 1 [(Ty.int ((indexL ((F.getD k [])) (b)) + (1 : Int)))]) rfl (fun A B E G H d0 => rP (y_build1o Tryz.underlying30 Tryz.inf3 rfl (one_val rfl) (ed d0 rfl rfl rfl))) (gE2 ok11 fun a13 s11 ok12 D11 => ?_))))))); have o5 := Own.k0 o4 D11.stp
     have q50 : At (Ty.val x8_0) s11 a13 (.tmp 33) := D11.done 0 (by decide)
     have q51 := D11.dn 5 (by decide) rfl rfl
     have b1 := sl_le q51
     refine tL ok12 (YldM.toL (m_append Tryz.underlying30 Tryz.inf3 (by decide) rfl (by decide) (al (R := (Pr.own 5 3 1 (List.length (lnTo F b k)) (List.map Ty.int (lnTo F b k)))) q50 o5) q51 (by intro U hU; simp at hU; subst hU; exact one_val rfl) (by omega) (by omega))) fun a14 s12 hs1 ok13 r1 sm1 => ?_
     have F13 := ((F10.step0 D10.stp).step0 D11.stp).stepL hs1 (by decide); have q52 := kpL hs1 (by decide) (sm1 29 (by decide)) (D11.kt (D10.kt q33 rfl) rfl); have q53 := kpL hs1 (by decide) (sm1 8 (by decide)) (D11.kt q40 rfl); have q54 := kpL hs1 (by decide) (sm1 1 (by decide)) (D11.kt q41 rfl); have q55 := kpL hs1 (by decide) (sm1 27 (by decide)) (D11.kt (D10.kt q36 rfl) rfl); have q56 := kpL hs1 (by decide) (sm1 28 (by decide)) (D11.kt (D10.kt (D9.kt q32 rfl) rfl) rfl)
     obtain ⟨x1, hx1⟩ : ∃ x, a14.eval (.tmp 39) = x := ⟨_, rfl⟩
     have q57 : At (Ty.val x1) s12 a14 (.tmp 39) := hx1
     have o6 := al2 (R := (Pr.own 5 3 1 (List.length ((lnTo F b k) ++ [((indexL ((F.getD k [])) (b)) + (1 : Int))])) (List.map Ty.int ((lnTo F b k) ++ [((indexL ((F.getD k [])) (b)) + (1 : Int))])))) hx1 (cvo (by simp) (by first | (rw [List.map_append]; rfl) | simp) r1)
     clear r1
     refine tL ok13 (Yld.toL (y_as q57)) fun a15 s13 hs2 ok14 r2 sm2 => ?_
     have F14 := F13.stepL hs2 (by decide); have q58 := kpL hs2 (by decide) (sm2 29 (by decide)) q52; have q59 := kpL hs2 (by decide) (sm2 1 (by decide)) q54; have q60 := kpL hs2 (by decide) (sm2 27 (by decide)) q55; have q61 := kpL hs2 (by decide) (sm2 28 (by decide)) q56; have o7 := Own.keepL o6 hs2 (by decide) (by decide)
     have q62 : At (Ty.val x1) s13 a15 (.tmp 8) := r2
     clear r2; refine wpList_nil (bn (tn ?_))
     refine gI a15 s13 ok14 (gT (Ty.nat (k + 1)) rfl (fun A B E G H => rP ((y_add (kp (H 29 rfl) E q58) rfl (w64 (by omega) (by omega))).mono (fun τ _ h => cvi (σ := τ) (by first | omega | exact (Int.natCast_mul _ _).symm) h))) (gS rfl (fun A B E G H d0 => rP (y_move (ed d0 rfl rfl rfl))) (gE ok14 fun a16 s14 ok15 D12 => ?_))); have o8 := Own.k0 o7 D12.stp
     exact tn ⟨F.length - ((k+1)), by omega, s14, (k+1), x1, rfl, (F14.step0 D12.stp), ok15, (cvi (by (first | rfl | omega | (simp_all; done) | (simp_all; omega))) (D12.dn 1 rfl rfl)), (D12.kt q62 rfl), (D12.kt q59 rfl), (D12.kt q60 rfl), (D12.kt q61 rfl), (cvo (by (rw [ln_succ])) (by (rw [ln_succ])) o8), by omega, rfl⟩
    ·
     refine wp_exit (tx (tx (bx (tn (wp_seq ?_)))))
     refine gI a11 s9 ok10 (gM q34 (gB 0 (gC (Ty.int (0 : Int)) (gE ok10 fun a17 s15 ok16 D13 => ?_)))); have o9 := Own.k0 o3 D13.stp
     have q68 : At (Ty.val x8_0) s15 a17 (.tmp 4) := D13.done 1
     refine tn (wp_ret ?_)
     obtain ⟨t3, e1, h1, q70⟩ := Own.seal o9 (by decide)
     rw [← e1]
     have F17 := (F10.step0 D13.stp).step h1 (by decide)
     have q71 : At (Ty.lst Ty.int (lnTo F b k)) t3 a17 (.tmp 4) := by have e : a17.eval (.tmp 4) = x8_0 := q68; show Ty.has _ _ _; rw [e]; exact q70
     have q72 := Ty.up (Ty.int (0 : Int)) (h1.le (by decide)) (D13.dn 2 rfl rfl)
     exact retL2 rfl ok16 F17 (hasT2 (cvt (by (rw [if_pos ⟨h0, hb⟩, ← hF, show k = l.length + 1 by omega])) q71) (cvi (by (rw [if_neg (fun e => e h0), if_neg hb])) q72))


set_option maxRecDepth 100000 in
theorem rUndo_fn (r : List Int) (σ : GW) (v0 : Value) (hv0 : Ty.has (Ty.lst Ty.int r) σ v0) (hr : IsRow r) :
    FnC Tryz.prog 42 #[v0] σ (Ty.lst Ty.int (undoL r)) := by
 have hln := hr.le
 refine fn_intro Tryz.func42 rfl Tryz.ntmps42 (Nat.le_of_ble_eq_true rfl) (fun s0 a0 hle F0 ok0 hargs => ?_)
 have p0 := pA hle (hargs 0 _ rfl) hv0
 have b1 := sl_le p0
 clear hargs; refine wp_seq ?_
 refine gI a0 s0 ok0 (gC (Ty.val (Value.slice none 0 0)) (gE ok0 fun a1 s1 ok1 D1 => ?_)); have q1 := D1.kt p0 rfl; refine tn (wp_seq ?_)
 refine gI a1 s1 ok1 (gM q1 (gS rfl (fun A B E G H d0 => rP (y_len Tryz.underlying30 (ed d0 rfl rfl rfl))) (gR (Pr.own 11 3 1 (List.length r) (List.map Ty.int (List.replicate (List.length r) 0))) rfl (by intro A B E G H d0 d1; have e1 := ed d0 rfl rfl rfl; exact rP ((y_make (k := 11) (T := Ty.int 0) (n := (List.length r)) Tryz.underlying30 Tryz.inf3 rfl (fun _ => rfl) e1 e1 (by omega) (by omega)).mono (fun _ _ h => cvo (by simp) (by simp) h))) (gR (Pr.own 11 3 1 (List.length r) (List.map Ty.int (List.replicate (List.length r) 0))) rfl (by intro A B E G H d0 d1 d2 d3; have e2 : (Pr.own 11 3 1 (List.length r) (List.map Ty.int (List.replicate (List.length r) 0))).has B (A.eval (.tmp 7)) := d0 rfl; exact rP (y_assign e2)) (gE ok1 fun a2 s2 ok2 D2 => ?_)))))
 have q3 : (Pr.own 11 3 1 (List.length r) (List.map Ty.int (List.replicate (List.length r) 0))).has s2 (a2.eval (.tmp 3)) := D2.done 3
 refine tn (wp_seq (wp_seq ?_))
 refine gI a2 s2 ok2 (gC (Ty.int (0 : Int)) (gE ok2 fun a3 s3 ok3 D3 => ?_))
 have q5 : (Pr.own 11 3 1 (List.length r) (List.map Ty.int (List.replicate (List.length r) 0))).has s3 (a3.eval (.tmp 3)) := D3.ko q3 rfl
 refine tn (wp_block ?_)
 refine loop (fun n1 a4 w1 => ∃ (t1 : GW) (k : Nat), t1.w = w1 ∧ From s0 t1 ∧ Ok 22 [] a4 ∧ (Pr.own 11 3 1 (List.length (undoTo r k)) (List.map Ty.int (undoTo r k))).has t1 (a4.eval (.tmp 3)) ∧ At (Ty.nat k) t1 a4 (.tmp 4) ∧ At (Ty.lst Ty.int r) t1 a4 (.tmp 0) ∧ (k ≤ r.length) ∧ n1 = r.length - k) (r.length - (0)) ?_ ?_
 ·
  exact ⟨s3, 0, rfl, (((F0.step0 D1.stp).step0 D2.stp).step0 D3.stp), ok3, (cvo (by (simp [undoTo_zero])) (by (simp [undoTo_zero])) q5), (cvi (by (first | rfl | omega | (simp_all; done) | (simp_all; omega))) (D3.dn 0 rfl rfl)), (D3.kt (D2.kt q1 rfl) rfl), by omega, rfl⟩
 ·
  rintro n2 a5 w2 ⟨t2, k, rfl, F4, ok4, q7, q8, q9, hk, rfl⟩
  have hp := undoTo_len r k
  refine wp_seq (wp_seq ?_)
  refine gI a5 t2 ok4 (gM q8 (gM q9 (gS rfl (fun A B E G H d0 => rP (y_len Tryz.underlying30 (ed d0 rfl rfl rfl))) (gS rfl (fun A B E G H d0 d1 => rP (y_lss (ed d0 rfl rfl rfl) (ed d1 rfl rfl rfl))) (gE ok4 fun a6 s4 ok5 D4 => ?_))))); have F5 := F4.step0 D4.stp
  have q10 : (Pr.own 11 3 1 (List.length (undoTo r k)) (List.map Ty.int (undoTo r k))).has s4 (a6.eval (.tmp 3)) := D4.ko q7 rfl
  have q11 := D4.kt q8 rfl; have q12 := D4.kt q9 rfl; refine tn ?_
  refine cond_p (p := (((k : Nat) : Int) < (((List.length r) : Nat) : Int))) (D4.dn 3 rfl rfl) (fun c1 => ?_) (fun c1 => ?_)
  ·
   have hq := hr.at (i := k) (by omega)
   refine wp_skip (tn (wp_seq (wp_block ?_)))
   refine gI a6 s4 ok5 (gT (Ty.val (a6.eval (.tmp 3))) rfl (fun A B E G H => rP (y_move (H 3 rfl))) (gM q12 (gM q11 (gT (Ty.ref [(Ty.int (r.getD k 0))]) rfl (fun A B E G H d0 d1 => rP (y_index1 Tryz.underlying30 Tryz.inf3 (ed d0 rfl rfl rfl) (ed d1 rfl rfl rfl) (by omega) (lst_get Ty.int r 0 k (by omega)))) (gS rfl (fun A B E G H d0 => rP (y_load Tryz.underlying3 rfl (ed d0 rfl rfl rfl) rfl)) (gM q11 (gT (Ty.val (cellPtr (a6.eval (.tmp 3)) ((r.getD k 0)).toNat)) rfl (fun A B E G H d0 d1 d2 d3 d4 d5 d6 d7 => rP (own_index1 (i := (r.getD k 0)) Tryz.underlying30 Tryz.inf3 ((Pr.own 11 3 1 (List.length (undoTo r k)) (List.map Ty.int (undoTo r k))).up E q10) (ed d0 rfl rfl rfl) (ed d1 rfl rfl rfl) (by omega) (by omega))) (gE2 ok5 fun a7 s5 ok6 D5 => ?_)))))))); have q14 := (Pr.own 11 3 1 (List.length (undoTo r k)) (List.map Ty.int (undoTo r k))).up D5.stp q10
   have q15 : a7.eval (.tmp 3) = a6.eval (.tmp 3) := D5.same 3 rfl
   have q18 := D5.dn 5 (by decide) rfl rfl
   refine tail_step0 (m := 11) (R := (fun _ τ => Own τ 11 3 1 (a6.eval (.tmp 3)) (List.length (undoTo r k)) ((List.map Ty.int (undoTo r k)).set ((r.getD k 0)).toNat (Ty.nat k)))) rfl rfl (m_store Tryz.inf3 (by decide) q14 (D5.dn 6 (by decide) rfl rfl) (by simp only [List.length_map, List.length_set]; omega) q18 (one_val rfl)) (fun v1 s6 hs1 r1 => ?_)
   have F7 := (F5.step0 D5.stp).step hs1 (by decide)
   have q20 : At (Ty.nat k) s6 a7 (.tmp 4) := kpm hs1 (by decide) rfl (D5.kt q11 rfl)
   have q21 : At (Ty.lst Ty.int r) s6 a7 (.tmp 0) := kpm hs1 (by decide) rfl (D5.kt q12 rfl)
   have q22 : At (Ty.nat k) s6 a7 (.tmp 19) := kpm hs1 (by decide) rfl q18
   have q23 : (Pr.own 11 3 1 (List.length ((undoTo r k).set ((r.getD k 0)).toNat ((k : Nat) : Int))) (List.map Ty.int ((undoTo r k).set ((r.getD k 0)).toNat ((k : Nat) : Int)))).has s6 (a6.eval (.tmp 3)) := (cvo (by simp) (by simp) r1)
   refine wpList_nil ?_
   have q24 : (Pr.own 11 3 1 (List.length ((undoTo r k).set ((r.getD k 0)).toNat ((k : Nat) : Int))) (List.map Ty.int ((undoTo r k).set ((r.getD k 0)).toNat ((k : Nat) : Int)))).has s6 (a7.eval (.tmp 3)) := al q15 q23
   refine bn (tn ?_)
   refine gI a7 s6 ok6 (gM q20 (gT (Ty.int (((k : Nat) : Int) + (1 : Int))) rfl (fun A B E G H d0 => rP (y_add (ed d0 rfl rfl rfl) rfl (w64 (by omega) (by omega)))) (gB 0 (gE ok6 fun a9 s7 ok8 D6 => ?_))))
   have q25 : (Pr.own 11 3 1 (List.length ((undoTo r k).set ((r.getD k 0)).toNat ((k : Nat) : Int))) (List.map Ty.int ((undoTo r k).set ((r.getD k 0)).toNat ((k : Nat) : Int)))).has s7 (a9.eval (.tmp 3)) := D6.ko q24 rfl
   exact tn ⟨r.length - ((k+1)), by omega, s7, (k+1), rfl, (F7.step0 D6.stp), ok8, (cvo (by (rw [undoTo_step r k hr (by omega)])) (by (rw [undoTo_step r k hr (by omega)])) q25), (cvi (by (first | rfl | omega | (simp_all; done) | (simp_all; omega))) (D6.dn 2 rfl rfl)), (D6.kt q21 rfl), by omega, rfl⟩
  ·
   refine wp_exit (tx (tx (bx (tn (wp_seq ?_)))))
   refine gI a6 s4 ok5 (gT (Ty.val (a6.eval (.tmp 3))) rfl (fun A B E G H => rP (y_move (H 3 rfl))) (gB 0 (gE ok5 fun a10 s8 ok9 D7 => ?_)))
   have q28 : (Pr.own 11 3 1 (List.length (undoTo r k)) (List.map Ty.int (undoTo r k))).has s8 (a10.eval (.tmp 2)) := al (show _ = _ from D7.done 1) ((Pr.own 11 3 1 (List.length (undoTo r k)) (List.map Ty.int (undoTo r k))).up D7.stp q10)
   refine tn (wp_ret ?_)
   obtain ⟨t3, e1, h1, q29⟩ := Own.seal q28 (by decide)
   rw [← e1]
   have F10 := (F5.step0 D7.stp).step h1 (by decide)
   exact ret1 rfl ok9 F10 (cvt (by (obtain rfl : k = r.length := (by omega); rw [undoTo_all r hr])) q29)


end Go.Proofs.YtdjihbjikpbhgaaGreatDoor
