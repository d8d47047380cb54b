/- The functions that the law CosetMade reaches, each by its contract. Part 8. -/
import Derived.Test.YtkjifbgofckfeaaCosetMadeW7
namespace Go.Proofs.Ytkjifbgofckfeaa
open Go.KL

set_option maxHeartbeats 4000000 in
set_option maxRecDepth 100000 in
theorem gMakeE_fn (n : Int) (gens : List (List Int)) (σ : GW)  (v0 v1 : Value) (hv0 : Ty.has (Ty.int n) σ v0) (hv1 : Ty.has (Ty.lst Ty.ints gens) σ v1)  (hbad : gensMay n gens ≠ 0) :
    FnC Try.prog 17 #[v0, v1] σ (Ty.tup2 (Ty.val (Value.pointer none)) (Ty.int (gensMay n gens))) := by
 refine fn_intro0 Try.func17 rfl Try.ntmps17 (Nat.le_of_ble_eq_true rfl) (fun s0 a0 hle F0 ok0 hargs => ?_)
 have p0 := pA hle (hargs 0 _ rfl) hv0
 have p1 := pA hle (hargs 1 _ rfl) hv1
 have b1 := sl_le p1
 clear hargs; refine wp_seq ?_
 refine gI a0 s0 ok0 (gC (Ty.val (Value.pointer none)) (gC (Ty.int (0 : Int)) (gE ok0 fun a1 s1 ok1 D1 => ?_))); refine tn (wp_seq (wp_seq ?_))
 refine gI a1 s1 ok1 (gM (D1.k p0) (gM (D1.k p1) (gS rfl (fun A B E H I d0 d1 => rP (y_call _ Try.func41 rfl rfl my2 (gCheck_fn (n) (gens) _ _ _ (ef d0 rfl) (ef d1 rfl) ))) (gB 0 (gE ok1 fun a2 s2 ok2 D2 => ?_))))); have q5 := D2.m 3 rfl; refine tn (wp_seq ?_)
 refine gI a2 s2 ok2 (gM q5 (gS rfl (fun A B E H I d0 => rP (y_neq (ef d0 rfl) rfl)) (gE ok2 fun a3 s3 ok3 D3 => ?_))); refine tn ?_
 refine cond_p (p := ((gensMay n (gens)) ≠ (0 : Int))) (D3.m 1 rfl) (fun c1 => ?_) (fun c1 => ?_)
 ·
  refine wp_seq ?_
  refine gI a3 s3 ok3 (gM (D3.k q5) (gC (Ty.val (Value.pointer none)) (gB 0 (gE ok3 fun a4 s4 ok4 D4 => ?_)))); refine tn (wp_ret (tr ?_))
  exact retL2 rfl ok4 ((((F0.step0 D1.stp).step0 D2.stp).step0 D3.stp).step0 D4.stp) (hasT2 (D4.m 1 rfl) (cvi (by (first | rfl | omega | (simp_all; done) | (simp_all; omega))) (D4.m 2 rfl)))
 ·
  exfalso
  exact c1 hbad


set_option maxHeartbeats 4000000 in
set_option maxRecDepth 100000 in
theorem cMakA_fn (n : Int) (G : List (List Int)) (S : List (List Int)) (σ : GW)  (v0 v1 v2 : Value) (hv0 : Ty.has (Ty.int n) σ v0) (hv1 : Ty.has (Ty.lst Ty.ints G) σ v1) (hv2 : Ty.has (Ty.lst Ty.ints S) σ v2)  (hbad : gensMay n G ≠ 0) :
    FnC Try.prog 33 #[v0, v1, v2] σ (Ty.tup2 (Ty.val (Value.pointer none)) (Ty.int (gensMay n G))) := by
 refine fn_intro0 Try.func33 rfl Try.ntmps33 (Nat.le_of_ble_eq_true rfl) (fun s0 a0 hle F0 ok0 hargs => ?_)
 have p0 := pA hle (hargs 0 _ rfl) hv0
 have p1 := pA hle (hargs 1 _ rfl) hv1
 have b1 := sl_le p1
 have p2 := pA hle (hargs 2 _ rfl) hv2
 have b2 := sl_le p2
 clear hargs; refine wp_seq ?_
 refine gI a0 s0 ok0 (gC (Ty.val (Value.pointer none)) (gC (Ty.int (0 : Int)) (gE ok0 fun a1 s1 ok1 D1 => ?_))); refine tn (wp_seq ?_)
 refine gI a1 s1 ok1 (gM (D1.k p0) (gM (D1.k p1) (gS rfl (fun A B E H I d0 d1 => rP (y_call _ Try.func17 rfl rfl my2 (gMakeE_fn (n) (G) _ _ _ (ef d0 rfl) (ef d1 rfl) (by omega)))) (gS rfl (fun A B E H I d0 => rP (y_move (ef d0 rfl))) (gT (Ty.val (Value.pointer none)) rfl (fun A B E H I d0 => rP (y_ext2_0 (ef d0 rfl))) (gT (Ty.int (gensMay n (G))) rfl (fun A B E H I d0 d1 => rP (y_ext2_1 (ef d0 rfl))) (gB 0 (gB 0 (gE ok1 fun a2 s2 ok2 D2 => ?_))))))))); have q8 := D2.m 7 rfl; refine tn (wp_seq (wp_seq ?_))
 refine gI a2 s2 ok2 (gM q8 (gS rfl (fun A B E H I d0 => rP (y_neq (ef d0 rfl) rfl)) (gE ok2 fun a3 s3 ok3 D3 => ?_))); refine tn ?_
 refine cond_p (p := ((gensMay n (G)) ≠ (0 : Int))) (D3.m 1 rfl) (fun c1 => ?_) (fun c1 => ?_)
 ·
  refine wp_seq ?_
  refine gI a3 s3 ok3 (gM (D3.k q8) (gC (Ty.val (Value.pointer none)) (gB 0 (gE ok3 fun a4 s4 ok4 D4 => ?_)))); refine tn (wp_ret (tr ?_))
  exact retL2 rfl ok4 ((((F0.step0 D1.stp).step0 D2.stp).step0 D3.stp).step0 D4.stp) (hasT2 (D4.m 1 rfl) (cvi (by (first | rfl | omega | (simp_all; done) | (simp_all; omega))) (D4.m 2 rfl)))
 ·
  exfalso
  exact c1 hbad


set_option maxHeartbeats 4000000 in
set_option maxRecDepth 100000 in
theorem cSaysA_fn (n : Int) (G : List (List Int)) (S : List (List Int)) (r : List Int) (σ : GW)  (v0 v1 v2 v3 : Value) (hv0 : Ty.has (Ty.int n) σ v0) (hv1 : Ty.has (Ty.lst Ty.ints G) σ v1) (hv2 : Ty.has (Ty.lst Ty.ints S) σ v2) (hv3 : Ty.has (Ty.lst Ty.int r) σ v3)  (hbad : gensMay n G ≠ 0) :
    FnC Try.prog 6 #[v0, v1, v2, v3] σ (Ty.bool true) := by
 refine fn_intro0 Try.func6 rfl Try.ntmps6 (Nat.le_of_ble_eq_true rfl) (fun s0 a0 hle F0 ok0 hargs => ?_)
 have p0 := pA hle (hargs 0 _ rfl) hv0
 have p1 := pA hle (hargs 1 _ rfl) hv1
 have b1 := sl_le p1
 have p2 := pA hle (hargs 2 _ rfl) hv2
 have b2 := sl_le p2
 have p3 := pA hle (hargs 3 _ rfl) hv3
 have b3 := sl_le p3
 clear hargs; refine wp_seq ?_
 refine gI a0 s0 ok0 (gC (Ty.bool false) (gE ok0 fun a1 s1 ok1 D1 => ?_)); have q1 := D1.k p0; have q2 := D1.k p1; refine tn (wp_seq ?_)
 refine gI a1 s1 ok1 (gM q1 (gM q2 (gM (D1.k p2) (gS rfl (fun A B E H I d0 d1 d2 => rP (y_call _ Try.func33 rfl rfl my3 (cMakA_fn (n) (G) (S) _ _ _ _ (ef d0 rfl) (ef d1 rfl) (ef d2 rfl) (by omega)))) (gS rfl (fun A B E H I d0 => rP (y_move (ef d0 rfl))) (gT (Ty.val (Value.pointer none)) rfl (fun A B E H I d0 => rP (y_ext2_0 (ef d0 rfl))) (gT (Ty.int (gensMay n G)) rfl (fun A B E H I d0 d1 => rP (y_ext2_1 (ef d0 rfl))) (gB 0 (gB 0 (gE ok1 fun a2 s2 ok2 D2 => ?_)))))))))); refine tn (wp_seq ?_)
 refine gI a2 s2 ok2 (gM (D2.k q1) (gM (D2.k q2) (gS rfl (fun A B E H I d0 d1 => rP (y_call _ Try.func24 rfl rfl my2 (rGensMay_fn (n) (G) _ _ _ (ef d0 rfl) (ef d1 rfl) ))) (gB 0 (gE ok2 fun a3 s3 ok3 D3 => ?_))))); have q17 := D3.m 3 rfl; refine tn (wp_seq (wp_seq ?_))
 refine gI a3 s3 ok3 (gM q17 (gS rfl (fun A B E H I d0 => rP (y_eql (ef d0 rfl) rfl)) (gE ok3 fun a4 s4 ok4 D4 => ?_))); refine tn ?_
 refine cond_p (p := ((gensMay n (G)) = (0 : Int))) (D4.m 1 rfl) (fun c1 => ?_) (fun c1 => ?_)
 ·
  exfalso
  exact hbad c1
 ·
  refine wp_skip (tn (wp_seq ?_))
  refine gI a4 s4 ok4 (gC (Ty.int (0 : Int)) (gE ok4 fun a5 s5 ok5 D5 => ?_)); refine tn (wp_seq ?_)
  refine gI a5 s5 ok5 (gC (Ty.int (0 : Int)) (gE ok5 fun a6 s6 ok6 D6 => ?_)); have q40 := D6.k (D5.k (D4.k q17)); refine tn (wp_seq (wp_seq ?_))
  refine gI a6 s6 ok6 (gM q40 (gS rfl (fun A B E H I d0 => rP (y_eql (ef d0 rfl) rfl)) (gE ok6 fun a7 s7 ok7 D7 => ?_))); have q49 := D7.k q40; refine tn ?_
  refine cond_p (p := ((gensMay n (G)) = (0 : Int))) (D7.m 1 rfl) (fun c2 => ?_) (fun c2 => ?_)
  ·
   exfalso
   exact hbad c2
  ·
   refine wp_skip (tn (wp_seq (wp_seq ?_)))
   refine gI a7 s7 ok7 (gM q49 (gS rfl (fun A B E H I d0 => rP (y_neq (ef d0 rfl) rfl)) (gE ok7 fun a8 s8 ok8 D8 => ?_))); refine tn ?_
   refine cond_p (p := ((gensMay n (G)) ≠ (0 : Int))) (D8.m 1 rfl) (fun c3 => ?_) (fun c3 => ?_)
   ·
    refine wp_seq ?_
    refine gI a8 s8 ok8 (gM (D8.k (D7.k (D6.k (D5.k (D4.k (D3.k (D2.m 8 rfl))))))) (gM (D8.k q49) (gS rfl (fun A B E H I d0 d1 => rP (y_eql (ef d0 rfl) (ef d1 rfl))) (gS rfl (fun A B E H I d0 => rP (y_move (ef d0 rfl))) (gS rfl (fun A B E H I d0 => gu H (ef d0 rfl) fun hg => y_move (kp (I 9 rfl) E (D8.k (D7.k (D6.k (D5.k (D4.k (D3.k (D2.m 7 rfl))))))))) (gT (Ty.grd ((decide ((gensMay n G) = (gensMay n (G)))) = true) (Ty.bool true)) rfl (fun A B E H I d0 d1 => gu H (ef d1 rfl) fun hg => y_nilnil Try.underlying53 ((ef d0 rfl).1 hg) rfl) (gS rfl (fun A B E H I d0 d1 => rP (y_pick_and (ef d0 rfl) (ef d1 rfl) rfl)) (gB 0 (gE ok8 fun a9 s9 ok9 D9 => ?_))))))))); refine tn (wp_ret (tr ?_))
    exact retL1 rfl ok9 (((((((((F0.step0 D1.stp).step0 D2.stp).step0 D3.stp).step0 D4.stp).step0 D5.stp).step0 D6.stp).step0 D7.stp).step0 D8.stp).step0 D9.stp) (cvb (by (simp)) (D9.m 7 rfl))
   ·
    exfalso
    exact c3 hbad


set_option maxHeartbeats 4000000 in
set_option maxRecDepth 100000 in
theorem cMakB_fn (n : Nat) (G : List (List Int)) (S : List (List Int)) (σ : GW)  (v0 v1 v2 : Value) (hv0 : Ty.has (Ty.nat n) σ v0) (hv1 : Ty.has (Ty.lst Ty.ints G) σ v1) (hv2 : Ty.has (Ty.lst Ty.ints S) σ v2)  (hn : 1 ≤ n ∧ n ≤ 12) (hG : ∀ x ∈ G, RowN n x) (hGl : G.length ≤ 8) (hbad : gensMay (n : Int) S ≠ 0) :
    FnC Try.prog 33 #[v0, v1, v2] σ (Ty.tup2 (Ty.val (Value.pointer none)) (Ty.int (gensMay (n : Int) S))) := by
 refine fn_intro0 Try.func33 rfl Try.ntmps33 (Nat.le_of_ble_eq_true rfl) (fun s0 a0 hle F0 ok0 hargs => ?_)
 have p0 := pA hle (hargs 0 _ rfl) hv0
 have p1 := pA hle (hargs 1 _ rfl) hv1
 have b1 := sl_le p1
 have p2 := pA hle (hargs 2 _ rfl) hv2
 have b2 := sl_le p2
 clear hargs; refine wp_seq ?_
 refine gI a0 s0 ok0 (gC (Ty.val (Value.pointer none)) (gC (Ty.int (0 : Int)) (gE ok0 fun a1 s1 ok1 D1 => ?_))); have q1 := D1.k p0; have q2 := D1.k p1; refine tn (wp_seq ?_)
 refine gI a1 s1 ok1 (gM q1 (gM q2 (gE2 ok1 fun a2 s2 ok2 D2 => ?_)))
 refine tL ok2 (y_callL (L := []) [] [(41, 61), (42, 62), (43, 63)] _ rfl (by decide) Try.func17 rfl rfl my2 (gMake_fn (n) (G) _ (GW.low_lend _ (by decide)) _ _ (Ty.up _ (GW.le_lend _ _) (D2.m 0 rfl)) (Ty.up _ (GW.le_lend _ _) (D2.m 1 rfl))  (by first | omega | assumption) (by first | omega | assumption) (by first | omega | assumption))) fun a3 s3 hs1 ok3 r1 sm1 => ?_
 have F3 := ((F0.step0 D1.stp).step0 D2.stp).sl hs1
 obtain ⟨t1, ⟨g1, g2, x1, x2, x3, hT1, o1, o2, o3, hp1⟩, B1⟩ := r1
 have q12 : At (Ty.tup2 (Ty.val x1) (Ty.int (0 : Int))) s3 a3 (.tmp 19) := Ty.up _ B1.le hT1
 have o4 : OwnP s3 61 x1 [(Ty.nat n), (Ty.val x3), (Ty.val x2)] := OwnP.ren o1 (B1.ren (by decide) rfl)
 have o5 : ChnU s3 62 22 108 x2 n (g1) (g2) := ChnU.ren o2 (B1.ren (by decide) rfl)
 have o6 : Own s3 63 22 1 x3 (List.length (G)) (List.map Ty.ints (G)) := Own.ren o3 (B1.ren (by decide) rfl)
 refine tL ok3 (Yld.toL (y_mv q12)) fun a4 s4 hs2 ok4 r2 sm2 => ?_
 have F4 := F3.sl hs2; have o8 := ChnU.keepL o5 hs2 (by decide) (by decide)
 have q16 : At (Ty.tup2 (Ty.val x1) (Ty.int (0 : Int))) s4 a4 (.tmp 16) := r2
 clear r2
 refine tL (R := (fun v τ => Pr.has (Ty.pr (Ty.val x1)) τ v)) ok4 (Yld.toL (y_ext2_0 q16)) fun a5 s5 hs3 ok5 r3 sm3 => ?_
 have F5 := F4.sl hs3; have o11 := ChnU.keepL o8 hs3 (by decide) (by decide)
 have q21 : At (Ty.val x1) s5 a5 (.tmp 20) := r3
 clear r3
 refine tL (R := (fun v τ => Pr.has (Ty.pr (Ty.int (0 : Int))) τ v)) ok5 (Yld.toL (y_ext2_1 (kq hs3 sm3 16 q16))) fun a6 s6 hs4 ok6 r4 sm4 => ?_
 have F6 := F5.sl hs4; have o14 := ChnU.keepL o11 hs4 (by decide) (by decide)
 have q26 : At (Ty.int (0 : Int)) s6 a6 (.tmp 21) := r4
 clear r4
 refine tL ok6 (Yld.toL (y_as (kq hs4 sm4 20 q21))) fun a7 s7 hs5 ok7 r5 sm5 => ?_
 have F7 := F6.sl hs5; have o17 := ChnU.keepL o14 hs5 (by decide) (by decide)
 have q31 : At (Ty.val x1) s7 a7 (.tmp 8) := r5
 clear r5
 refine tL ok7 (Yld.toL (y_as (kq hs5 sm5 21 q26))) fun a8 s8 hs6 ok8 r6 sm6 => ?_
 have F8 := F7.sl hs6; have q33 := kq hs6 sm6 1 (kq hs5 sm5 1 (kq hs4 sm4 1 (kq hs3 sm3 1 (kq hs2 sm2 1 (kq hs1 sm1 1 (D2.k q2)))))); have q35 := kq hs6 sm6 8 q31; have o20 := ChnU.keepL o17 hs6 (by decide) (by decide)
 have q36 : At (Ty.int (0 : Int)) s8 a8 (.tmp 9) := r6
 clear r6; refine wpList_nil (tn (wp_seq (wp_seq ?_)))
 refine gI a8 s8 ok8 (gM q36 (gT (Ty.bool false) rfl (fun A B E H I d0 => rP ((y_neq (ef d0 rfl) rfl).mono (fun τ _ h => cvb (σ := τ) (by decide) h))) (gE ok8 fun a9 s9 ok9 D3 => ?_))); have o22 := OwnP.k0 (OwnP.kl (OwnP.kl (OwnP.kl (OwnP.kl (OwnP.kl o4 hs2) hs3) hs4) hs5) hs6) D3.stp; have o23 := ChnU.k0 o20 D3.stp; have o24 := Own.k0 (Own.kl (Own.kl (Own.kl (Own.kl (Own.kl o6 hs2) hs3) hs4) hs5) hs6) D3.stp; refine tn ?_
 refine cond_t (D3.m 1 rfl) (fun c1 => (by cases c1)) (fun _ => ?_)
 refine wp_skip (tn (wp_seq ?_))
 refine gI a9 s9 ok9 (gM (D3.k (kq hs6 sm6 0 (kq hs5 sm5 0 (kq hs4 sm4 0 (kq hs3 sm3 0 (kq hs2 sm2 0 (kq hs1 sm1 0 (D2.k q1)))))))) (gM (D3.k (kq hs6 sm6 2 (kq hs5 sm5 2 (kq hs4 sm4 2 (kq hs3 sm3 2 (kq hs2 sm2 2 (kq hs1 sm1 2 (D2.k (D1.k p2))))))))) (gS rfl (fun A B E H I d0 d1 => rP (y_call _ Try.func17 rfl rfl my2 (gMakeE_fn (((n : Nat) : Int)) (S) _ _ _ (cvi (σ := B) (by omega) (ef d0 rfl)) (ef d1 rfl) (by omega)))) (gS rfl (fun A B E H I d0 => rP (y_move (ef d0 rfl))) (gT (Ty.val (Value.pointer none)) rfl (fun A B E H I d0 => rP (y_ext2_0 (ef d0 rfl))) (gT (Ty.int (gensMay (((n : Nat) : Int)) (S))) rfl (fun A B E H I d0 d1 => rP (y_ext2_1 (ef d0 rfl))) (gB 0 (gB 0 (gE ok9 fun a10 s10 ok10 D4 => ?_))))))))); have o25 := OwnP.k0 o22 D4.stp; have o26 := ChnU.k0 o23 D4.stp; have o27 := Own.k0 o24 D4.stp; have q48 := D4.m 7 rfl; refine tn (wp_seq (wp_seq ?_))
 refine gI a10 s10 ok10 (gM q48 (gS rfl (fun A B E H I d0 => rP (y_neq (ef d0 rfl) rfl)) (gE ok10 fun a11 s11 ok11 D5 => ?_))); have o28 := OwnP.k0 o25 D5.stp; have o29 := ChnU.k0 o26 D5.stp; have o30 := Own.k0 o27 D5.stp; refine tn ?_
 refine cond_p (p := ((gensMay (((n : Nat) : Int)) (S)) ≠ (0 : Int))) (D5.m 1 rfl) (fun c2 => ?_) (fun c2 => ?_)
 ·
  refine wp_seq ?_
  refine gI a11 s11 ok11 (gM (D5.k q48) (gC (Ty.val (Value.pointer none)) (gB 0 (gE ok11 fun a12 s12 ok12 D6 => ?_)))); have o31 := OwnP.k0 o28 D6.stp; have o32 := ChnU.k0 o29 D6.stp; have o33 := Own.k0 o30 D6.stp; refine tn (wp_ret (tr ?_))
  exact retL2 rfl ok12 ((((F8.step0 D3.stp).step0 D4.stp).step0 D5.stp).step0 D6.stp) (hasT2 (D6.m 1 rfl) (cvi (by (first | rfl | omega | (simp_all; done) | (simp_all; omega))) (D6.m 2 rfl)))
 ·
  exfalso
  exact c2 hbad


set_option maxHeartbeats 4000000 in
set_option maxRecDepth 100000 in
theorem cMakC_fn (n : Nat) (G : List (List Int)) (S : List (List Int)) (σ : GW)  (v0 v1 v2 : Value) (hv0 : Ty.has (Ty.nat n) σ v0) (hv1 : Ty.has (Ty.lst Ty.ints G) σ v1) (hv2 : Ty.has (Ty.lst Ty.ints S) σ v2)  (hn : 1 ≤ n ∧ n ≤ 12) (hG : ∀ x ∈ G, RowN n x) (hGl : G.length ≤ 8) (hS : ∀ x ∈ S, RowN n x) (hSl : S.length ≤ 8) (hbad : ∃ x ∈ S, ¬ Cl n (fun y => y ∈ G) x) :
    FnC Try.prog 33 #[v0, v1, v2] σ (Ty.tup2 (Ty.val (Value.pointer none)) (Ty.int (14 : Int))) := by
 have hsb := fun S_ => szTo_bd (n := n) (S := S_) (k := n) hn.2
 have hsG := hsb (fun y => y ∈ G)
 have hsS := hsb (fun y => y ∈ S)
 have hpS : 0 < szTo n (fun y => y ∈ S) n := szTo_pos hn n (Nat.le_refl _)
 have hdv : szTo n (fun y => y ∈ G) n / szTo n (fun y => y ∈ S) n ≤ szTo n (fun y => y ∈ G) n := Nat.div_le_self _ _
 refine fn_intro0 Try.func33 rfl Try.ntmps33 (Nat.le_of_ble_eq_true rfl) (fun s0 a0 hle F0 ok0 hargs => ?_)
 have p0 := pA hle (hargs 0 _ rfl) hv0
 have p1 := pA hle (hargs 1 _ rfl) hv1
 have b1 := sl_le p1
 have p2 := pA hle (hargs 2 _ rfl) hv2
 have b2 := sl_le p2
 clear hargs; refine wp_seq ?_
 refine gI a0 s0 ok0 (gC (Ty.val (Value.pointer none)) (gC (Ty.int (0 : Int)) (gE ok0 fun a1 s1 ok1 D1 => ?_))); have q1 := D1.k p0; have q2 := D1.k p1; refine tn (wp_seq ?_)
 refine gI a1 s1 ok1 (gM q1 (gM q2 (gE2 ok1 fun a2 s2 ok2 D2 => ?_)))
 refine tL ok2 (y_callL (L := []) [] [(41, 51), (42, 52), (43, 53)] _ rfl (by decide) Try.func17 rfl rfl my2 (gMake_fn (n) (G) _ (GW.low_lend _ (by decide)) _ _ (Ty.up _ (GW.le_lend _ _) (D2.m 0 rfl)) (Ty.up _ (GW.le_lend _ _) (D2.m 1 rfl))  (by first | omega | assumption) (by first | omega | assumption) (by first | omega | assumption))) fun a3 s3 hs1 ok3 r1 sm1 => ?_
 have F3 := ((F0.step0 D1.stp).step0 D2.stp).sl hs1
 obtain ⟨t1, ⟨g1, g2, x1, x2, x3, hT1, o1, o2, o3, hp1⟩, B1⟩ := r1
 have q12 : At (Ty.tup2 (Ty.val x1) (Ty.int (0 : Int))) s3 a3 (.tmp 19) := Ty.up _ B1.le hT1
 have o4 : OwnP s3 51 x1 [(Ty.nat n), (Ty.val x3), (Ty.val x2)] := OwnP.ren o1 (B1.ren (by decide) rfl)
 have o5 : ChnU s3 52 22 108 x2 n (g1) (g2) := ChnU.ren o2 (B1.ren (by decide) rfl)
 have o6 : Own s3 53 22 1 x3 (List.length (G)) (List.map Ty.ints (G)) := Own.ren o3 (B1.ren (by decide) rfl)
 refine tL ok3 (Yld.toL (y_mv q12)) fun a4 s4 hs2 ok4 r2 sm2 => ?_
 have F4 := F3.sl hs2; have o8 := ChnU.keepL o5 hs2 (by decide) (by decide)
 have q16 : At (Ty.tup2 (Ty.val x1) (Ty.int (0 : Int))) s4 a4 (.tmp 16) := r2
 clear r2
 refine tL (R := (fun v τ => Pr.has (Ty.pr (Ty.val x1)) τ v)) ok4 (Yld.toL (y_ext2_0 q16)) fun a5 s5 hs3 ok5 r3 sm3 => ?_
 have F5 := F4.sl hs3; have o11 := ChnU.keepL o8 hs3 (by decide) (by decide)
 have q21 : At (Ty.val x1) s5 a5 (.tmp 20) := r3
 clear r3
 refine tL (R := (fun v τ => Pr.has (Ty.pr (Ty.int (0 : Int))) τ v)) ok5 (Yld.toL (y_ext2_1 (kq hs3 sm3 16 q16))) fun a6 s6 hs4 ok6 r4 sm4 => ?_
 have F6 := F5.sl hs4; have o14 := ChnU.keepL o11 hs4 (by decide) (by decide)
 have q26 : At (Ty.int (0 : Int)) s6 a6 (.tmp 21) := r4
 clear r4
 refine tL ok6 (Yld.toL (y_as (kq hs4 sm4 20 q21))) fun a7 s7 hs5 ok7 r5 sm5 => ?_
 have F7 := F6.sl hs5; have o17 := ChnU.keepL o14 hs5 (by decide) (by decide)
 have q31 : At (Ty.val x1) s7 a7 (.tmp 8) := r5
 clear r5
 refine tL ok7 (Yld.toL (y_as (kq hs5 sm5 21 q26))) fun a8 s8 hs6 ok8 r6 sm6 => ?_
 have F8 := F7.sl hs6; have o20 := ChnU.keepL o17 hs6 (by decide) (by decide)
 have q36 : At (Ty.int (0 : Int)) s8 a8 (.tmp 9) := r6
 clear r6; refine wpList_nil (tn (wp_seq (wp_seq ?_)))
 refine gI a8 s8 ok8 (gM q36 (gT (Ty.bool false) rfl (fun A B E H I d0 => rP ((y_neq (ef d0 rfl) rfl).mono (fun τ _ h => cvb (σ := τ) (by decide) h))) (gE ok8 fun a9 s9 ok9 D3 => ?_))); have q37 := D3.k (kq hs6 sm6 0 (kq hs5 sm5 0 (kq hs4 sm4 0 (kq hs3 sm3 0 (kq hs2 sm2 0 (kq hs1 sm1 0 (D2.k q1))))))); have q39 := D3.k (kq hs6 sm6 2 (kq hs5 sm5 2 (kq hs4 sm4 2 (kq hs3 sm3 2 (kq hs2 sm2 2 (kq hs1 sm1 2 (D2.k (D1.k p2)))))))); have o22 := OwnP.k0 (OwnP.kl (OwnP.kl (OwnP.kl (OwnP.kl (OwnP.kl o4 hs2) hs3) hs4) hs5) hs6) D3.stp; have o23 := ChnU.k0 o20 D3.stp; have o24 := Own.k0 (Own.kl (Own.kl (Own.kl (Own.kl (Own.kl o6 hs2) hs3) hs4) hs5) hs6) D3.stp; refine tn ?_
 refine cond_t (D3.m 1 rfl) (fun c1 => (by cases c1)) (fun _ => ?_)
 refine wp_skip (tn (wp_seq ?_))
 refine gI a9 s9 ok9 (gM q37 (gM q39 (gE2 ok9 fun a10 s10 ok10 D4 => ?_))); have o25 := OwnP.k0 o22 D4.stp; have o26 := ChnU.k0 o23 D4.stp; have o27 := Own.k0 o24 D4.stp
 refine tL ok10 (y_callL (L := []) [] [(41, 54), (42, 55), (43, 56)] _ rfl (by decide) Try.func17 rfl rfl my2 (gMake_fn (n) (S) _ (GW.low_lend _ (by decide)) _ _ (Ty.up _ (GW.le_lend _ _) (D4.m 0 rfl)) (Ty.up _ (GW.le_lend _ _) (D4.m 1 rfl))  (by first | omega | assumption) (by first | omega | assumption) (by first | omega | assumption))) fun a11 s11 hs7 ok11 r7 sm7 => ?_
 have F11 := ((F8.step0 D3.stp).step0 D4.stp).sl hs7; have o35 := ChnU.keepL o26 hs7 (by decide) (by decide)
 obtain ⟨t2, ⟨g3, g4, x4, x5, x6, hT2, o28, o29, o30, hp2⟩, B2⟩ := r7
 have q55 : At (Ty.tup2 (Ty.val x4) (Ty.int (0 : Int))) s11 a11 (.tmp 28) := Ty.up _ B2.le hT2
 have o31 : OwnP s11 54 x4 [(Ty.nat n), (Ty.val x6), (Ty.val x5)] := OwnP.ren o28 (B2.ren (by decide) rfl)
 have o32 : ChnU s11 55 22 108 x5 n (g3) (g4) := ChnU.ren o29 (B2.ren (by decide) rfl)
 have o33 : Own s11 56 22 1 x6 (List.length (S)) (List.map Ty.ints (S)) := Own.ren o30 (B2.ren (by decide) rfl)
 refine tL ok11 (Yld.toL (y_mv q55)) fun a12 s12 hs8 ok12 r8 sm8 => ?_
 have F12 := F11.sl hs8; have o38 := ChnU.keepL o35 hs8 (by decide) (by decide); have o41 := ChnU.keepL o32 hs8 (by decide) (by decide)
 have q61 : At (Ty.tup2 (Ty.val x4) (Ty.int (0 : Int))) s12 a12 (.tmp 25) := r8
 clear r8
 refine tL (R := (fun v τ => Pr.has (Ty.pr (Ty.val x4)) τ v)) ok12 (Yld.toL (y_ext2_0 q61)) fun a13 s13 hs9 ok13 r9 sm9 => ?_
 have F13 := F12.sl hs9; have o44 := ChnU.keepL o38 hs9 (by decide) (by decide); have o47 := ChnU.keepL o41 hs9 (by decide) (by decide)
 have q68 : At (Ty.val x4) s13 a13 (.tmp 29) := r9
 clear r9
 refine tL (R := (fun v τ => Pr.has (Ty.pr (Ty.int (0 : Int))) τ v)) ok13 (Yld.toL (y_ext2_1 (kq hs9 sm9 25 q61))) fun a14 s14 hs10 ok14 r10 sm10 => ?_
 have F14 := F13.sl hs10; have o50 := ChnU.keepL o44 hs10 (by decide) (by decide); have o53 := ChnU.keepL o47 hs10 (by decide) (by decide)
 have q75 : At (Ty.int (0 : Int)) s14 a14 (.tmp 30) := r10
 clear r10
 refine tL ok14 (Yld.toL (y_as (kq hs10 sm10 29 q68))) fun a15 s15 hs11 ok15 r11 sm11 => ?_
 have F15 := F14.sl hs11; have q80 := kq hs11 sm11 9 (kq hs10 sm10 9 (kq hs9 sm9 9 (kq hs8 sm8 9 (kq hs7 sm7 9 (D4.k (D3.k q36)))))); have o56 := ChnU.keepL o50 hs11 (by decide) (by decide); have o59 := ChnU.keepL o53 hs11 (by decide) (by decide)
 have q82 : At (Ty.val x4) s15 a15 (.tmp 10) := r11
 clear r11
 refine tL ok15 (Yld.toL (y_as (kq hs11 sm11 30 q75))) fun a16 s16 hs12 ok16 r12 sm12 => ?_
 have F16 := F15.sl hs12; have o62 := ChnU.keepL o56 hs12 (by decide) (by decide); have o65 := ChnU.keepL o59 hs12 (by decide) (by decide)
 have q88 : At (Ty.int (0 : Int)) s16 a16 (.tmp 9) := r12
 clear r12; refine wpList_nil (tn (wp_seq (wp_seq ?_)))
 refine gI a16 s16 ok16 (gM q88 (gT (Ty.bool false) rfl (fun A B E H I d0 => rP ((y_neq (ef d0 rfl) rfl).mono (fun τ _ h => cvb (σ := τ) (by decide) h))) (gE ok16 fun a17 s17 ok17 D5 => ?_))); have o67 := OwnP.k0 (OwnP.kl (OwnP.kl (OwnP.kl (OwnP.kl (OwnP.kl (OwnP.kl o25 hs7) hs8) hs9) hs10) hs11) hs12) D5.stp; have o68 := ChnU.k0 o62 D5.stp; have o69 := Own.k0 (Own.kl (Own.kl (Own.kl (Own.kl (Own.kl (Own.kl o27 hs7) hs8) hs9) hs10) hs11) hs12) D5.stp; have o70 := OwnP.k0 (OwnP.kl (OwnP.kl (OwnP.kl (OwnP.kl (OwnP.kl o31 hs8) hs9) hs10) hs11) hs12) D5.stp; have o71 := ChnU.k0 o65 D5.stp; have o72 := Own.k0 (Own.kl (Own.kl (Own.kl (Own.kl (Own.kl o33 hs8) hs9) hs10) hs11) hs12) D5.stp; refine tn ?_
 refine cond_t (D5.m 1 rfl) (fun c2 => (by cases c2)) (fun _ => ?_)
 refine wp_skip (tn (wp_seq (wp_seq ?_)))
 refine gI a17 s17 ok17 (gM (D5.k (kq hs12 sm12 2 (kq hs11 sm11 2 (kq hs10 sm10 2 (kq hs9 sm9 2 (kq hs8 sm8 2 (kq hs7 sm7 2 (D4.k q39)))))))) (gS rfl (fun A B E H I d0 => rP (y_len Try.underlying24 (ef d0 rfl))) (gT (Ty.int (0 : Int)) rfl (fun A B E H I => rP (y_move rfl)) (gE ok17 fun a18 s18 ok18 D6 => ?_)))); have o73 := OwnP.k0 o67 D6.stp; have o74 := ChnU.k0 o68 D6.stp; have o75 := Own.k0 o69 D6.stp; have o76 := OwnP.k0 o70 D6.stp; have o77 := ChnU.k0 o71 D6.stp; have o78 := Own.k0 o72 D6.stp; refine tn (wp_block ?_)
 refine loop (fun n1 a19 w1 => ∃ (t3 : GW) (i : Nat), t3.w = w1 ∧ FromL [] s0 t3 ∧ Ok 76 [] a19 ∧ At (Ty.nat i) t3 a19 (.tmp 36) ∧ At (Ty.nat n) t3 a19 (.tmp 0) ∧ At (Ty.lst Ty.ints G) t3 a19 (.tmp 1) ∧ At (Ty.val x1) t3 a19 (.tmp 8) ∧ At (Ty.val x4) t3 a19 (.tmp 10) ∧ At (Ty.lst Ty.ints S) t3 a19 (.tmp 34) ∧ At (Ty.nat (List.length S)) t3 a19 (.tmp 35) ∧ OwnP t3 51 x1 [(Ty.nat n), (Ty.val x3), (Ty.val x2)] ∧ ChnU t3 52 22 108 x2 n (g1) (g2) ∧ Own t3 53 22 1 x3 (List.length (G)) (List.map Ty.ints (G)) ∧ OwnP t3 54 x4 [(Ty.nat n), (Ty.val x6), (Ty.val x5)] ∧ ChnU t3 55 22 108 x5 n (g3) (g4) ∧ Own t3 56 22 1 x6 (List.length (S)) (List.map Ty.ints (S)) ∧ (i ≤ S.length) ∧ (∀ a, a < i → Cl n (fun y => y ∈ G) (S.getD a [])) ∧ n1 = S.length - i) (S.length - (0)) ?_ ?_
 ·
  exact ⟨s18, 0, rfl, ((F16.step0 D5.stp).step0 D6.stp), ok18, (cvi (by (first | rfl | omega | (simp_all; done) | (simp_all; omega))) (D6.m 2 rfl)), (D6.k (D5.k (kq hs12 sm12 0 (kq hs11 sm11 0 (kq hs10 sm10 0 (kq hs9 sm9 0 (kq hs8 sm8 0 (kq hs7 sm7 0 (D4.k q37))))))))), (D6.k (D5.k (kq hs12 sm12 1 (kq hs11 sm11 1 (kq hs10 sm10 1 (kq hs9 sm9 1 (kq hs8 sm8 1 (kq hs7 sm7 1 (D4.k (D3.k (kq hs6 sm6 1 (kq hs5 sm5 1 (kq hs4 sm4 1 (kq hs3 sm3 1 (kq hs2 sm2 1 (kq hs1 sm1 1 (D2.k q2))))))))))))))))), (D6.k (D5.k (kq hs12 sm12 8 (kq hs11 sm11 8 (kq hs10 sm10 8 (kq hs9 sm9 8 (kq hs8 sm8 8 (kq hs7 sm7 8 (D4.k (D3.k (kq hs6 sm6 8 q31))))))))))), (D6.k (D5.k (kq hs12 sm12 10 q82))), (D6.m 0 rfl), (D6.m 1 rfl), o73, o74, o75, o76, o77, o78, by omega, fun j hj => absurd hj (Nat.not_lt_zero j), rfl⟩
 ·
  rintro n2 a20 w2 ⟨t4, i, rfl, F19, ok19, q103, q104, q105, q106, q107, q108, q109, o79, o80, o81, o82, o83, o84, hi, hA, rfl⟩
  refine wp_seq ?_
  refine gI a20 t4 ok19 (gS rfl (fun A B E H I => rP (y_lss (kp (I 36 rfl) E q103) (kp (I 35 rfl) E q109))) (gE ok19 fun a21 s19 ok20 D7 => ?_)); have q110 := D7.k q103; have q115 := D7.k q108; have o85 := OwnP.k0 o79 D7.stp; have o86 := ChnU.k0 o80 D7.stp; have o87 := Own.k0 o81 D7.stp; have o88 := OwnP.k0 o82 D7.stp; have o89 := ChnU.k0 o83 D7.stp; have o90 := Own.k0 o84 D7.stp; refine tn (wp_seq ?_)
  refine cond_p (p := (((i : Nat) : Int) < (((List.length S) : Nat) : Int))) (D7.m 0 rfl) (fun c3 => ?_) (fun c3 => ?_)
  ·
   have hir := hS _ (mem_atD [] (show i < S.length by omega)); have hw1 := hp1.wc
   refine wp_skip (tn (wp_seq (wp_block (wp_seq ?_))))
   refine gI a21 s19 ok20 (gT (Ty.ref [(Ty.lst Ty.int (S.getD i []))]) rfl (fun A B E H I => rP (y_index1 Try.underlying24 Try.inf22 (kp (I 34 rfl) E q115) (kp (I 36 rfl) E q110) (by omega) (lst_get Ty.ints S [] i (by omega)))) (gS rfl (fun A B E H I d0 => rP (y_load Try.underlying22 rfl (ef d0 rfl) rfl)) (gB 0 (gE ok20 fun a22 s20 ok21 D8 => ?_)))); have q121 := D8.k (D7.k q106); have o91 := OwnP.k0 o85 D8.stp; have o92 := ChnU.k0 o86 D8.stp; have o93 := Own.k0 o87 D8.stp; have o94 := OwnP.k0 o88 D8.stp; have o95 := ChnU.k0 o89 D8.stp; have o96 := Own.k0 o90 D8.stp; refine tn (wp_seq ?_)
   refine gI a22 s20 ok21 (gM q121 (gM (D8.m 2 rfl) (gE2 ok21 fun a23 s21 ok22 D9 => ?_))); have o97 := OwnP.k0 o91 D9.stp; have o98 := ChnU.k0 o92 D9.stp; have o99 := Own.k0 o93 D9.stp; have o100 := OwnP.k0 o94 D9.stp; have o101 := ChnU.k0 o95 D9.stp; have o102 := Own.k0 o96 D9.stp
   have q133 : At (Ty.val x1) s21 a23 (.tmp 41) := D9.done 0 (by decide)
   refine tL ok22 (y_callL (L := [41, 42]) [(51, 41), (52, 42)] [(41, 51), (42, 52)] #[a23.eval (.tmp 41), a23.eval (.tmp 42)] rfl (by decide) Try.func46 rfl rfl my2 (gHas_fn (x1) (x3) (x2) ((g2)) (n) ((g1)) ((S.getD i [])) _ (GW.low_lend _ (by decide)) _ _ (Ty.up _ (GW.le_lend _ _) q133) (Ty.up _ (GW.le_lend _ _) (D9.m 1 rfl)) (OwnP.ren o97 (GW.ren_lend _ _ (by decide) rfl)) (ChnU.ren (cvch (by (rfl)) o98) (GW.ren_lend _ _ (by decide) rfl)) (by first | omega | assumption))) fun a24 s22 hs13 ok23 r13 sm13 => ?_
   have F23 := (((F19.step0 D7.stp).step0 D8.stp).step0 D9.stp).sl hs13; have o109 := ChnU.keepL o101 hs13 (by decide) (by decide)
   obtain ⟨t5, ⟨hT3, o103, o104⟩, B3⟩ := r13
   have q142 : At (Ty.tup2 (Ty.bool (hasB n ((g1)) ((S.getD i [])))) (Ty.int (fitsE n ((S.getD i []))))) s22 a24 (.tmp 43) := Ty.up _ B3.le hT3
   have o105 : OwnP s22 51 x1 [(Ty.nat n), (Ty.val x3), (Ty.val x2)] := OwnP.ren o103 (B3.ren (by decide) rfl)
   have o106 : ChnU s22 52 22 108 x2 n ((g1)) ((g2)) := ChnU.ren o104 (B3.ren (by decide) rfl)
   refine tL ok23 (Yld.toL (y_mv q142)) fun a25 s23 hs14 ok24 r14 sm14 => ?_
   have F24 := F23.sl hs14; have o113 := ChnU.keepL o109 hs14 (by decide) (by decide); have o116 := ChnU.keepL o106 hs14 (by decide) (by decide)
   have q150 : At (Ty.tup2 (Ty.bool (hasB n ((g1)) ((S.getD i [])))) (Ty.int (fitsE n ((S.getD i []))))) s23 a25 (.tmp 40) := r14
   clear r14
   refine tL (R := (fun v τ => Pr.has (Ty.pr (Ty.bool (hasB n ((g1)) ((S.getD i []))))) τ v)) ok24 (Yld.toL (y_ext2_0 q150)) fun a26 s24 hs15 ok25 r15 sm15 => ?_
   have F25 := F24.sl hs15; have o119 := ChnU.keepL o113 hs15 (by decide) (by decide); have o122 := ChnU.keepL o116 hs15 (by decide) (by decide)
   have q159 : At (Ty.bool (hasB n ((g1)) ((S.getD i [])))) s24 a26 (.tmp 44) := r15
   clear r15
   refine tL (R := (fun v τ => Pr.has (Ty.pr (Ty.int (fitsE n ((S.getD i []))))) τ v)) ok25 (Yld.toL (y_ext2_1 (kq hs15 sm15 40 q150))) fun a27 s25 hs16 ok26 r16 sm16 => ?_
   have F26 := F25.sl hs16; have o125 := ChnU.keepL o119 hs16 (by decide) (by decide); have o128 := ChnU.keepL o122 hs16 (by decide) (by decide)
   have q168 : At (Ty.int (fitsE n ((S.getD i [])))) s25 a27 (.tmp 45) := r16
   clear r16
   refine tL ok26 (Yld.toL (y_as (kq hs16 sm16 44 q159))) fun a28 s26 hs17 ok27 r17 sm17 => ?_
   have F27 := F26.sl hs17; have o131 := ChnU.keepL o125 hs17 (by decide) (by decide); have o134 := ChnU.keepL o128 hs17 (by decide) (by decide)
   have q177 : At (Ty.bool (hasB n ((g1)) ((S.getD i [])))) s26 a28 (.tmp 13) := r17
   clear r17
   refine tL ok27 (Yld.toL (y_as (kq hs17 sm17 45 q168))) fun a29 s27 hs18 ok28 r18 sm18 => ?_
   have F28 := F27.sl hs18; have o137 := ChnU.keepL o131 hs18 (by decide) (by decide); have o140 := ChnU.keepL o134 hs18 (by decide) (by decide)
   have q186 : At (Ty.int (fitsE n ((S.getD i [])))) s27 a29 (.tmp 14) := r18
   clear r18; refine wpList_nil (tn (wp_seq ?_))
   refine gI a29 s27 ok28 (gM (kq hs18 sm18 13 q177) (gS rfl (fun A B E H I d0 => rP (y_not (ef d0 rfl))) (gE ok28 fun a30 s28 ok29 D10 => ?_))); have F29 := F28.step0 D10.stp; have o141 := Own.k0 (Own.kl (Own.kl (Own.kl (Own.kl (Own.kl (Own.kl o99 hs13) hs14) hs15) hs16) hs17) hs18) D10.stp; have o142 := OwnP.k0 (OwnP.kl (OwnP.kl (OwnP.kl (OwnP.kl (OwnP.kl (OwnP.kl o100 hs13) hs14) hs15) hs16) hs17) hs18) D10.stp; have o143 := ChnU.k0 o137 D10.stp; have o144 := Own.k0 (Own.kl (Own.kl (Own.kl (Own.kl (Own.kl (Own.kl o102 hs13) hs14) hs15) hs16) hs17) hs18) D10.stp; have o145 := OwnP.k0 (OwnP.kl (OwnP.kl (OwnP.kl (OwnP.kl (OwnP.kl o105 hs14) hs15) hs16) hs17) hs18) D10.stp; have o146 := ChnU.k0 o140 D10.stp; refine tn ?_
   refine cond_t (D10.m 1 rfl) (fun c4 => ?_) (fun c4 => ?_)
   ·
    have hci : ¬ Cl n (fun y => y ∈ G) (S.getD i []) := (fun h_ => by have h2_ := (has_iff hp1 hir).2 h_; rw [h2_] at c4; cases c4)
    refine wp_seq ?_
    refine gI a30 s28 ok29 (gC (Ty.val (Value.pointer none)) (gC (Ty.int (14 : Int)) (gE ok29 fun a31 s29 ok30 D11 => ?_))); have o147 := Own.k0 o141 D11.stp; have o148 := OwnP.k0 o142 D11.stp; have o149 := ChnU.k0 o143 D11.stp; have o150 := Own.k0 o144 D11.stp; have o151 := OwnP.k0 o145 D11.stp; have o152 := ChnU.k0 o146 D11.stp; refine tn (wp_ret (br (tr (tr (br (tr ?_))))))
    exact retL2 rfl ok30 (F29.step0 D11.stp) (hasT2 (D11.m 0 rfl) (D11.m 1 rfl))
   ·
    have hci : Cl n (fun y => y ∈ G) (S.getD i []) := (has_iff hp1 hir).1 (by simpa using c4)
    refine wp_skip (bn (tn ?_))
    refine gI a30 s28 ok29 (gT (Ty.nat (i + 1)) rfl (fun A B E H I => rP ((y_add (kp (I 36 rfl) E (D10.k (kq hs18 sm18 36 (kq hs17 sm17 36 (kq hs16 sm16 36 (kq hs15 sm15 36 (kq hs14 sm14 36 (kq hs13 sm13 36 (D9.k (D8.k q110)))))))))) rfl (w64 (by omega) (by omega))).mono (fun τ _ h => cvi (σ := τ) (by first | omega | exact (Int.natCast_mul _ _).symm) h))) (gS rfl (fun A B E H I d0 => rP (y_move (ef d0 rfl))) (gE ok29 fun a32 s30 ok31 D12 => ?_))); have o153 := Own.k0 o141 D12.stp; have o154 := OwnP.k0 o142 D12.stp; have o155 := ChnU.k0 o143 D12.stp; have o156 := Own.k0 o144 D12.stp; have o157 := OwnP.k0 o145 D12.stp; have o158 := ChnU.k0 o146 D12.stp
    exact tn ⟨S.length - ((i+1)), by omega, s30, (i+1), rfl, (F29.step0 D12.stp), ok31, (cvi (by (first | rfl | omega | (simp_all; done) | (simp_all; omega))) (D12.m 1 rfl)), (D12.k (D10.k (kq hs18 sm18 0 (kq hs17 sm17 0 (kq hs16 sm16 0 (kq hs15 sm15 0 (kq hs14 sm14 0 (kq hs13 sm13 0 (D9.k (D8.k (D7.k q104))))))))))), (D12.k (D10.k (kq hs18 sm18 1 (kq hs17 sm17 1 (kq hs16 sm16 1 (kq hs15 sm15 1 (kq hs14 sm14 1 (kq hs13 sm13 1 (D9.k (D8.k (D7.k q105))))))))))), (D12.k (D10.k (kq hs18 sm18 8 (kq hs17 sm17 8 (kq hs16 sm16 8 (kq hs15 sm15 8 (kq hs14 sm14 8 (kq hs13 sm13 8 (D9.k q121))))))))), (D12.k (D10.k (kq hs18 sm18 10 (kq hs17 sm17 10 (kq hs16 sm16 10 (kq hs15 sm15 10 (kq hs14 sm14 10 (kq hs13 sm13 10 (D9.k (D8.k (D7.k q107))))))))))), (D12.k (D10.k (kq hs18 sm18 34 (kq hs17 sm17 34 (kq hs16 sm16 34 (kq hs15 sm15 34 (kq hs14 sm14 34 (kq hs13 sm13 34 (D9.k (D8.k q115)))))))))), (D12.k (D10.k (kq hs18 sm18 35 (kq hs17 sm17 35 (kq hs16 sm16 35 (kq hs15 sm15 35 (kq hs14 sm14 35 (kq hs13 sm13 35 (D9.k (D8.k (D7.k q109))))))))))), o157, o158, o153, o154, o155, o156, by omega, fun a ha => by (by_cases e : a = i; (subst e; exact hci); exact hA a (by omega)), rfl⟩
  ·
   exfalso
   obtain ⟨x_, hx1, hx2⟩ := hbad; obtain ⟨a_, ha_, rfl⟩ := List.getElem_of_mem hx1; refine hx2 ?_; have h_ := hA a_ (by omega); rwa [show S.getD a_ [] = S[a_] by simp [ha_]] at h_


set_option maxHeartbeats 4000000 in
set_option maxRecDepth 100000 in
theorem cMakD_fn (n : Nat) (G : List (List Int)) (S : List (List Int)) (σ : GW)  (v0 v1 v2 : Value) (hv0 : Ty.has (Ty.nat n) σ v0) (hv1 : Ty.has (Ty.lst Ty.ints G) σ v1) (hv2 : Ty.has (Ty.lst Ty.ints S) σ v2)  (hn : 1 ≤ n ∧ n ≤ 12) (hG : ∀ x ∈ G, RowN n x) (hGl : G.length ≤ 8) (hS : ∀ x ∈ S, RowN n x) (hSl : S.length ≤ 8) (hsub : ∀ x ∈ S, Cl n (fun y => y ∈ G) x) (hbad : 1000 < szTo n (fun y => y ∈ S) n ∨ 1000 < szTo n (fun y => y ∈ G) n / szTo n (fun y => y ∈ S) n) :
    FnC Try.prog 33 #[v0, v1, v2] σ (Ty.tup2 (Ty.val (Value.pointer none)) (Ty.int (3 : Int))) := by
 have hsb := fun S_ => szTo_bd (n := n) (S := S_) (k := n) hn.2
 have hsG := hsb (fun y => y ∈ G)
 have hsS := hsb (fun y => y ∈ S)
 have hpS : 0 < szTo n (fun y => y ∈ S) n := szTo_pos hn n (Nat.le_refl _)
 have hdv : szTo n (fun y => y ∈ G) n / szTo n (fun y => y ∈ S) n ≤ szTo n (fun y => y ∈ G) n := Nat.div_le_self _ _
 refine fn_intro0 Try.func33 rfl Try.ntmps33 (Nat.le_of_ble_eq_true rfl) (fun s0 a0 hle F0 ok0 hargs => ?_)
 have p0 := pA hle (hargs 0 _ rfl) hv0
 have p1 := pA hle (hargs 1 _ rfl) hv1
 have b1 := sl_le p1
 have p2 := pA hle (hargs 2 _ rfl) hv2
 have b2 := sl_le p2
 clear hargs; refine wp_seq ?_
 refine gI a0 s0 ok0 (gC (Ty.val (Value.pointer none)) (gC (Ty.int (0 : Int)) (gE ok0 fun a1 s1 ok1 D1 => ?_))); have q1 := D1.k p0; have q2 := D1.k p1; refine tn (wp_seq ?_)
 refine gI a1 s1 ok1 (gM q1 (gM q2 (gE2 ok1 fun a2 s2 ok2 D2 => ?_)))
 refine tL ok2 (y_callL (L := []) [] [(41, 51), (42, 52), (43, 53)] _ rfl (by decide) Try.func17 rfl rfl my2 (gMake_fn (n) (G) _ (GW.low_lend _ (by decide)) _ _ (Ty.up _ (GW.le_lend _ _) (D2.m 0 rfl)) (Ty.up _ (GW.le_lend _ _) (D2.m 1 rfl))  (by first | omega | assumption) (by first | omega | assumption) (by first | omega | assumption))) fun a3 s3 hs1 ok3 r1 sm1 => ?_
 have F3 := ((F0.step0 D1.stp).step0 D2.stp).sl hs1
 obtain ⟨t1, ⟨g1, g2, x1, x2, x3, hT1, o1, o2, o3, hp1⟩, B1⟩ := r1
 have q12 : At (Ty.tup2 (Ty.val x1) (Ty.int (0 : Int))) s3 a3 (.tmp 19) := Ty.up _ B1.le hT1
 have o4 : OwnP s3 51 x1 [(Ty.nat n), (Ty.val x3), (Ty.val x2)] := OwnP.ren o1 (B1.ren (by decide) rfl)
 have o5 : ChnU s3 52 22 108 x2 n (g1) (g2) := ChnU.ren o2 (B1.ren (by decide) rfl)
 have o6 : Own s3 53 22 1 x3 (List.length (G)) (List.map Ty.ints (G)) := Own.ren o3 (B1.ren (by decide) rfl)
 refine tL ok3 (Yld.toL (y_mv q12)) fun a4 s4 hs2 ok4 r2 sm2 => ?_
 have F4 := F3.sl hs2; have o8 := ChnU.keepL o5 hs2 (by decide) (by decide)
 have q16 : At (Ty.tup2 (Ty.val x1) (Ty.int (0 : Int))) s4 a4 (.tmp 16) := r2
 clear r2
 refine tL (R := (fun v τ => Pr.has (Ty.pr (Ty.val x1)) τ v)) ok4 (Yld.toL (y_ext2_0 q16)) fun a5 s5 hs3 ok5 r3 sm3 => ?_
 have F5 := F4.sl hs3; have o11 := ChnU.keepL o8 hs3 (by decide) (by decide)
 have q21 : At (Ty.val x1) s5 a5 (.tmp 20) := r3
 clear r3
 refine tL (R := (fun v τ => Pr.has (Ty.pr (Ty.int (0 : Int))) τ v)) ok5 (Yld.toL (y_ext2_1 (kq hs3 sm3 16 q16))) fun a6 s6 hs4 ok6 r4 sm4 => ?_
 have F6 := F5.sl hs4; have o14 := ChnU.keepL o11 hs4 (by decide) (by decide)
 have q26 : At (Ty.int (0 : Int)) s6 a6 (.tmp 21) := r4
 clear r4
 refine tL ok6 (Yld.toL (y_as (kq hs4 sm4 20 q21))) fun a7 s7 hs5 ok7 r5 sm5 => ?_
 have F7 := F6.sl hs5; have o17 := ChnU.keepL o14 hs5 (by decide) (by decide)
 have q31 : At (Ty.val x1) s7 a7 (.tmp 8) := r5
 clear r5
 refine tL ok7 (Yld.toL (y_as (kq hs5 sm5 21 q26))) fun a8 s8 hs6 ok8 r6 sm6 => ?_
 have F8 := F7.sl hs6; have o20 := ChnU.keepL o17 hs6 (by decide) (by decide)
 have q36 : At (Ty.int (0 : Int)) s8 a8 (.tmp 9) := r6
 clear r6; refine wpList_nil (tn (wp_seq (wp_seq ?_)))
 refine gI a8 s8 ok8 (gM q36 (gT (Ty.bool false) rfl (fun A B E H I d0 => rP ((y_neq (ef d0 rfl) rfl).mono (fun τ _ h => cvb (σ := τ) (by decide) h))) (gE ok8 fun a9 s9 ok9 D3 => ?_))); have q37 := D3.k (kq hs6 sm6 0 (kq hs5 sm5 0 (kq hs4 sm4 0 (kq hs3 sm3 0 (kq hs2 sm2 0 (kq hs1 sm1 0 (D2.k q1))))))); have q39 := D3.k (kq hs6 sm6 2 (kq hs5 sm5 2 (kq hs4 sm4 2 (kq hs3 sm3 2 (kq hs2 sm2 2 (kq hs1 sm1 2 (D2.k (D1.k p2)))))))); have o22 := OwnP.k0 (OwnP.kl (OwnP.kl (OwnP.kl (OwnP.kl (OwnP.kl o4 hs2) hs3) hs4) hs5) hs6) D3.stp; have o23 := ChnU.k0 o20 D3.stp; have o24 := Own.k0 (Own.kl (Own.kl (Own.kl (Own.kl (Own.kl o6 hs2) hs3) hs4) hs5) hs6) D3.stp; refine tn ?_
 refine cond_t (D3.m 1 rfl) (fun c1 => (by cases c1)) (fun _ => ?_)
 refine wp_skip (tn (wp_seq ?_))
 refine gI a9 s9 ok9 (gM q37 (gM q39 (gE2 ok9 fun a10 s10 ok10 D4 => ?_))); have o25 := OwnP.k0 o22 D4.stp; have o26 := ChnU.k0 o23 D4.stp; have o27 := Own.k0 o24 D4.stp
 refine tL ok10 (y_callL (L := []) [] [(41, 54), (42, 55), (43, 56)] _ rfl (by decide) Try.func17 rfl rfl my2 (gMake_fn (n) (S) _ (GW.low_lend _ (by decide)) _ _ (Ty.up _ (GW.le_lend _ _) (D4.m 0 rfl)) (Ty.up _ (GW.le_lend _ _) (D4.m 1 rfl))  (by first | omega | assumption) (by first | omega | assumption) (by first | omega | assumption))) fun a11 s11 hs7 ok11 r7 sm7 => ?_
 have F11 := ((F8.step0 D3.stp).step0 D4.stp).sl hs7; have o35 := ChnU.keepL o26 hs7 (by decide) (by decide)
 obtain ⟨t2, ⟨g3, g4, x4, x5, x6, hT2, o28, o29, o30, hp2⟩, B2⟩ := r7
 have q55 : At (Ty.tup2 (Ty.val x4) (Ty.int (0 : Int))) s11 a11 (.tmp 28) := Ty.up _ B2.le hT2
 have o31 : OwnP s11 54 x4 [(Ty.nat n), (Ty.val x6), (Ty.val x5)] := OwnP.ren o28 (B2.ren (by decide) rfl)
 have o32 : ChnU s11 55 22 108 x5 n (g3) (g4) := ChnU.ren o29 (B2.ren (by decide) rfl)
 have o33 : Own s11 56 22 1 x6 (List.length (S)) (List.map Ty.ints (S)) := Own.ren o30 (B2.ren (by decide) rfl)
 refine tL ok11 (Yld.toL (y_mv q55)) fun a12 s12 hs8 ok12 r8 sm8 => ?_
 have F12 := F11.sl hs8; have o38 := ChnU.keepL o35 hs8 (by decide) (by decide); have o41 := ChnU.keepL o32 hs8 (by decide) (by decide)
 have q61 : At (Ty.tup2 (Ty.val x4) (Ty.int (0 : Int))) s12 a12 (.tmp 25) := r8
 clear r8
 refine tL (R := (fun v τ => Pr.has (Ty.pr (Ty.val x4)) τ v)) ok12 (Yld.toL (y_ext2_0 q61)) fun a13 s13 hs9 ok13 r9 sm9 => ?_
 have F13 := F12.sl hs9; have o44 := ChnU.keepL o38 hs9 (by decide) (by decide); have o47 := ChnU.keepL o41 hs9 (by decide) (by decide)
 have q68 : At (Ty.val x4) s13 a13 (.tmp 29) := r9
 clear r9
 refine tL (R := (fun v τ => Pr.has (Ty.pr (Ty.int (0 : Int))) τ v)) ok13 (Yld.toL (y_ext2_1 (kq hs9 sm9 25 q61))) fun a14 s14 hs10 ok14 r10 sm10 => ?_
 have F14 := F13.sl hs10; have o50 := ChnU.keepL o44 hs10 (by decide) (by decide); have o53 := ChnU.keepL o47 hs10 (by decide) (by decide)
 have q75 : At (Ty.int (0 : Int)) s14 a14 (.tmp 30) := r10
 clear r10
 refine tL ok14 (Yld.toL (y_as (kq hs10 sm10 29 q68))) fun a15 s15 hs11 ok15 r11 sm11 => ?_
 have F15 := F14.sl hs11; have q80 := kq hs11 sm11 9 (kq hs10 sm10 9 (kq hs9 sm9 9 (kq hs8 sm8 9 (kq hs7 sm7 9 (D4.k (D3.k q36)))))); have o56 := ChnU.keepL o50 hs11 (by decide) (by decide); have o59 := ChnU.keepL o53 hs11 (by decide) (by decide)
 have q82 : At (Ty.val x4) s15 a15 (.tmp 10) := r11
 clear r11
 refine tL ok15 (Yld.toL (y_as (kq hs11 sm11 30 q75))) fun a16 s16 hs12 ok16 r12 sm12 => ?_
 have F16 := F15.sl hs12; have o62 := ChnU.keepL o56 hs12 (by decide) (by decide); have o65 := ChnU.keepL o59 hs12 (by decide) (by decide)
 have q88 : At (Ty.int (0 : Int)) s16 a16 (.tmp 9) := r12
 clear r12; refine wpList_nil (tn (wp_seq (wp_seq ?_)))
 refine gI a16 s16 ok16 (gM q88 (gT (Ty.bool false) rfl (fun A B E H I d0 => rP ((y_neq (ef d0 rfl) rfl).mono (fun τ _ h => cvb (σ := τ) (by decide) h))) (gE ok16 fun a17 s17 ok17 D5 => ?_))); have o67 := OwnP.k0 (OwnP.kl (OwnP.kl (OwnP.kl (OwnP.kl (OwnP.kl (OwnP.kl o25 hs7) hs8) hs9) hs10) hs11) hs12) D5.stp; have o68 := ChnU.k0 o62 D5.stp; have o69 := Own.k0 (Own.kl (Own.kl (Own.kl (Own.kl (Own.kl (Own.kl o27 hs7) hs8) hs9) hs10) hs11) hs12) D5.stp; have o70 := OwnP.k0 (OwnP.kl (OwnP.kl (OwnP.kl (OwnP.kl (OwnP.kl o31 hs8) hs9) hs10) hs11) hs12) D5.stp; have o71 := ChnU.k0 o65 D5.stp; have o72 := Own.k0 (Own.kl (Own.kl (Own.kl (Own.kl (Own.kl o33 hs8) hs9) hs10) hs11) hs12) D5.stp; refine tn ?_
 refine cond_t (D5.m 1 rfl) (fun c2 => (by cases c2)) (fun _ => ?_)
 refine wp_skip (tn (wp_seq (wp_seq ?_)))
 refine gI a17 s17 ok17 (gM (D5.k (kq hs12 sm12 2 (kq hs11 sm11 2 (kq hs10 sm10 2 (kq hs9 sm9 2 (kq hs8 sm8 2 (kq hs7 sm7 2 (D4.k q39)))))))) (gS rfl (fun A B E H I d0 => rP (y_len Try.underlying24 (ef d0 rfl))) (gT (Ty.int (0 : Int)) rfl (fun A B E H I => rP (y_move rfl)) (gE ok17 fun a18 s18 ok18 D6 => ?_)))); have o73 := OwnP.k0 o67 D6.stp; have o74 := ChnU.k0 o68 D6.stp; have o75 := Own.k0 o69 D6.stp; have o76 := OwnP.k0 o70 D6.stp; have o77 := ChnU.k0 o71 D6.stp; have o78 := Own.k0 o72 D6.stp; refine tn (wp_block ?_)
 refine loop (fun n1 a19 w1 => ∃ (t3 : GW) (i : Nat), t3.w = w1 ∧ FromL [] s0 t3 ∧ Ok 76 [] a19 ∧ At (Ty.nat i) t3 a19 (.tmp 36) ∧ At (Ty.nat n) t3 a19 (.tmp 0) ∧ At (Ty.lst Ty.ints G) t3 a19 (.tmp 1) ∧ At (Ty.val x1) t3 a19 (.tmp 8) ∧ At (Ty.val x4) t3 a19 (.tmp 10) ∧ At (Ty.lst Ty.ints S) t3 a19 (.tmp 34) ∧ At (Ty.nat (List.length S)) t3 a19 (.tmp 35) ∧ OwnP t3 51 x1 [(Ty.nat n), (Ty.val x3), (Ty.val x2)] ∧ ChnU t3 52 22 108 x2 n (g1) (g2) ∧ Own t3 53 22 1 x3 (List.length (G)) (List.map Ty.ints (G)) ∧ OwnP t3 54 x4 [(Ty.nat n), (Ty.val x6), (Ty.val x5)] ∧ ChnU t3 55 22 108 x5 n (g3) (g4) ∧ Own t3 56 22 1 x6 (List.length (S)) (List.map Ty.ints (S)) ∧ (i ≤ S.length) ∧ (∀ a, a < i → Cl n (fun y => y ∈ G) (S.getD a [])) ∧ n1 = S.length - i) (S.length - (0)) ?_ ?_
 ·
  exact ⟨s18, 0, rfl, ((F16.step0 D5.stp).step0 D6.stp), ok18, (cvi (by (first | rfl | omega | (simp_all; done) | (simp_all; omega))) (D6.m 2 rfl)), (D6.k (D5.k (kq hs12 sm12 0 (kq hs11 sm11 0 (kq hs10 sm10 0 (kq hs9 sm9 0 (kq hs8 sm8 0 (kq hs7 sm7 0 (D4.k q37))))))))), (D6.k (D5.k (kq hs12 sm12 1 (kq hs11 sm11 1 (kq hs10 sm10 1 (kq hs9 sm9 1 (kq hs8 sm8 1 (kq hs7 sm7 1 (D4.k (D3.k (kq hs6 sm6 1 (kq hs5 sm5 1 (kq hs4 sm4 1 (kq hs3 sm3 1 (kq hs2 sm2 1 (kq hs1 sm1 1 (D2.k q2))))))))))))))))), (D6.k (D5.k (kq hs12 sm12 8 (kq hs11 sm11 8 (kq hs10 sm10 8 (kq hs9 sm9 8 (kq hs8 sm8 8 (kq hs7 sm7 8 (D4.k (D3.k (kq hs6 sm6 8 q31))))))))))), (D6.k (D5.k (kq hs12 sm12 10 q82))), (D6.m 0 rfl), (D6.m 1 rfl), o73, o74, o75, o76, o77, o78, by omega, fun j hj => absurd hj (Nat.not_lt_zero j), rfl⟩
 ·
  rintro n2 a20 w2 ⟨t4, i, rfl, F19, ok19, q103, q104, q105, q106, q107, q108, q109, o79, o80, o81, o82, o83, o84, hi, hA, rfl⟩
  refine wp_seq ?_
  refine gI a20 t4 ok19 (gS rfl (fun A B E H I => rP (y_lss (kp (I 36 rfl) E q103) (kp (I 35 rfl) E q109))) (gE ok19 fun a21 s19 ok20 D7 => ?_)); have F20 := F19.step0 D7.stp; have q110 := D7.k q103; have q111 := D7.k q104; have q112 := D7.k q105; have q113 := D7.k q106; have q114 := D7.k q107; have q115 := D7.k q108; have o85 := OwnP.k0 o79 D7.stp; have o86 := ChnU.k0 o80 D7.stp; have o87 := Own.k0 o81 D7.stp; have o88 := OwnP.k0 o82 D7.stp; have o89 := ChnU.k0 o83 D7.stp; have o90 := Own.k0 o84 D7.stp; refine tn (wp_seq ?_)
  refine cond_p (p := (((i : Nat) : Int) < (((List.length S) : Nat) : Int))) (D7.m 0 rfl) (fun c3 => ?_) (fun c3 => ?_)
  ·
   have hir := hS _ (mem_atD [] (show i < S.length by omega)); have hw1 := hp1.wc
   refine wp_skip (tn (wp_seq (wp_block (wp_seq ?_))))
   refine gI a21 s19 ok20 (gT (Ty.ref [(Ty.lst Ty.int (S.getD i []))]) rfl (fun A B E H I => rP (y_index1 Try.underlying24 Try.inf22 (kp (I 34 rfl) E q115) (kp (I 36 rfl) E q110) (by omega) (lst_get Ty.ints S [] i (by omega)))) (gS rfl (fun A B E H I d0 => rP (y_load Try.underlying22 rfl (ef d0 rfl) rfl)) (gB 0 (gE ok20 fun a22 s20 ok21 D8 => ?_)))); have q121 := D8.k q113; have o91 := OwnP.k0 o85 D8.stp; have o92 := ChnU.k0 o86 D8.stp; have o93 := Own.k0 o87 D8.stp; have o94 := OwnP.k0 o88 D8.stp; have o95 := ChnU.k0 o89 D8.stp; have o96 := Own.k0 o90 D8.stp; refine tn (wp_seq ?_)
   refine gI a22 s20 ok21 (gM q121 (gM (D8.m 2 rfl) (gE2 ok21 fun a23 s21 ok22 D9 => ?_))); have o97 := OwnP.k0 o91 D9.stp; have o98 := ChnU.k0 o92 D9.stp; have o99 := Own.k0 o93 D9.stp; have o100 := OwnP.k0 o94 D9.stp; have o101 := ChnU.k0 o95 D9.stp; have o102 := Own.k0 o96 D9.stp
   have q133 : At (Ty.val x1) s21 a23 (.tmp 41) := D9.done 0 (by decide)
   refine tL ok22 (y_callL (L := [41, 42]) [(51, 41), (52, 42)] [(41, 51), (42, 52)] #[a23.eval (.tmp 41), a23.eval (.tmp 42)] rfl (by decide) Try.func46 rfl rfl my2 (gHas_fn (x1) (x3) (x2) ((g2)) (n) ((g1)) ((S.getD i [])) _ (GW.low_lend _ (by decide)) _ _ (Ty.up _ (GW.le_lend _ _) q133) (Ty.up _ (GW.le_lend _ _) (D9.m 1 rfl)) (OwnP.ren o97 (GW.ren_lend _ _ (by decide) rfl)) (ChnU.ren (cvch (by (rfl)) o98) (GW.ren_lend _ _ (by decide) rfl)) (by first | omega | assumption))) fun a24 s22 hs13 ok23 r13 sm13 => ?_
   have F23 := ((F20.step0 D8.stp).step0 D9.stp).sl hs13; have o109 := ChnU.keepL o101 hs13 (by decide) (by decide)
   obtain ⟨t5, ⟨hT3, o103, o104⟩, B3⟩ := r13
   have q142 : At (Ty.tup2 (Ty.bool (hasB n ((g1)) ((S.getD i [])))) (Ty.int (fitsE n ((S.getD i []))))) s22 a24 (.tmp 43) := Ty.up _ B3.le hT3
   have o105 : OwnP s22 51 x1 [(Ty.nat n), (Ty.val x3), (Ty.val x2)] := OwnP.ren o103 (B3.ren (by decide) rfl)
   have o106 : ChnU s22 52 22 108 x2 n ((g1)) ((g2)) := ChnU.ren o104 (B3.ren (by decide) rfl)
   refine tL ok23 (Yld.toL (y_mv q142)) fun a25 s23 hs14 ok24 r14 sm14 => ?_
   have F24 := F23.sl hs14; have o113 := ChnU.keepL o109 hs14 (by decide) (by decide); have o116 := ChnU.keepL o106 hs14 (by decide) (by decide)
   have q150 : At (Ty.tup2 (Ty.bool (hasB n ((g1)) ((S.getD i [])))) (Ty.int (fitsE n ((S.getD i []))))) s23 a25 (.tmp 40) := r14
   clear r14
   refine tL (R := (fun v τ => Pr.has (Ty.pr (Ty.bool (hasB n ((g1)) ((S.getD i []))))) τ v)) ok24 (Yld.toL (y_ext2_0 q150)) fun a26 s24 hs15 ok25 r15 sm15 => ?_
   have F25 := F24.sl hs15; have o119 := ChnU.keepL o113 hs15 (by decide) (by decide); have o122 := ChnU.keepL o116 hs15 (by decide) (by decide)
   have q159 : At (Ty.bool (hasB n ((g1)) ((S.getD i [])))) s24 a26 (.tmp 44) := r15
   clear r15
   refine tL (R := (fun v τ => Pr.has (Ty.pr (Ty.int (fitsE n ((S.getD i []))))) τ v)) ok25 (Yld.toL (y_ext2_1 (kq hs15 sm15 40 q150))) fun a27 s25 hs16 ok26 r16 sm16 => ?_
   have F26 := F25.sl hs16; have o125 := ChnU.keepL o119 hs16 (by decide) (by decide); have o128 := ChnU.keepL o122 hs16 (by decide) (by decide)
   have q168 : At (Ty.int (fitsE n ((S.getD i [])))) s25 a27 (.tmp 45) := r16
   clear r16
   refine tL ok26 (Yld.toL (y_as (kq hs16 sm16 44 q159))) fun a28 s26 hs17 ok27 r17 sm17 => ?_
   have F27 := F26.sl hs17; have o131 := ChnU.keepL o125 hs17 (by decide) (by decide); have o134 := ChnU.keepL o128 hs17 (by decide) (by decide)
   have q177 : At (Ty.bool (hasB n ((g1)) ((S.getD i [])))) s26 a28 (.tmp 13) := r17
   clear r17
   refine tL ok27 (Yld.toL (y_as (kq hs17 sm17 45 q168))) fun a29 s27 hs18 ok28 r18 sm18 => ?_
   have F28 := F27.sl hs18; have o137 := ChnU.keepL o131 hs18 (by decide) (by decide); have o140 := ChnU.keepL o134 hs18 (by decide) (by decide)
   have q186 : At (Ty.int (fitsE n ((S.getD i [])))) s27 a29 (.tmp 14) := r18
   clear r18; refine wpList_nil (tn (wp_seq ?_))
   refine gI a29 s27 ok28 (gM (kq hs18 sm18 13 q177) (gS rfl (fun A B E H I d0 => rP (y_not (ef d0 rfl))) (gE ok28 fun a30 s28 ok29 D10 => ?_))); have o141 := Own.k0 (Own.kl (Own.kl (Own.kl (Own.kl (Own.kl (Own.kl o99 hs13) hs14) hs15) hs16) hs17) hs18) D10.stp; have o142 := OwnP.k0 (OwnP.kl (OwnP.kl (OwnP.kl (OwnP.kl (OwnP.kl (OwnP.kl o100 hs13) hs14) hs15) hs16) hs17) hs18) D10.stp; have o143 := ChnU.k0 o137 D10.stp; have o144 := Own.k0 (Own.kl (Own.kl (Own.kl (Own.kl (Own.kl (Own.kl o102 hs13) hs14) hs15) hs16) hs17) hs18) D10.stp; have o145 := OwnP.k0 (OwnP.kl (OwnP.kl (OwnP.kl (OwnP.kl (OwnP.kl o105 hs14) hs15) hs16) hs17) hs18) D10.stp; have o146 := ChnU.k0 o140 D10.stp; refine tn ?_
   refine cond_t (D10.m 1 rfl) (fun c4 => ?_) (fun c4 => ?_)
   ·
    exfalso
    have hci : ¬ Cl n (fun y => y ∈ G) (S.getD i []) := (fun h_ => by have h2_ := (has_iff hp1 hir).2 h_; rw [h2_] at c4; cases c4); exact hci (hsub _ (mem_atD [] (show i < S.length by omega)))
   ·
    have hci : Cl n (fun y => y ∈ G) (S.getD i []) := (has_iff hp1 hir).1 (by simpa using c4)
    refine wp_skip (bn (tn ?_))
    refine gI a30 s28 ok29 (gT (Ty.nat (i + 1)) rfl (fun A B E H I => rP ((y_add (kp (I 36 rfl) E (D10.k (kq hs18 sm18 36 (kq hs17 sm17 36 (kq hs16 sm16 36 (kq hs15 sm15 36 (kq hs14 sm14 36 (kq hs13 sm13 36 (D9.k (D8.k q110)))))))))) rfl (w64 (by omega) (by omega))).mono (fun τ _ h => cvi (σ := τ) (by first | omega | exact (Int.natCast_mul _ _).symm) h))) (gS rfl (fun A B E H I d0 => rP (y_move (ef d0 rfl))) (gE ok29 fun a31 s29 ok30 D11 => ?_))); have o147 := Own.k0 o141 D11.stp; have o148 := OwnP.k0 o142 D11.stp; have o149 := ChnU.k0 o143 D11.stp; have o150 := Own.k0 o144 D11.stp; have o151 := OwnP.k0 o145 D11.stp; have o152 := ChnU.k0 o146 D11.stp
    exact tn ⟨S.length - ((i+1)), by omega, s29, (i+1), rfl, ((F28.step0 D10.stp).step0 D11.stp), ok30, (cvi (by (first | rfl | omega | (simp_all; done) | (simp_all; omega))) (D11.m 1 rfl)), (D11.k (D10.k (kq hs18 sm18 0 (kq hs17 sm17 0 (kq hs16 sm16 0 (kq hs15 sm15 0 (kq hs14 sm14 0 (kq hs13 sm13 0 (D9.k (D8.k q111)))))))))), (D11.k (D10.k (kq hs18 sm18 1 (kq hs17 sm17 1 (kq hs16 sm16 1 (kq hs15 sm15 1 (kq hs14 sm14 1 (kq hs13 sm13 1 (D9.k (D8.k q112)))))))))), (D11.k (D10.k (kq hs18 sm18 8 (kq hs17 sm17 8 (kq hs16 sm16 8 (kq hs15 sm15 8 (kq hs14 sm14 8 (kq hs13 sm13 8 (D9.k q121))))))))), (D11.k (D10.k (kq hs18 sm18 10 (kq hs17 sm17 10 (kq hs16 sm16 10 (kq hs15 sm15 10 (kq hs14 sm14 10 (kq hs13 sm13 10 (D9.k (D8.k q114)))))))))), (D11.k (D10.k (kq hs18 sm18 34 (kq hs17 sm17 34 (kq hs16 sm16 34 (kq hs15 sm15 34 (kq hs14 sm14 34 (kq hs13 sm13 34 (D9.k (D8.k q115)))))))))), (D11.k (D10.k (kq hs18 sm18 35 (kq hs17 sm17 35 (kq hs16 sm16 35 (kq hs15 sm15 35 (kq hs14 sm14 35 (kq hs13 sm13 35 (D9.k (D8.k (D7.k q109))))))))))), o151, o152, o147, o148, o149, o150, by omega, fun a ha => by (by_cases e : a = i; (subst e; exact hci); exact hA a (by omega)), rfl⟩
  ·
   have ei : i = S.length := (by omega)
   refine wp_exit (tx (tx (bx (tn (wp_seq (wp_seq ?_))))))
   refine gI a21 s19 ok20 (gE2 ok20 fun a32 s30 ok31 D12 => ?_); have q205 := D12.k q114; have o153 := OwnP.k0 o85 D12.stp; have o154 := ChnU.k0 o86 D12.stp; have o155 := Own.k0 o87 D12.stp; have o156 := OwnP.k0 o88 D12.stp; have o157 := ChnU.k0 o89 D12.stp; have o158 := Own.k0 o90 D12.stp
   refine tL ok31 (Yld.toL (y_mv q205)) fun a33 s31 hs19 ok32 r19 sm19 => ?_
   have F32 := (F20.step0 D12.stp).sl hs19; have o160 := ChnU.keepL o154 hs19 (by decide) (by decide); have o163 := ChnU.keepL o157 hs19 (by decide) (by decide)
   have q210 : At (Ty.val x4) s31 a33 (.tmp 49) := r19
   clear r19
   refine tL ok32 (y_callL (L := [41, 42, 43]) [(54, 41), (55, 42), (56, 43)] [(41, 54), (42, 55), (43, 56)] #[a33.eval (.tmp 49)] rfl (by decide) Try.func42 rfl rfl my1 (gSize_fn (x4) (x6) (x5) ((g4)) (n) ((g3)) ((S)) _ (GW.low_lend _ (by decide)) _ (Ty.up _ (GW.le_lend _ _) q210) (OwnP.ren (OwnP.kl o156 hs19) (GW.ren_lend _ _ (by decide) rfl)) (ChnU.ren (cvch (by (rfl)) o163) (GW.ren_lend _ _ (by decide) rfl)) (Own.ren (cvo (by (simp)) (by (simp)) (Own.kl o158 hs19)) (GW.ren_lend _ _ (by decide) rfl)) (by first | omega | assumption) (by first | omega | assumption))) fun a34 s32 hs20 ok33 r20 sm20 => ?_
   have F33 := F32.sl hs20; have o172 := ChnU.keepL o160 hs20 (by decide) (by decide)
   obtain ⟨t6, ⟨hT4, o165, o166, o167⟩, B4⟩ := r20
   have q215 : At (Ty.nat (szTo n (fun y => y ∈ ((S))) n)) s32 a34 (.tmp 50) := Ty.up _ B4.le hT4
   have o168 : OwnP s32 54 x4 [(Ty.nat n), (Ty.val x6), (Ty.val x5)] := OwnP.ren o165 (B4.ren (by decide) rfl)
   have o169 : ChnU s32 55 22 108 x5 n ((g3)) ((g4)) := ChnU.ren o166 (B4.ren (by decide) rfl)
   have o170 : Own s32 56 22 1 x6 (List.length ((S))) (List.map Ty.ints ((S))) := Own.ren o167 (B4.ren (by decide) rfl)
   refine tL (R := (fun v τ => Pr.has (Ty.pr (Ty.bool (decide ((1000 : Int) < (((szTo n (fun y => y ∈ ((S))) n) : Nat) : Int))))) τ v)) ok33 (Yld.toL (y_gtr q215 rfl)) fun a35 s33 hs21 ok34 r21 sm21 => ?_
   have F34 := F33.sl hs21; have o175 := ChnU.keepL o172 hs21 (by decide) (by decide); have o178 := ChnU.keepL o169 hs21 (by decide) (by decide)
   have q220 : At (Ty.bool (decide ((1000 : Int) < (((szTo n (fun y => y ∈ ((S))) n) : Nat) : Int)))) s33 a35 (.tmp 51) := r21
   clear r21
   refine tL ok34 (Yld.toL (y_mv q220)) fun a36 s34 hs22 ok35 r22 sm22 => ?_
   have F35 := F34.sl hs22; have q221 := kq hs22 sm22 0 (kq hs21 sm21 0 (kq hs20 sm20 0 (kq hs19 sm19 0 (D12.k q111)))); have q222 := kq hs22 sm22 1 (kq hs21 sm21 1 (kq hs20 sm20 1 (kq hs19 sm19 1 (D12.k q112)))); have q224 := kq hs22 sm22 10 (kq hs21 sm21 10 (kq hs20 sm20 10 (kq hs19 sm19 10 q205))); have o180 := OwnP.kl (OwnP.kl (OwnP.kl (OwnP.kl o153 hs19) hs20) hs21) hs22; have o181 := ChnU.keepL o175 hs22 (by decide) (by decide); have o182 := Own.kl (Own.kl (Own.kl (Own.kl o155 hs19) hs20) hs21) hs22; have o183 := OwnP.kl (OwnP.kl o168 hs21) hs22; have o184 := ChnU.keepL o178 hs22 (by decide) (by decide); have o185 := Own.kl (Own.kl o170 hs21) hs22
   have q225 : At (Ty.bool (decide ((1000 : Int) < (((szTo n (fun y => y ∈ ((S))) n) : Nat) : Int)))) s34 a36 (.tmp 52) := r22
   clear r22
   rcases Bool.eq_false_or_eq_true (decide ((1000 : Int) < (((szTo n (fun y => y ∈ ((S))) n) : Nat) : Int))) with hg1 | hg1
   ·
    have q226 : At (Ty.bool true) s34 a36 (.tmp 52) := cvb hg1 q225
    refine tailSkip ok35 rfl rfl (by decide) q226 rfl rfl (by decide) (fun a37 ok36 q227 sm23 => ?_)
    have q228 : At (Ty.nat n) s34 a37 (.tmp 0) := kp (sm23 0 (by decide)) (Stp.refl _ _) q221
    have q229 : At (Ty.lst Ty.ints G) s34 a37 (.tmp 1) := kp (sm23 1 (by decide)) (Stp.refl _ _) q222
    have q230 : At (Ty.val x4) s34 a37 (.tmp 10) := kp (sm23 10 (by decide)) (Stp.refl _ _) q224
    have q231 : At (Ty.bool true) s34 a37 (.tmp 52) := kp (sm23 52 (by decide)) (Stp.refl _ _) q226
    refine tailSkip ok36 rfl rfl (by decide) q231 rfl rfl (by decide) (fun a38 ok37 q232 sm24 => ?_)
    have q233 : At (Ty.nat n) s34 a38 (.tmp 0) := kp (sm24 0 (by decide)) (Stp.refl _ _) q228
    have q234 : At (Ty.lst Ty.ints G) s34 a38 (.tmp 1) := kp (sm24 1 (by decide)) (Stp.refl _ _) q229
    have q235 : At (Ty.val x4) s34 a38 (.tmp 10) := kp (sm24 10 (by decide)) (Stp.refl _ _) q230
    have q236 : At (Ty.bool true) s34 a38 (.tmp 52) := kp (sm24 52 (by decide)) (Stp.refl _ _) q231
    refine tailSkip ok37 rfl rfl (by decide) q236 rfl rfl (by decide) (fun a39 ok38 q237 sm25 => ?_)
    have q238 : At (Ty.nat n) s34 a39 (.tmp 0) := kp (sm25 0 (by decide)) (Stp.refl _ _) q233
    have q239 : At (Ty.lst Ty.ints G) s34 a39 (.tmp 1) := kp (sm25 1 (by decide)) (Stp.refl _ _) q234
    have q240 : At (Ty.val x4) s34 a39 (.tmp 10) := kp (sm25 10 (by decide)) (Stp.refl _ _) q235
    have q241 : At (Ty.bool true) s34 a39 (.tmp 52) := kp (sm25 52 (by decide)) (Stp.refl _ _) q236
    have q242 : At (Ty.val undef) s34 a39 (.tmp 54) := kp (sm25 54 (by decide)) (Stp.refl _ _) q232
    refine tailSkip ok38 rfl rfl (by decide) q241 rfl rfl (by decide) (fun a40 ok39 q243 sm26 => ?_)
    have q244 : At (Ty.nat n) s34 a40 (.tmp 0) := kp (sm26 0 (by decide)) (Stp.refl _ _) q238
    have q245 : At (Ty.lst Ty.ints G) s34 a40 (.tmp 1) := kp (sm26 1 (by decide)) (Stp.refl _ _) q239
    have q246 : At (Ty.val x4) s34 a40 (.tmp 10) := kp (sm26 10 (by decide)) (Stp.refl _ _) q240
    have q247 : At (Ty.bool true) s34 a40 (.tmp 52) := kp (sm26 52 (by decide)) (Stp.refl _ _) q241
    have q248 : At (Ty.val undef) s34 a40 (.tmp 54) := kp (sm26 54 (by decide)) (Stp.refl _ _) q242
    refine tailSkip ok39 rfl rfl (by decide) q247 rfl rfl (by decide) (fun a41 ok40 q249 sm27 => ?_)
    have q250 : At (Ty.nat n) s34 a41 (.tmp 0) := kp (sm27 0 (by decide)) (Stp.refl _ _) q244
    have q251 : At (Ty.lst Ty.ints G) s34 a41 (.tmp 1) := kp (sm27 1 (by decide)) (Stp.refl _ _) q245
    have q252 : At (Ty.val x4) s34 a41 (.tmp 10) := kp (sm27 10 (by decide)) (Stp.refl _ _) q246
    have q253 : At (Ty.bool true) s34 a41 (.tmp 52) := kp (sm27 52 (by decide)) (Stp.refl _ _) q247
    refine tailSkip ok40 rfl rfl (by decide) q253 rfl rfl (by decide) (fun a42 ok41 q254 sm28 => ?_)
    have q255 : At (Ty.nat n) s34 a42 (.tmp 0) := kp (sm28 0 (by decide)) (Stp.refl _ _) q250
    have q256 : At (Ty.lst Ty.ints G) s34 a42 (.tmp 1) := kp (sm28 1 (by decide)) (Stp.refl _ _) q251
    have q257 : At (Ty.val x4) s34 a42 (.tmp 10) := kp (sm28 10 (by decide)) (Stp.refl _ _) q252
    have q258 : At (Ty.bool true) s34 a42 (.tmp 52) := kp (sm28 52 (by decide)) (Stp.refl _ _) q253
    refine tL (R := (fun v τ => Pr.has (Ty.pr (Ty.bool true)) τ v)) ok41 (Yld.toL (y_pickT q258 rfl)) fun a43 s35 hs23 ok42 r23 sm29 => ?_
    have F36 := F35.sl hs23; have q259 := kq hs23 sm29 0 q255; have q260 := kq hs23 sm29 1 q256; have q261 := kq hs23 sm29 10 q257; have o187 := ChnU.keepL o181 hs23 (by decide) (by decide); have o190 := ChnU.keepL o184 hs23 (by decide) (by decide)
    have q262 : At (Ty.bool true) s35 a43 (.tmp 59) := r23
    clear r23; refine wpList_nil (tn ?_)
    refine cond_t q262 (fun _ => ?_) (fun c5 => (by cases c5))
    refine wp_seq ?_
    refine gI a43 s35 ok42 (gC (Ty.val (Value.pointer none)) (gC (Ty.int (3 : Int)) (gE ok42 fun a44 s36 ok43 D13 => ?_))); have o192 := OwnP.k0 (OwnP.kl o180 hs23) D13.stp; have o193 := ChnU.k0 o187 D13.stp; have o194 := Own.k0 (Own.kl o182 hs23) D13.stp; have o195 := OwnP.k0 (OwnP.kl o183 hs23) D13.stp; have o196 := ChnU.k0 o190 D13.stp; have o197 := Own.k0 (Own.kl o185 hs23) D13.stp; refine tn (wp_ret (tr ?_))
    exact retL2 rfl ok43 (F36.step0 D13.stp) (hasT2 (D13.m 0 rfl) (D13.m 1 rfl))
   ·
    have q265 : At (Ty.bool false) s34 a36 (.tmp 52) := cvb hg1 q225
    refine tailDo (L := []) (R := (fun v τ => Pr.has (Ty.pr (Ty.val x1)) τ v)) ok35 rfl rfl (by decide) q265 rfl rfl (by decide) (Yld.toL (y_move (kq hs22 sm22 8 (kq hs21 sm21 8 (kq hs20 sm20 8 (kq hs19 sm19 8 (D12.k q113))))))) (fun a45 s37 hs24 ok44 r24 sm30 => ?_)
    have F38 := F35.sl hs24; have q269 := kq hs24 sm30 52 q265; have o199 := ChnU.keepL o181 hs24 (by decide) (by decide); have o202 := ChnU.keepL o184 hs24 (by decide) (by decide)
    have q270 : At (Ty.val x1) s37 a45 (.tmp 53) := r24
    clear r24
    refine tailDo (L := [51, 52, 53]) (R := (fun v τ' => ∃ τ, (fun v τ => (Ty.has (Ty.nat (szTo n (fun y => y ∈ ((G))) n)) τ v) ∧ (OwnP τ 41 x1 [(Ty.nat n), (Ty.val x3), (Ty.val x2)]) ∧ (ChnU τ 42 22 108 x2 n ((g1)) ((g2))) ∧ (Own τ 43 22 1 x3 (List.length ((G))) (List.map Ty.ints ((G))))) v τ ∧ Back [(41, 51), (42, 52), (43, 53)] τ τ')) ok44 rfl rfl (by decide) q269 rfl rfl (by decide) (y_callL (L := [41, 42, 43]) [(51, 41), (52, 42), (53, 43)] [(41, 51), (42, 52), (43, 53)] #[a45.eval (.tmp 53)] rfl (by decide) Try.func42 rfl rfl my1 (gSize_fn (x1) (x3) (x2) ((g2)) (n) ((g1)) ((G)) _ (GW.low_lend _ (by decide)) _ (Ty.up _ (GW.le_lend _ _) q270) (OwnP.ren (OwnP.kl o180 hs24) (GW.ren_lend _ _ (by decide) rfl)) (ChnU.ren (cvch (by (rfl)) o199) (GW.ren_lend _ _ (by decide) rfl)) (Own.ren (cvo (by (simp)) (by (simp)) (Own.kl o182 hs24)) (GW.ren_lend _ _ (by decide) rfl)) (by first | omega | assumption) (by first | omega | assumption))) (fun a46 s38 hs25 ok45 r25 sm31 => ?_)
    have F39 := F38.sl hs25; have q273 := kq hs25 sm31 10 (kq hs24 sm30 10 q224); have q274 := kq hs25 sm31 52 q269; have o211 := ChnU.keepL o202 hs25 (by decide) (by decide)
    obtain ⟨t7, ⟨hT5, o204, o205, o206⟩, B5⟩ := r25
    have q275 : At (Ty.nat (szTo n (fun y => y ∈ ((G))) n)) s38 a46 (.tmp 54) := Ty.up _ B5.le hT5
    have o207 : OwnP s38 51 x1 [(Ty.nat n), (Ty.val x3), (Ty.val x2)] := OwnP.ren o204 (B5.ren (by decide) rfl)
    have o208 : ChnU s38 52 22 108 x2 n ((g1)) ((g2)) := ChnU.ren o205 (B5.ren (by decide) rfl)
    have o209 : Own s38 53 22 1 x3 (List.length ((G))) (List.map Ty.ints ((G))) := Own.ren o206 (B5.ren (by decide) rfl)
    refine tailDo (L := []) (R := (fun v τ => Pr.has (Ty.pr (Ty.val x4)) τ v)) ok45 rfl rfl (by decide) q274 rfl rfl (by decide) (Yld.toL (y_move q273)) (fun a47 s39 hs26 ok46 r26 sm32 => ?_)
    have F40 := F39.sl hs26; have q279 := kq hs26 sm32 52 q274; have o214 := ChnU.keepL o211 hs26 (by decide) (by decide); have o217 := ChnU.keepL o208 hs26 (by decide) (by decide)
    have q281 : At (Ty.val x4) s39 a47 (.tmp 55) := r26
    clear r26
    refine tailDo (L := [54, 55, 56]) (R := (fun v τ' => ∃ τ, (fun v τ => (Ty.has (Ty.nat (szTo n (fun y => y ∈ (((S)))) n)) τ v) ∧ (OwnP τ 41 x4 [(Ty.nat n), (Ty.val x6), (Ty.val x5)]) ∧ (ChnU τ 42 22 108 x5 n (((g3))) (((g4)))) ∧ (Own τ 43 22 1 x6 (List.length (((S)))) (List.map Ty.ints (((S)))))) v τ ∧ Back [(41, 54), (42, 55), (43, 56)] τ τ')) ok46 rfl rfl (by decide) q279 rfl rfl (by decide) (y_callL (L := [41, 42, 43]) [(54, 41), (55, 42), (56, 43)] [(41, 54), (42, 55), (43, 56)] #[a47.eval (.tmp 55)] rfl (by decide) Try.func42 rfl rfl my1 (gSize_fn (x4) (x6) (x5) (((g4))) (n) (((g3))) (((S))) _ (GW.low_lend _ (by decide)) _ (Ty.up _ (GW.le_lend _ _) q281) (OwnP.ren (OwnP.kl (OwnP.kl (OwnP.kl o183 hs24) hs25) hs26) (GW.ren_lend _ _ (by decide) rfl)) (ChnU.ren (cvch (by (rfl)) o214) (GW.ren_lend _ _ (by decide) rfl)) (Own.ren (cvo (by (simp)) (by (simp)) (Own.kl (Own.kl (Own.kl o185 hs24) hs25) hs26)) (GW.ren_lend _ _ (by decide) rfl)) (by first | omega | assumption) (by first | omega | assumption))) (fun a48 s40 hs27 ok47 r27 sm33 => ?_)
    have F41 := F40.sl hs27; have q285 := kq hs27 sm33 52 q279; have o226 := ChnU.keepL o217 hs27 (by decide) (by decide)
    obtain ⟨t8, ⟨hT6, o219, o220, o221⟩, B6⟩ := r27
    have q287 : At (Ty.nat (szTo n (fun y => y ∈ (((S)))) n)) s40 a48 (.tmp 56) := Ty.up _ B6.le hT6
    have o222 : OwnP s40 54 x4 [(Ty.nat n), (Ty.val x6), (Ty.val x5)] := OwnP.ren o219 (B6.ren (by decide) rfl)
    have o223 : ChnU s40 55 22 108 x5 n (((g3))) (((g4))) := ChnU.ren o220 (B6.ren (by decide) rfl)
    have o224 : Own s40 56 22 1 x6 (List.length (((S)))) (List.map Ty.ints (((S)))) := Own.ren o221 (B6.ren (by decide) rfl)
    refine tailDo (L := []) (R := (fun v τ => Pr.has (Ty.pr (Ty.nat ((szTo n (fun y => y ∈ ((G))) n) / (szTo n (fun y => y ∈ (((S)))) n)))) τ v)) ok47 rfl rfl (by decide) q285 rfl rfl (by decide) (Yld.toL (y_quoN (kq hs27 sm33 54 (kq hs26 sm32 54 q275)) q287 (by omega) (by omega))) (fun a49 s41 hs28 ok48 r28 sm34 => ?_)
    have F42 := F41.sl hs28; have q291 := kq hs28 sm34 52 q285; have o229 := ChnU.keepL o226 hs28 (by decide) (by decide); have o232 := ChnU.keepL o223 hs28 (by decide) (by decide)
    have q292 : At (Ty.nat ((szTo n (fun y => y ∈ ((G))) n) / (szTo n (fun y => y ∈ (((S)))) n))) s41 a49 (.tmp 57) := r28
    clear r28
    refine tailDo (L := []) (R := (fun v τ => Pr.has (Ty.pr (Ty.bool (decide ((1000 : Int) < ((((szTo n (fun y => y ∈ ((G))) n) / (szTo n (fun y => y ∈ (((S)))) n)) : Nat) : Int))))) τ v)) ok48 rfl rfl (by decide) q291 rfl rfl (by decide) (Yld.toL (y_gtr q292 rfl)) (fun a50 s42 hs29 ok49 r29 sm35 => ?_)
    have F43 := F42.sl hs29; have o235 := ChnU.keepL o229 hs29 (by decide) (by decide); have o238 := ChnU.keepL o232 hs29 (by decide) (by decide)
    have q297 : At (Ty.bool (decide ((1000 : Int) < ((((szTo n (fun y => y ∈ ((G))) n) / (szTo n (fun y => y ∈ (((S)))) n)) : Nat) : Int)))) s42 a50 (.tmp 58) := r29
    clear r29
    refine tL (R := (fun v τ => Pr.has (Ty.pr (Ty.bool (decide ((1000 : Int) < ((((szTo n (fun y => y ∈ ((G))) n) / (szTo n (fun y => y ∈ (((S)))) n)) : Nat) : Int))))) τ v)) ok49 (Yld.toL (y_pickF (kq hs29 sm35 52 q291) q297)) fun a51 s43 hs30 ok50 r30 sm36 => ?_
    have F44 := F43.sl hs30; have q298 := kq hs30 sm36 0 (kq hs29 sm35 0 (kq hs28 sm34 0 (kq hs27 sm33 0 (kq hs26 sm32 0 (kq hs25 sm31 0 (kq hs24 sm30 0 q221)))))); have q299 := kq hs30 sm36 1 (kq hs29 sm35 1 (kq hs28 sm34 1 (kq hs27 sm33 1 (kq hs26 sm32 1 (kq hs25 sm31 1 (kq hs24 sm30 1 q222)))))); have q300 := kq hs30 sm36 10 (kq hs29 sm35 10 (kq hs28 sm34 10 (kq hs27 sm33 10 (kq hs26 sm32 10 q273)))); have o241 := ChnU.keepL o235 hs30 (by decide) (by decide); have o244 := ChnU.keepL o238 hs30 (by decide) (by decide)
    have q301 : At (Ty.bool (decide ((1000 : Int) < ((((szTo n (fun y => y ∈ ((G))) n) / (szTo n (fun y => y ∈ (((S)))) n)) : Nat) : Int)))) s43 a51 (.tmp 59) := r30
    clear r30; refine wpList_nil (tn ?_)
    refine cond_p (p := ((1000 : Int) < ((((szTo n (fun y => y ∈ ((G))) n) / (szTo n (fun y => y ∈ (((S)))) n)) : Nat) : Int))) q301 (fun c6 => ?_) (fun c6 => ?_)
    ·
     refine wp_seq ?_
     refine gI a51 s43 ok50 (gC (Ty.val (Value.pointer none)) (gC (Ty.int (3 : Int)) (gE ok50 fun a52 s44 ok51 D14 => ?_))); have o246 := OwnP.k0 (OwnP.kl (OwnP.kl (OwnP.kl (OwnP.kl (OwnP.kl o207 hs26) hs27) hs28) hs29) hs30) D14.stp; have o247 := ChnU.k0 o241 D14.stp; have o248 := Own.k0 (Own.kl (Own.kl (Own.kl (Own.kl (Own.kl o209 hs26) hs27) hs28) hs29) hs30) D14.stp; have o249 := OwnP.k0 (OwnP.kl (OwnP.kl (OwnP.kl o222 hs28) hs29) hs30) D14.stp; have o250 := ChnU.k0 o244 D14.stp; have o251 := Own.k0 (Own.kl (Own.kl (Own.kl o224 hs28) hs29) hs30) D14.stp; refine tn (wp_ret (tr ?_))
     exact retL2 rfl ok51 (F44.step0 D14.stp) (hasT2 (D14.m 0 rfl) (D14.m 1 rfl))
    ·
     exfalso
     (have h_ := of_decide_eq_false hg1; omega)


theorem cMakN_fn (n : Nat) (G S : List (List Int)) (σ : GW) (v0 v1 v2 : Value) (hv0 : Ty.has (Ty.nat n) σ v0) (hv1 : Ty.has (Ty.lst Ty.ints G) σ v1) (hv2 : Ty.has (Ty.lst Ty.ints S) σ v2) (hG0 : gensMay (n : Int) G = 0) (hbad : mkC (n : Int) G S ≠ 0) : FnC Try.prog 33 #[v0, v1, v2] σ (Ty.tup2 (Ty.val (Value.pointer none)) (Ty.int (mkC (n : Int) G S))) := by
  obtain ⟨hn, hGl, hG⟩ := may_nat hG0
  by_cases h2 : gensMay (n : Int) S = 0
  · obtain ⟨_, hSl, hS⟩ := may_nat h2
    by_cases h3 : ∀ x ∈ S, Cl n (fun y => y ∈ G) x
    · have e := mkC_4 hG0 h2 h3
      by_cases h4 : 1000 < szTo n (fun y => y ∈ S) n ∨ 1000 < szTo n (fun y => y ∈ G) n / szTo n (fun y => y ∈ S) n
      · rw [if_pos h4] at e
        rw [e]; exact cMakD_fn n G S σ v0 v1 v2 hv0 hv1 hv2 hn hG hGl hS hSl h3 h4
      · rw [if_neg h4] at e
        exact absurd e hbad
    · have h3' : ∃ x ∈ S, ¬ Cl n (fun y => y ∈ G) x := Classical.byContradiction fun hn => h3 fun x hx => Classical.byContradiction fun h => hn ⟨x, hx, h⟩
      rw [mkC_3 hG0 h2 h3']; exact cMakC_fn n G S σ v0 v1 v2 hv0 hv1 hv2 hn hG hGl hS hSl h3'
  · rw [mkC_2 hG0 h2]; exact cMakB_fn n G S σ v0 v1 v2 hv0 hv1 hv2 hn hG hGl h2


end Go.Proofs.Ytkjifbgofckfeaa
