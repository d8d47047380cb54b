/- The functions that the law GroupMade reaches, each by its contract. Part 9. -/
import Derived.Test.YtkjifbgofckfeaaGroupMadeW8
namespace Go.Proofs.Ytkjifbgofckfeaa
open Go.KL

set_option maxHeartbeats 4000000 in
set_option maxRecDepth 100000 in
theorem gStillN_fn (gv : Value) (gs : Value) (cs : Value) (us : List Value) (n : Nat) (c : Nat → Lev) (gens : List (List Int)) (b : Int) (σ : GW) (hlow : Low [41, 42, 43] σ) (v0 v1 : Value) (hv0 : Ty.has (Ty.val gv) σ v0) (hv1 : Ty.has (Ty.int b) σ v1) (ho_gv : OwnP σ 41 gv [(Ty.nat n), (Ty.val gs), (Ty.val cs)]) (ho_cs : ChnU σ 42 22 108 cs n c us) (ho_gs : Own σ 43 22 1 gs (List.length gens) (List.map Ty.ints gens)) (hC : ChnOf n gens c) (hG : ∀ x ∈ gens, RowN n x) (hbad : b < 0 ∨ (n : Int) ≤ b) :
    FnL Try.prog 56 #[v0, v1] σ [41, 42, 43] (fun v τ => (Ty.has (Ty.tup2 (Ty.val (Value.pointer none)) (Ty.int (12 : Int))) τ v) ∧ (OwnP τ 41 gv [(Ty.nat n), (Ty.val gs), (Ty.val cs)]) ∧ (ChnU τ 42 22 108 cs n c us) ∧ (Own τ 43 22 1 gs (List.length gens) (List.map Ty.ints gens))) := by
 refine fn_introL hlow Try.func56 rfl Try.ntmps56 (Nat.le_of_ble_eq_true rfl) (fun a0 F0 ok0 hargs => ?_)
 have p0 := pB (hargs 0 _ rfl) hv0
 have p1 := pB (hargs 1 _ rfl) hv1
 clear hargs; refine wp_seq ?_
 refine gI a0 σ ok0 (gC (Ty.val (Value.pointer none)) (gC (Ty.int (0 : Int)) (gE ok0 fun a1 s1 ok1 D1 => ?_))); have q2 := D1.k p1; have o1 := OwnP.k0 ho_gv D1.stp; have o2 := ChnU.k0 ho_cs D1.stp; have o3 := Own.k0 ho_gs D1.stp; refine tn (wp_seq (wp_seq ?_))
 refine gI a1 s1 ok1 (gM q2 (gS rfl (fun A B H I J d0 => rP (y_lss (eI d0) rfl)) (gS rfl (fun A B H I J d0 => rP (y_move (eI d0))) (gS rfl (fun A B H I J d0 => gu I (eI d0) fun hg => y_move (kp (J 1 rfl) H q2)) (gS rfl (fun A B H I J d0 => gu I (eI d0) fun hg => y_move (kp (J 0 rfl) H (D1.k p0))) (gT (Ty.grd ((decide (b < (0 : Int))) = false) (Ty.val gv)) rfl (fun A B H I J d0 d1 => gu I (eI d1) fun hg => y_nilp (OwnP.k0 o1 H) ((ef d0 rfl).1 hg)) (gT (Ty.grd ((decide (b < (0 : Int))) = false) (Ty.val (ptrAt gv 0))) rfl (fun A B H I J d0 d1 => guf I (eI d1) fun hg hp => ownp_field Try.fld95_0 Try.inf3 dE (OwnP.k0 o1 H) ((ef d0 rfl).1 hg)) (gS rfl (fun A B H I J d0 d1 => gu I (eI d1) fun hg => ownp_load Try.underlying3 rfl (OwnP.k0 o1 H) ((ef d0 rfl).1 hg) rfl) (gS rfl (fun A B H I J d0 d1 d2 => gu I (eI d2) fun hg => y_geq ((ef d0 rfl).1 hg) ((ef d1 rfl).1 hg)) (gS rfl (fun A B H I J d0 d1 => rP (y_pick_or (eI d0) rfl (eI d1))) (gE ok1 fun a2 s2 ok2 D2 => ?_))))))))))); have o4 := OwnP.k0 o1 D2.stp; have o5 := ChnU.k0 o2 D2.stp; have o6 := Own.k0 o3 D2.stp; refine tn ?_
 refine cond_t (D2.m 9 rfl) (fun c1 => ?_) (fun c1 => ?_)
 ·
  refine wp_seq ?_
  refine gI a2 s2 ok2 (gC (Ty.val (Value.pointer none)) (gC (Ty.int (12 : Int)) (gE ok2 fun a3 s3 ok3 D3 => ?_))); have o7 := OwnP.k0 o4 D3.stp; have o8 := ChnU.k0 o5 D3.stp; have o9 := Own.k0 o6 D3.stp; refine tn (wp_ret (tr ?_))
  exact retL2 rfl ok3 (((F0.step0 D1.stp).step0 D2.stp).step0 D3.stp) ⟨(hasT2 (D3.m 0 rfl) (D3.m 1 rfl)), o7, o8, o9⟩
 ·
  exfalso
  simp only [Bool.or_eq_false_iff, decide_eq_false_iff_not] at c1; omega


set_option maxHeartbeats 4000000 in
set_option maxRecDepth 100000 in
theorem gRowsN_fn (gv : Value) (gs : Value) (cs : Value) (us : List Value) (n : Nat) (c : Nat → Lev) (gens : List (List Int)) (r : List Int) (bell : Int) (σ : GW) (hlow : Low [41, 42, 43] σ) (v0 v1 v2 v3 v4 v5 v6 : Value) (hv0 : Ty.has (Ty.val gv) σ v0) (hv1 : Ty.has (Ty.nat n) σ v1) (hv2 : Ty.has (Ty.lst Ty.ints gens) σ v2) (hv3 : Ty.has (Ty.lst Ty.int r) σ v3) (hv4 : Ty.has (Ty.int (fitsE n r)) σ v4) (hv5 : Ty.has (Ty.int bell) σ v5) (hv6 : Ty.has (Ty.nat (szTo n (fun y => y ∈ gens) n)) σ v6) (ho_gv : OwnP σ 41 gv [(Ty.nat n), (Ty.val gs), (Ty.val cs)]) (ho_cs : ChnU σ 42 22 108 cs n c us) (ho_gs : Own σ 43 22 1 gs (List.length gens) (List.map Ty.ints gens)) (hC : ChnOf n gens c) (hG : ∀ x ∈ gens, RowN n x) (hGl : gens.length ≤ 8) (hsz : (szTo n (fun y => y ∈ gens) n) ≤ 5040) (hbad : bell < 0 ∨ (n : Int) ≤ bell) :
    FnL Try.prog 47 #[v0, v1, v2, v3, v4, v5, v6] σ [41, 42, 43] (fun v τ => (Ty.has (Ty.bool true) τ v) ∧ (OwnP τ 41 gv [(Ty.nat n), (Ty.val gs), (Ty.val cs)]) ∧ (ChnU τ 42 22 108 cs n c us) ∧ (Own τ 43 22 1 gs (List.length gens) (List.map Ty.ints gens))) := by
 have hn := hC.wc.nn
 have hw := hC.wc
 have hsb := szTo_bd (n := n) (S := fun y => y ∈ gens) (k := n) hn.2
 refine fn_introL hlow Try.func47 rfl Try.ntmps47 (Nat.le_of_ble_eq_true rfl) (fun a0 F0 ok0 hargs => ?_)
 have p0 := pB (hargs 0 _ rfl) hv0
 have p1 := pB (hargs 1 _ rfl) hv1
 have p2 := pB (hargs 2 _ rfl) hv2
 have b1 := sl_le p2
 have p3 := pB (hargs 3 _ rfl) hv3
 have b2 := sl_le p3
 have p4 := pB (hargs 4 _ rfl) hv4
 have p5 := pB (hargs 5 _ rfl) hv5
 have p6 := pB (hargs 6 _ rfl) hv6
 clear hargs; refine wp_seq ?_
 refine gI a0 σ ok0 (gC (Ty.bool false) (gE ok0 fun a1 s1 ok1 D1 => ?_)); have q1 := D1.k p0; have q4 := D1.k p3; have o1 := OwnP.k0 ho_gv D1.stp; have o2 := ChnU.k0 ho_cs D1.stp; have o3 := Own.k0 ho_gs D1.stp; refine tn (wp_seq ?_)
 refine gI a1 s1 ok1 (gM q1 (gM q4 (gE2 ok1 fun a2 s2 ok2 D2 => ?_))); have o4 := OwnP.k0 o1 D2.stp; have o5 := ChnU.k0 o2 D2.stp; have o6 := Own.k0 o3 D2.stp
 refine tL ok2 (y_callL (L := [41, 42, 43]) [(41, 41), (42, 42), (43, 43)] [(41, 41), (42, 42), (43, 43)] #[a2.eval (.tmp 29), a2.eval (.tmp 30)] rfl dE Try.func59 rfl rfl my2 (gWord_fn (gv) (gs) (cs) (us) (n) (c) (gens) (r) _ lW _ _ (uL (D2.m 0 rfl)) (uL (D2.m 1 rfl)) (OwnP.ren o4 (GW.ren_lend _ _ dE rfl)) (ChnU.ren o5 (GW.ren_lend _ _ dE rfl)) (Own.ren o6 (GW.ren_lend _ _ dE rfl)) oX oX oX)) fun a3 s3 hs1 ok3 r1 sm1 => ?_
 obtain ⟨t1, ⟨g1, hT1, o7, o8, o9, hp1⟩, B1⟩ := r1
 have q24 : At (Ty.tup2 (Ty.lst Ty.int (g1)) (Ty.int (wordE n c gens r))) s3 a3 (.tmp 31) := Ty.up _ B1.le hT1
 have o10 : OwnP s3 41 gv [(Ty.nat n), (Ty.val gs), (Ty.val cs)] := OwnP.ren o7 (B1.ren dE rfl)
 have o11 : ChnU s3 42 22 108 cs n c us := ChnU.ren o8 (B1.ren dE rfl)
 have o12 : Own s3 43 22 1 gs (List.length gens) (List.map Ty.ints gens) := Own.ren o9 (B1.ren dE rfl)
 refine tL ok3 (Yld.toL (y_mv q24)) fun a4 s4 hs2 ok4 r2 sm2 => ?_
 have q32 : At (Ty.tup2 (Ty.lst Ty.int (g1)) (Ty.int (wordE n c gens r))) s4 a4 (.tmp 28) := r2
 clear r2
 refine tL (R := (fun v τ => Pr.has (Ty.pr (Ty.lst Ty.int (g1))) τ v)) ok4 (Yld.toL (y_ext2_0 q32)) fun a5 s5 hs3 ok5 r3 sm3 => ?_
 have q41 : At (Ty.lst Ty.int (g1)) s5 a5 (.tmp 32) := r3
 clear r3
 refine tL (R := (fun v τ => Pr.has (Ty.pr (Ty.int (wordE n c gens r))) τ v)) ok5 (Yld.toL (y_ext2_1 (kq hs3 sm3 28 q32))) fun a6 s6 hs4 ok6 r4 sm4 => ?_
 have q50 : At (Ty.int (wordE n c gens r)) s6 a6 (.tmp 33) := r4
 clear r4
 refine tL ok6 (Yld.toL (y_as (kq hs4 sm4 32 q41))) fun a7 s7 hs5 ok7 r5 sm5 => ?_
 have q59 : At (Ty.lst Ty.int (g1)) s7 a7 (.tmp 15) := r5
 clear r5
 refine tL ok7 (Yld.toL (y_as (kq hs5 sm5 33 q50))) fun a8 s8 hs6 ok8 r6 sm6 => ?_
 have q60 := kq hs6 sm6 0 (kq hs5 sm5 0 (kq hs4 sm4 0 (kq hs3 sm3 0 (kq hs2 sm2 0 (kq hs1 sm1 0 (D2.k q1))))))
 have q68 : At (Ty.int (wordE n c gens r)) s8 a8 (.tmp 16) := r6
 clear r6; refine wpList_nil (tn (wp_seq ?_))
 refine gI a8 s8 ok8 (gM q60 (gE2 ok8 fun a9 s9 ok9 D3 => ?_)); have o28 := OwnP.k0 (OwnP.kl (OwnP.kl (OwnP.kl (OwnP.kl (OwnP.kl o10 hs2) hs3) hs4) hs5) hs6) D3.stp; have o29 := ChnU.k0 (ChnU.kl (ChnU.kl (ChnU.kl (ChnU.kl (ChnU.kl o11 hs2) hs3) hs4) hs5) hs6) D3.stp; have o30 := Own.k0 (Own.kl (Own.kl (Own.kl (Own.kl (Own.kl o12 hs2) hs3) hs4) hs5) hs6) D3.stp
 refine tL ok9 (y_callL (L := [41, 42, 43]) [(41, 41), (42, 42), (43, 43)] [(41, 41), (42, 42), (43, 43)] #[a9.eval (.tmp 35)] rfl dE Try.func60 rfl rfl my1 (gElts_fn (gv) (gs) (cs) (us) (n) (c) (gens) _ lW _ (uL (D3.m 0 rfl)) (OwnP.ren o28 (GW.ren_lend _ _ dE rfl)) (ChnU.ren o29 (GW.ren_lend _ _ dE rfl)) (Own.ren o30 (GW.ren_lend _ _ dE rfl)) oX oX)) fun a10 s10 hs7 ok10 r7 sm7 => ?_
 obtain ⟨t2, ⟨g2, hT2, o31, o32, o33, hp2⟩, B2⟩ := r7
 have q88 : At (Ty.tup2 (Ty.lst Ty.ints (g2)) (Ty.int (eltE n gens))) s10 a10 (.tmp 36) := Ty.up _ B2.le hT2
 have o34 : OwnP s10 41 gv [(Ty.nat n), (Ty.val gs), (Ty.val cs)] := OwnP.ren o31 (B2.ren dE rfl)
 have o35 : ChnU s10 42 22 108 cs n c us := ChnU.ren o32 (B2.ren dE rfl)
 have o36 : Own s10 43 22 1 gs (List.length gens) (List.map Ty.ints gens) := Own.ren o33 (B2.ren dE rfl)
 refine tL ok10 (Yld.toL (y_mv q88)) fun a11 s11 hs8 ok11 r8 sm8 => ?_
 have q98 : At (Ty.tup2 (Ty.lst Ty.ints (g2)) (Ty.int (eltE n gens))) s11 a11 (.tmp 34) := r8
 clear r8
 refine tL (R := (fun v τ => Pr.has (Ty.pr (Ty.lst Ty.ints (g2))) τ v)) ok11 (Yld.toL (y_ext2_0 q98)) fun a12 s12 hs9 ok12 r9 sm9 => ?_
 have q109 : At (Ty.lst Ty.ints (g2)) s12 a12 (.tmp 37) := r9
 clear r9
 refine tL (R := (fun v τ => Pr.has (Ty.pr (Ty.int (eltE n gens))) τ v)) ok12 (Yld.toL (y_ext2_1 (kq hs9 sm9 34 q98))) fun a13 s13 hs10 ok13 r10 sm10 => ?_
 have q120 : At (Ty.int (eltE n gens)) s13 a13 (.tmp 38) := r10
 clear r10
 refine tL ok13 (Yld.toL (y_as (kq hs10 sm10 37 q109))) fun a14 s14 hs11 ok14 r11 sm11 => ?_
 have q131 : At (Ty.lst Ty.ints (g2)) s14 a14 (.tmp 17) := r11
 clear r11
 refine tL ok14 (Yld.toL (y_as (kq hs11 sm11 38 q120))) fun a15 s15 hs12 ok15 r12 sm12 => ?_
 have q142 : At (Ty.int (eltE n gens)) s15 a15 (.tmp 18) := r12
 clear r12; refine wpList_nil (tn (wp_seq (wp_seq ?_)))
 refine gI a15 s15 ok15 (gM (kq hs12 sm12 6 (kq hs11 sm11 6 (kq hs10 sm10 6 (kq hs9 sm9 6 (kq hs8 sm8 6 (kq hs7 sm7 6 (D3.k (kq hs6 sm6 6 (kq hs5 sm5 6 (kq hs4 sm4 6 (kq hs3 sm3 6 (kq hs2 sm2 6 (kq hs1 sm1 6 (D2.k (D1.k p6))))))))))))))) (gS rfl (fun A B H I J d0 => rP (y_gtr (eI d0) rfl)) (gE ok15 fun a16 s16 ok16 D4 => ?_))); have q144 := D4.k (kq hs12 sm12 1 (kq hs11 sm11 1 (kq hs10 sm10 1 (kq hs9 sm9 1 (kq hs8 sm8 1 (kq hs7 sm7 1 (D3.k (kq hs6 sm6 1 (kq hs5 sm5 1 (kq hs4 sm4 1 (kq hs3 sm3 1 (kq hs2 sm2 1 (kq hs1 sm1 1 (D2.k (D1.k p1))))))))))))))); have o52 := OwnP.k0 (OwnP.kl (OwnP.kl (OwnP.kl (OwnP.kl (OwnP.kl o34 hs8) hs9) hs10) hs11) hs12) D4.stp; have o53 := ChnU.k0 (ChnU.kl (ChnU.kl (ChnU.kl (ChnU.kl (ChnU.kl o35 hs8) hs9) hs10) hs11) hs12) D4.stp; have o54 := Own.k0 (Own.kl (Own.kl (Own.kl (Own.kl (Own.kl o36 hs8) hs9) hs10) hs11) hs12) D4.stp; refine tn ?_
 refine cond_p (p := ((5040 : Int) < (((szTo n (fun y => y ∈ gens) n) : Nat) : Int))) (D4.m 1 rfl) (fun c1 => ?_) (fun c1 => ?_)
 ·
  exfalso
  omega
 ·
  refine wp_skip (tn (wp_seq ?_))
  refine gI a16 s16 ok16 (gM q144 (gM (D4.k (kq hs12 sm12 2 (kq hs11 sm11 2 (kq hs10 sm10 2 (kq hs9 sm9 2 (kq hs8 sm8 2 (kq hs7 sm7 2 (D3.k (kq hs6 sm6 2 (kq hs5 sm5 2 (kq hs4 sm4 2 (kq hs3 sm3 2 (kq hs2 sm2 2 (kq hs1 sm1 2 (D2.k (D1.k p2)))))))))))))))) (gE2 ok16 fun a17 s17 ok17 D5 => ?_))); have o55 := OwnP.k0 o52 D5.stp; have o56 := ChnU.k0 o53 D5.stp; have o57 := Own.k0 o54 D5.stp
  refine tL ok17 (y_callL (L := []) [] [] #[a17.eval (.tmp 71), a17.eval (.tmp 72), a17.eval ((Operand.const (Value.int IntKind.i64 5040)))] rfl dE Try.func19 rfl rfl my3 (rClosedW_fn (n) (gens) (5040) _ lW _ _ _ (uL (D5.m 0 rfl)) (uL (D5.m 1 rfl)) (uL (cvi (σ := s17) oX rfl))  oX oX oX oX)) fun a18 s18 hs13 ok18 r13 sm13 => ?_
  obtain ⟨t3, ⟨g3, g4, hT3, hp3, hp4⟩, B3⟩ := r13
  have q175 : At (Ty.tup2 (Ty.lst Ty.ints (g3)) (Ty.lst Ty.ints (g4))) s18 a18 (.tmp 73) := Ty.up _ B3.le hT3
  refine tL ok18 (Yld.toL (y_mv q175)) fun a19 s19 hs14 ok19 r14 sm14 => ?_
  have q185 : At (Ty.tup2 (Ty.lst Ty.ints (g3)) (Ty.lst Ty.ints (g4))) s19 a19 (.tmp 70) := r14
  clear r14
  refine tL (R := (fun v τ => Pr.has (Ty.pr (Ty.lst Ty.ints (g3))) τ v)) ok19 (Yld.toL (y_ext2_0 q185)) fun a20 s20 hs15 ok20 r15 sm15 => ?_
  have q196 : At (Ty.lst Ty.ints (g3)) s20 a20 (.tmp 74) := r15
  clear r15
  refine tL (R := (fun v τ => Pr.has (Ty.pr (Ty.lst Ty.ints (g4))) τ v)) ok20 (Yld.toL (y_ext2_1 (kq hs15 sm15 70 q185))) fun a21 s21 hs16 ok21 r16 sm16 => ?_
  have q207 : At (Ty.lst Ty.ints (g4)) s21 a21 (.tmp 75) := r16
  clear r16
  refine tL ok21 (Yld.toL (y_as (kq hs16 sm16 74 q196))) fun a22 s22 hs17 ok22 r17 sm17 => ?_
  have q218 : At (Ty.lst Ty.ints (g3)) s22 a22 (.tmp 19) := r17
  clear r17
  refine tL ok22 (Yld.toL (y_as (kq hs17 sm17 75 q207))) fun a23 s23 hs18 ok23 r18 sm18 => ?_
  have q229 : At (Ty.lst Ty.ints (g4)) s23 a23 (.tmp 20) := r18
  clear r18; refine wpList_nil (tn (wp_seq (wp_seq ?_)))
  have hE0 : eltE n gens = 0 := (by unfold eltE; rw [if_pos hsz])
  have hEO := hp2.ok hsz
  have hord : ordS g3 = g2 := hEO.closed (by rw [hEO.len]; exact hsz) hp3
  obtain ⟨hRn, hRm, hRl, hRW⟩ : g3.Nodup ∧ (∀ x, x ∈ g3 ↔ Cl n (fun y => y ∈ gens) x) ∧ g3.length ≤ 5040 ∧ g4.length = g3.length := (by rcases hp3 with ⟨_, L, h1, h2, h3⟩ | h; (have h_ := nd_sub h1 (fun x hx => (hEO.mem x).2 (h2 x hx)); have h2_ := hEO.len; omega); exact h)
  have hRne : g3 ≠ [] := (fun h_ => (by have h2_ := (hRm _).2 (.one : Cl n (fun y => y ∈ gens) (roundsL n)); rw [h_] at h2_; cases h2_))
  have hY9 := hp4 hRne
  have hRr : ∀ x ∈ g3, RowN n x := fun x hx => ((hRm x).1 hx).row hn hG
  have hol := orbs_len (n := n) (G := gens) (m := n)
  refine gI a23 s23 ok23 (gE2 ok23 fun a24 s24 ok24 D6 => ?_); have o76 := OwnP.k0 (OwnP.kl (OwnP.kl (OwnP.kl (OwnP.kl (OwnP.kl (OwnP.kl o55 hs13) hs14) hs15) hs16) hs17) hs18) D6.stp; have o77 := ChnU.k0 (ChnU.kl (ChnU.kl (ChnU.kl (ChnU.kl (ChnU.kl (ChnU.kl o56 hs13) hs14) hs15) hs16) hs17) hs18) D6.stp; have o78 := Own.k0 (Own.kl (Own.kl (Own.kl (Own.kl (Own.kl (Own.kl o57 hs13) hs14) hs15) hs16) hs17) hs18) D6.stp
  refine tL ok24 (Yld.toL (y_mv (D6.k (kq hs18 sm18 18 (kq hs17 sm17 18 (kq hs16 sm16 18 (kq hs15 sm15 18 (kq hs14 sm14 18 (kq hs13 sm13 18 (D5.k (D4.k q142))))))))))) fun a25 s25 hs19 ok25 r19 sm19 => ?_
  have q251 : At (Ty.int (eltE n gens)) s25 a25 (.tmp 76) := r19
  clear r19
  refine tL (R := (fun v τ => Pr.has (Ty.pr (Ty.bool (decide ((eltE n gens) ≠ (0 : Int))))) τ v)) ok25 (Yld.toL (y_neq q251 rfl)) fun a26 s26 hs20 ok26 r20 sm20 => ?_
  have q262 : At (Ty.bool (decide ((eltE n gens) ≠ (0 : Int)))) s26 a26 (.tmp 77) := r20
  clear r20
  refine tL ok26 (Yld.toL (y_mv q262)) fun a27 s27 hs21 ok27 r21 sm21 => ?_
  have q273 : At (Ty.bool (decide ((eltE n gens) ≠ (0 : Int)))) s27 a27 (.tmp 78) := r21
  clear r21
  rcases Bool.eq_false_or_eq_true (decide ((eltE n gens) ≠ (0 : Int))) with hg1 | hg1
  · (have h_ := of_decide_eq_true hg1; exact absurd hE0 h_)
  ·
   have q274 : At (Ty.bool false) s27 a27 (.tmp 78) := cvb hg1 q273
   refine tD (T := (Ty.lst Ty.ints (g2))) ok27 q274 (y_move (kq hs21 sm21 17 (kq hs20 sm20 17 (kq hs19 sm19 17 (D6.k (kq hs18 sm18 17 (kq hs17 sm17 17 (kq hs16 sm16 17 (kq hs15 sm15 17 (kq hs14 sm14 17 (kq hs13 sm13 17 (D5.k (D4.k (kq hs12 sm12 17 q131)))))))))))))) fun a28 s28 hs22 ok28 r22 sm22 => ?_
   have q282 := kq hs22 sm22 19 (kq hs21 sm21 19 (kq hs20 sm20 19 (kq hs19 sm19 19 (D6.k (kq hs18 sm18 19 q218))))); have q284 := kq hs22 sm22 78 q274
   have q285 : At (Ty.lst Ty.ints (g2)) s28 a28 (.tmp 79) := r22
   clear r22
   refine tD (T := (Ty.lst Ty.ints (g3))) ok28 q284 (y_move q282) fun a29 s29 hs23 ok29 r23 sm23 => ?_
   have q295 := kq hs23 sm23 78 q284
   have q297 : At (Ty.lst Ty.ints (g3)) s29 a29 (.tmp 80) := r23
   clear r23
   refine tD (T := (Ty.lst Ty.ints (ordS ((g3))))) ok29 q295 (y_call _ Try.func25 rfl rfl my1 (rOrdered_fn (((g3)).length) ((g3)) _ _ q297 oX oX)) fun a30 s30 hs24 ok30 r24 sm24 => ?_
   have q307 := kq hs24 sm24 78 q295
   have q309 : At (Ty.lst Ty.ints (ordS ((g3)))) s30 a30 (.tmp 81) := r24
   clear r24
   refine tD (T := (Ty.bool (decide (((g2)) = ((ordS ((g3)))))))) ok30 q307 (y_call _ Try.func29 rfl rfl my2 (rSameAll_fn ((g2)) ((ordS ((g3)))) _ _ _ (kq hs24 sm24 79 (kq hs23 sm23 79 q285)) q309 )) fun a31 s31 hs25 ok31 r25 sm25 => ?_
   have q319 := kq hs25 sm25 78 q307
   have q320 : At (Ty.bool (decide (((g2)) = ((ordS ((g3))))))) s31 a31 (.tmp 82) := r25
   clear r25
   refine tD (T := (Ty.bool (!(decide (((g2)) = ((ordS ((g3))))))))) ok31 q319 (y_not q320) fun a32 s32 hs26 ok32 r26 sm26 => ?_
   have q331 : At (Ty.bool (!(decide (((g2)) = ((ordS ((g3)))))))) s32 a32 (.tmp 83) := r26
   clear r26
   refine tL (R := (fun v τ => Pr.has (Ty.pr (Ty.bool (!(decide (((g2)) = ((ordS ((g3))))))))) τ v)) ok32 (Yld.toL (y_pickF (kq hs26 sm26 78 q319) q331)) fun a33 s33 hs27 ok33 r27 sm27 => ?_
   have q341 : At (Ty.bool (!(decide (((g2)) = ((ordS ((g3)))))))) s33 a33 (.tmp 84) := r27
   clear r27
   refine tL ok33 (Yld.toL (y_mv q341)) fun a34 s34 hs28 ok34 r28 sm28 => ?_
   have q342 := kq hs28 sm28 0 (kq hs27 sm27 0 (kq hs26 sm26 0 (kq hs25 sm25 0 (kq hs24 sm24 0 (kq hs23 sm23 0 (kq hs22 sm22 0 (kq hs21 sm21 0 (kq hs20 sm20 0 (kq hs19 sm19 0 (D6.k (kq hs18 sm18 0 (kq hs17 sm17 0 (kq hs16 sm16 0 (kq hs15 sm15 0 (kq hs14 sm14 0 (kq hs13 sm13 0 (D5.k (D4.k (kq hs12 sm12 0 (kq hs11 sm11 0 (kq hs10 sm10 0 (kq hs9 sm9 0 (kq hs8 sm8 0 (kq hs7 sm7 0 (D3.k q60)))))))))))))))))))))))))
   have q351 : At (Ty.bool (!(decide (((g2)) = ((ordS ((g3)))))))) s34 a34 (.tmp 85) := r28
   clear r28
   rcases Bool.eq_false_or_eq_true (!(decide (((g2)) = ((ordS ((g3))))))) with hg2 | hg2
   · (rw [hord] at hg2; simp at hg2)
   ·
    have q352 : At (Ty.bool false) s34 a34 (.tmp 85) := cvb hg2 q351
    refine tD (T := (Ty.val gv)) ok34 q352 (y_move q342) fun a35 s35 hs29 ok35 r29 sm29 => ?_
    have q362 := kq hs29 sm29 85 q352
    have q363 : At (Ty.val gv) s35 a35 (.tmp 86) := r29
    clear r29
    refine tailDo (L := [41, 43]) (R := (fun v τ' => ∃ τ, (fun v τ => (Ty.has (Ty.lst Ty.ints (orbsL n gens n)) τ v) ∧ (OwnP τ 41 gv [(Ty.nat n), (Ty.val gs), (Ty.val cs)]) ∧ (Own τ 43 22 1 gs (List.length gens) (List.map Ty.ints gens))) v τ ∧ Back [(41, 41), (43, 43)] τ τ')) ok35 rfl rfl dE q362 rfl rfl dE (y_callL (L := [41, 43]) [(41, 41), (43, 43)] [(41, 41), (43, 43)] #[a35.eval (.tmp 86)] rfl dE Try.func57 rfl rfl my1 (gOrbits_fn (gv) (gs) (cs) (n) (gens) _ lW _ (uL q363) (OwnP.ren (OwnP.kl (OwnP.kl (OwnP.kl (OwnP.kl (OwnP.kl (OwnP.kl (OwnP.kl (OwnP.kl (OwnP.kl (OwnP.kl (OwnP.kl o76 hs19) hs20) hs21) hs22) hs23) hs24) hs25) hs26) hs27) hs28) hs29) (GW.ren_lend _ _ dE rfl)) (Own.ren (Own.kl (Own.kl (Own.kl (Own.kl (Own.kl (Own.kl (Own.kl (Own.kl (Own.kl (Own.kl (Own.kl o78 hs19) hs20) hs21) hs22) hs23) hs24) hs25) hs26) hs27) hs28) hs29) (GW.ren_lend _ _ dE rfl)) oX oX oX)) (fun a36 s36 hs30 ok36 r30 sm30 => ?_)
    have q365 := kq hs30 sm30 1 (kq hs29 sm29 1 (kq hs28 sm28 1 (kq hs27 sm27 1 (kq hs26 sm26 1 (kq hs25 sm25 1 (kq hs24 sm24 1 (kq hs23 sm23 1 (kq hs22 sm22 1 (kq hs21 sm21 1 (kq hs20 sm20 1 (kq hs19 sm19 1 (D6.k (kq hs18 sm18 1 (kq hs17 sm17 1 (kq hs16 sm16 1 (kq hs15 sm15 1 (kq hs14 sm14 1 (kq hs13 sm13 1 (D5.k q144))))))))))))))))))); have q373 := kq hs30 sm30 85 q362
    obtain ⟨t4, ⟨hT4, o112, o113⟩, B4⟩ := r30
    have q374 : At (Ty.lst Ty.ints (orbsL n gens n)) s36 a36 (.tmp 87) := Ty.up _ B4.le hT4
    have o114 : OwnP s36 41 gv [(Ty.nat n), (Ty.val gs), (Ty.val cs)] := OwnP.ren o112 (B4.ren dE rfl)
    have o115 : Own s36 43 22 1 gs (List.length gens) (List.map Ty.ints gens) := Own.ren o113 (B4.ren dE rfl)
    refine tD (T := (Ty.nat n)) ok36 q373 (y_move q365) fun a37 s37 hs31 ok37 r31 sm31 => ?_
    have q382 := kq hs31 sm31 19 (kq hs30 sm30 19 (kq hs29 sm29 19 (kq hs28 sm28 19 (kq hs27 sm27 19 (kq hs26 sm26 19 (kq hs25 sm25 19 (kq hs24 sm24 19 (kq hs23 sm23 19 q282)))))))); have q384 := kq hs31 sm31 85 q373
    have q386 : At (Ty.nat n) s37 a37 (.tmp 88) := r31
    clear r31
    refine tD (T := (Ty.lst Ty.ints (g3))) ok37 q384 (y_move q382) fun a38 s38 hs32 ok38 r32 sm32 => ?_
    have q396 := kq hs32 sm32 85 q384
    have q399 : At (Ty.lst Ty.ints (g3)) s38 a38 (.tmp 89) := r32
    clear r32
    refine tD (T := (Ty.lst Ty.ints (orbsL n (gens) n))) ok38 q396 (y_call _ Try.func78 rfl rfl my2 (rOrbits_fn (n) ((g3)) (gens) _ _ _ (kq hs32 sm32 88 q386) q399 oX oX oX oX)) fun a39 s39 hs33 ok39 r33 sm33 => ?_
    have q409 := kq hs33 sm33 85 q396
    have q411 : At (Ty.lst Ty.ints (orbsL n (gens) n)) s39 a39 (.tmp 90) := r33
    clear r33
    refine tD (T := (Ty.bool (decide (((orbsL n gens n)) = ((orbsL n (gens) n)))))) ok39 q409 (y_call _ Try.func29 rfl rfl my2 (rSameAll_fn ((orbsL n gens n)) ((orbsL n (gens) n)) _ _ _ (kq hs33 sm33 87 (kq hs32 sm32 87 (kq hs31 sm31 87 q374))) q411 )) fun a40 s40 hs34 ok40 r34 sm34 => ?_
    have q421 := kq hs34 sm34 85 q409
    have q422 : At (Ty.bool (decide (((orbsL n gens n)) = ((orbsL n (gens) n))))) s40 a40 (.tmp 91) := r34
    clear r34
    refine tD (T := (Ty.bool (!(decide (((orbsL n gens n)) = ((orbsL n (gens) n))))))) ok40 q421 (y_not q422) fun a41 s41 hs35 ok41 r35 sm35 => ?_
    have q433 : At (Ty.bool (!(decide (((orbsL n gens n)) = ((orbsL n (gens) n)))))) s41 a41 (.tmp 92) := r35
    clear r35
    refine tL (R := (fun v τ => Pr.has (Ty.pr (Ty.bool (!(decide (((orbsL n gens n)) = ((orbsL n (gens) n))))))) τ v)) ok41 (Yld.toL (y_pickF (kq hs35 sm35 85 q421) q433)) fun a42 s42 hs36 ok42 r36 sm36 => ?_
    have q443 : At (Ty.bool (!(decide (((orbsL n gens n)) = ((orbsL n (gens) n)))))) s42 a42 (.tmp 93) := r36
    clear r36; refine wpList_nil (tn ?_)
    refine cond_t q443 (fun c2 => ?_) (fun c2 => ?_)
    ·
     exfalso
     simp at c2
    ·
     refine wp_skip (tn (wp_seq ?_))
     refine gI a42 s42 ok42 (gC (Ty.int (-1 : Int)) (gE ok42 fun a43 s43 ok43 D7 => ?_)); have o135 := ChnU.k0 (ChnU.kl (ChnU.kl (ChnU.kl (ChnU.kl (ChnU.kl (ChnU.kl (ChnU.kl (ChnU.kl (ChnU.kl (ChnU.kl (ChnU.kl (ChnU.kl (ChnU.kl (ChnU.kl (ChnU.kl (ChnU.kl (ChnU.kl (ChnU.kl o77 hs19) hs20) hs21) hs22) hs23) hs24) hs25) hs26) hs27) hs28) hs29) hs30) hs31) hs32) hs33) hs34) hs35) hs36) D7.stp; have o136 := OwnP.k0 (OwnP.kl (OwnP.kl (OwnP.kl (OwnP.kl (OwnP.kl (OwnP.kl o114 hs31) hs32) hs33) hs34) hs35) hs36) D7.stp; have o137 := Own.k0 (Own.kl (Own.kl (Own.kl (Own.kl (Own.kl (Own.kl o115 hs31) hs32) hs33) hs34) hs35) hs36) D7.stp; refine tn (wp_seq (wp_seq ?_))
     refine gI a43 s43 ok43 (gC (Ty.int (0 : Int)) (gE ok43 fun a44 s44 ok44 D8 => ?_)); have o138 := ChnU.k0 o135 D8.stp; have o139 := OwnP.k0 o136 D8.stp; have o140 := Own.k0 o137 D8.stp; refine tn (wp_block ?_)
     refine loop (fun n1 a45 w1 => ∃ (t5 : GW) (i : Nat) (z : Int), t5.w = w1 ∧ FromL [41, 42, 43] σ t5 ∧ Ok 209 [] a45 ∧ At (Ty.nat i) t5 a45 (.tmp 22) ∧ At (Ty.int z) t5 a45 (.tmp 21) ∧ At (Ty.val gv) t5 a45 (.tmp 0) ∧ At (Ty.nat n) t5 a45 (.tmp 1) ∧ At (Ty.lst Ty.int r) t5 a45 (.tmp 3) ∧ At (Ty.int (fitsE n r)) t5 a45 (.tmp 4) ∧ At (Ty.int bell) t5 a45 (.tmp 5) ∧ At (Ty.lst Ty.int (g1)) t5 a45 (.tmp 15) ∧ At (Ty.int (wordE n c gens r)) t5 a45 (.tmp 16) ∧ At (Ty.lst Ty.ints (g3)) t5 a45 (.tmp 19) ∧ At (Ty.lst Ty.ints (g4)) t5 a45 (.tmp 20) ∧ ChnU t5 42 22 108 cs n c us ∧ OwnP t5 41 gv [(Ty.nat n), (Ty.val gs), (Ty.val cs)] ∧ Own t5 43 22 1 gs (List.length gens) (List.map Ty.ints gens) ∧ (i ≤ g3.length) ∧ (AtI g3 r (fitsE n r) i z) ∧ (-1 ≤ z ∧ z ≤ 5040) ∧ n1 = g3.length - i) (g3.length - (0)) ?_ ?_
     ·
      exact ⟨s44, 0, (-1 : Int), rfl, ((((((((((((((((((((((((((((((((((((((((((((F0.step0 D1.stp).step0 D2.stp).sl hs1).sl hs2).sl hs3).sl hs4).sl hs5).sl hs6).step0 D3.stp).sl hs7).sl hs8).sl hs9).sl hs10).sl hs11).sl hs12).step0 D4.stp).step0 D5.stp).sl hs13).sl hs14).sl hs15).sl hs16).sl hs17).sl hs18).step0 D6.stp).sl hs19).sl hs20).sl hs21).sl hs22).sl hs23).sl hs24).sl hs25).sl hs26).sl hs27).sl hs28).sl hs29).sl hs30).sl hs31).sl hs32).sl hs33).sl hs34).sl hs35).sl hs36).step0 D7.stp).step0 D8.stp), ok44, (cJ (D8.m 0 rfl)), (cJ (D8.k (D7.m 0 rfl))), (D8.k (D7.k (kq hs36 sm36 0 (kq hs35 sm35 0 (kq hs34 sm34 0 (kq hs33 sm33 0 (kq hs32 sm32 0 (kq hs31 sm31 0 (kq hs30 sm30 0 (kq hs29 sm29 0 q342)))))))))), (D8.k (D7.k (kq hs36 sm36 1 (kq hs35 sm35 1 (kq hs34 sm34 1 (kq hs33 sm33 1 (kq hs32 sm32 1 (kq hs31 sm31 1 q365)))))))), (D8.k (D7.k (kq hs36 sm36 3 (kq hs35 sm35 3 (kq hs34 sm34 3 (kq hs33 sm33 3 (kq hs32 sm32 3 (kq hs31 sm31 3 (kq hs30 sm30 3 (kq hs29 sm29 3 (kq hs28 sm28 3 (kq hs27 sm27 3 (kq hs26 sm26 3 (kq hs25 sm25 3 (kq hs24 sm24 3 (kq hs23 sm23 3 (kq hs22 sm22 3 (kq hs21 sm21 3 (kq hs20 sm20 3 (kq hs19 sm19 3 (D6.k (kq hs18 sm18 3 (kq hs17 sm17 3 (kq hs16 sm16 3 (kq hs15 sm15 3 (kq hs14 sm14 3 (kq hs13 sm13 3 (D5.k (D4.k (kq hs12 sm12 3 (kq hs11 sm11 3 (kq hs10 sm10 3 (kq hs9 sm9 3 (kq hs8 sm8 3 (kq hs7 sm7 3 (D3.k (kq hs6 sm6 3 (kq hs5 sm5 3 (kq hs4 sm4 3 (kq hs3 sm3 3 (kq hs2 sm2 3 (kq hs1 sm1 3 (D2.k q4))))))))))))))))))))))))))))))))))))))))))), (D8.k (D7.k (kq hs36 sm36 4 (kq hs35 sm35 4 (kq hs34 sm34 4 (kq hs33 sm33 4 (kq hs32 sm32 4 (kq hs31 sm31 4 (kq hs30 sm30 4 (kq hs29 sm29 4 (kq hs28 sm28 4 (kq hs27 sm27 4 (kq hs26 sm26 4 (kq hs25 sm25 4 (kq hs24 sm24 4 (kq hs23 sm23 4 (kq hs22 sm22 4 (kq hs21 sm21 4 (kq hs20 sm20 4 (kq hs19 sm19 4 (D6.k (kq hs18 sm18 4 (kq hs17 sm17 4 (kq hs16 sm16 4 (kq hs15 sm15 4 (kq hs14 sm14 4 (kq hs13 sm13 4 (D5.k (D4.k (kq hs12 sm12 4 (kq hs11 sm11 4 (kq hs10 sm10 4 (kq hs9 sm9 4 (kq hs8 sm8 4 (kq hs7 sm7 4 (D3.k (kq hs6 sm6 4 (kq hs5 sm5 4 (kq hs4 sm4 4 (kq hs3 sm3 4 (kq hs2 sm2 4 (kq hs1 sm1 4 (D2.k (D1.k p4)))))))))))))))))))))))))))))))))))))))))))), (D8.k (D7.k (kq hs36 sm36 5 (kq hs35 sm35 5 (kq hs34 sm34 5 (kq hs33 sm33 5 (kq hs32 sm32 5 (kq hs31 sm31 5 (kq hs30 sm30 5 (kq hs29 sm29 5 (kq hs28 sm28 5 (kq hs27 sm27 5 (kq hs26 sm26 5 (kq hs25 sm25 5 (kq hs24 sm24 5 (kq hs23 sm23 5 (kq hs22 sm22 5 (kq hs21 sm21 5 (kq hs20 sm20 5 (kq hs19 sm19 5 (D6.k (kq hs18 sm18 5 (kq hs17 sm17 5 (kq hs16 sm16 5 (kq hs15 sm15 5 (kq hs14 sm14 5 (kq hs13 sm13 5 (D5.k (D4.k (kq hs12 sm12 5 (kq hs11 sm11 5 (kq hs10 sm10 5 (kq hs9 sm9 5 (kq hs8 sm8 5 (kq hs7 sm7 5 (D3.k (kq hs6 sm6 5 (kq hs5 sm5 5 (kq hs4 sm4 5 (kq hs3 sm3 5 (kq hs2 sm2 5 (kq hs1 sm1 5 (D2.k (D1.k p5)))))))))))))))))))))))))))))))))))))))))))), (D8.k (D7.k (kq hs36 sm36 15 (kq hs35 sm35 15 (kq hs34 sm34 15 (kq hs33 sm33 15 (kq hs32 sm32 15 (kq hs31 sm31 15 (kq hs30 sm30 15 (kq hs29 sm29 15 (kq hs28 sm28 15 (kq hs27 sm27 15 (kq hs26 sm26 15 (kq hs25 sm25 15 (kq hs24 sm24 15 (kq hs23 sm23 15 (kq hs22 sm22 15 (kq hs21 sm21 15 (kq hs20 sm20 15 (kq hs19 sm19 15 (D6.k (kq hs18 sm18 15 (kq hs17 sm17 15 (kq hs16 sm16 15 (kq hs15 sm15 15 (kq hs14 sm14 15 (kq hs13 sm13 15 (D5.k (D4.k (kq hs12 sm12 15 (kq hs11 sm11 15 (kq hs10 sm10 15 (kq hs9 sm9 15 (kq hs8 sm8 15 (kq hs7 sm7 15 (D3.k (kq hs6 sm6 15 q59))))))))))))))))))))))))))))))))))))), (D8.k (D7.k (kq hs36 sm36 16 (kq hs35 sm35 16 (kq hs34 sm34 16 (kq hs33 sm33 16 (kq hs32 sm32 16 (kq hs31 sm31 16 (kq hs30 sm30 16 (kq hs29 sm29 16 (kq hs28 sm28 16 (kq hs27 sm27 16 (kq hs26 sm26 16 (kq hs25 sm25 16 (kq hs24 sm24 16 (kq hs23 sm23 16 (kq hs22 sm22 16 (kq hs21 sm21 16 (kq hs20 sm20 16 (kq hs19 sm19 16 (D6.k (kq hs18 sm18 16 (kq hs17 sm17 16 (kq hs16 sm16 16 (kq hs15 sm15 16 (kq hs14 sm14 16 (kq hs13 sm13 16 (D5.k (D4.k (kq hs12 sm12 16 (kq hs11 sm11 16 (kq hs10 sm10 16 (kq hs9 sm9 16 (kq hs8 sm8 16 (kq hs7 sm7 16 (D3.k q68)))))))))))))))))))))))))))))))))))), (D8.k (D7.k (kq hs36 sm36 19 (kq hs35 sm35 19 (kq hs34 sm34 19 (kq hs33 sm33 19 (kq hs32 sm32 19 q382))))))), (D8.k (D7.k (kq hs36 sm36 20 (kq hs35 sm35 20 (kq hs34 sm34 20 (kq hs33 sm33 20 (kq hs32 sm32 20 (kq hs31 sm31 20 (kq hs30 sm30 20 (kq hs29 sm29 20 (kq hs28 sm28 20 (kq hs27 sm27 20 (kq hs26 sm26 20 (kq hs25 sm25 20 (kq hs24 sm24 20 (kq hs23 sm23 20 (kq hs22 sm22 20 (kq hs21 sm21 20 (kq hs20 sm20 20 (kq hs19 sm19 20 (D6.k q229))))))))))))))))))))), o138, o139, o140, by omega, AtI.start, by omega, rfl⟩
     ·
      rintro n2 a46 w2 ⟨t6, i, z, rfl, F45, ok45, q465, q466, q467, q468, q469, q470, q471, q472, q473, q474, q475, o141, o142, o143, hi, hI, hzb, rfl⟩
      refine wp_seq (wp_seq ?_)
      refine gI a46 t6 ok45 (gM q465 (gM q474 (gS rfl (fun A B H I J d0 => rP (y_len Try.underlying24 (eI d0))) (gS rfl (fun A B H I J d0 d1 => rP (y_lss (eI d0) (eI d1))) (gS rfl (fun A B H I J d0 => rP (y_move (eI d0))) (gS rfl (fun A B H I J d0 => gu I (eI d0) fun hg => y_move (kp (J 4 rfl) H q470)) (gS rfl (fun A B H I J d0 d1 => gu I (eI d1) fun hg => y_eql ((ef d0 rfl).1 hg) rfl) (gS rfl (fun A B H I J d0 d1 => rP (y_pick_and (eI d0) (eI d1) rfl)) (gE ok45 fun a47 s45 ok46 D9 => ?_))))))))); have F46 := F45.step0 D9.stp; have q476 := D9.k q465; have q477 := D9.k q466; have q478 := D9.k q467; have q479 := D9.k q468; have q480 := D9.k q469; have q481 := D9.k q470; have q482 := D9.k q471; have q483 := D9.k q472; have q484 := D9.k q473; have q485 := D9.k q474; have q486 := D9.k q475; have o144 := ChnU.k0 o141 D9.stp; have o145 := OwnP.k0 o142 D9.stp; have o146 := Own.k0 o143 D9.stp; refine tn ?_
      refine cond_t (D9.m 7 rfl) (fun c3 => ?_) (fun c3 => ?_)
      ·
       obtain ⟨d1, d2⟩ := Bool.and_eq_true_iff.mp c3
       replace d1 := of_decide_eq_true d1
       replace d2 := of_decide_eq_true d2
       simp only [Bool.and_eq_true, decide_eq_true_eq] at c3; have hf0 : fitsE n r = 0 := c3.2
       refine wp_skip (tn (wp_seq (wp_block (wp_seq ?_))))
       refine gI a47 s45 ok46 (gM q485 (gM q476 (gT (Ty.ref [(Ty.lst Ty.int ((g3).getD i []))]) rfl (fun A B H I J d0 d1 => rP (y_index1 Try.underlying24 Try.inf22 (eI d0) (eI d1) oM (lst_get Ty.ints (g3) [] i oM))) (gS rfl (fun A B H I J d0 => rP (y_load Try.underlying22 rfl (eI d0) rfl)) (gM q480 (gS rfl (fun A B H I J d0 d1 => rP (y_call _ Try.func37 rfl rfl my2 (rsame_fn (((g3).getD i [])) (r) _ _ _ (eI d0) (eI d1) ))) (gB 0 (gE ok46 fun a48 s46 ok47 D10 => ?_)))))))); have o147 := ChnU.k0 o144 D10.stp; have o148 := OwnP.k0 o145 D10.stp; have o149 := Own.k0 o146 D10.stp; refine tn (wp_seq ?_)
       refine gI a48 s46 ok47 (gM (D10.m 6 rfl) (gE ok47 fun a49 s47 ok48 D11 => ?_)); have F48 := (F46.step0 D10.stp).step0 D11.stp; have q500 := D11.k (D10.k q476); have q502 := D11.k (D10.k q478); have q503 := D11.k (D10.k q479); have q504 := D11.k (D10.k q480); have q505 := D11.k (D10.k q481); have q506 := D11.k (D10.k q482); have q507 := D11.k (D10.k q483); have q508 := D11.k (D10.k q484); have q509 := D11.k (D10.k q485); have q510 := D11.k (D10.k q486); have o150 := ChnU.k0 o147 D11.stp; have o151 := OwnP.k0 o148 D11.stp; have o152 := Own.k0 o149 D11.stp; refine tn ?_
       refine cond_t (D11.m 0 rfl) (fun c4 => ?_) (fun c4 => ?_)
       ·
        have hI2 := hI.yes hf0 (by first | exact c4 | exact of_decide_eq_true c4)
        refine gI a49 s47 ok48 (gM q500 (gB 0 (gE ok48 fun a50 s48 ok49 D12 => ?_))); have o153 := ChnU.k0 o150 D12.stp; have o154 := OwnP.k0 o151 D12.stp; have o155 := Own.k0 o152 D12.stp; refine bn (tn ?_)
        refine gI a50 s48 ok49 (gM (D12.k q500) (gT (Ty.nat (i + 1)) rfl (fun A B H I J d0 => rP ((y_add (eI d0) rfl wX).mono (fun τ _ h => cN (σ := τ) h))) (gB 0 (gE ok49 fun a51 s49 ok50 D13 => ?_)))); have o156 := ChnU.k0 o153 D13.stp; have o157 := OwnP.k0 o154 D13.stp; have o158 := Own.k0 o155 D13.stp
        exact tn ⟨g3.length - ((i+1)), by omega, s49, (i+1), (i : Int), rfl, ((F48.step0 D12.stp).step0 D13.stp), ok50, (cJ (D13.m 2 rfl)), (cJ (D13.k (D12.m 1 rfl))), (D13.k (D12.k q502)), (D13.k (D12.k q503)), (D13.k (D12.k q504)), (D13.k (D12.k q505)), (D13.k (D12.k q506)), (D13.k (D12.k q507)), (D13.k (D12.k q508)), (D13.k (D12.k q509)), (D13.k (D12.k q510)), o156, o157, o158, by omega, hI2, by omega, rfl⟩
       ·
        have hI2 := hI.no (by first | exact c4 | exact of_decide_eq_false c4)
        refine wp_skip (bn (tn ?_))
        refine gI a49 s47 ok48 (gM q500 (gT (Ty.nat (i + 1)) rfl (fun A B H I J d0 => rP ((y_add (eI d0) rfl wX).mono (fun τ _ h => cN (σ := τ) h))) (gB 0 (gE ok48 fun a52 s50 ok51 D14 => ?_)))); have o159 := ChnU.k0 o150 D14.stp; have o160 := OwnP.k0 o151 D14.stp; have o161 := Own.k0 o152 D14.stp
        exact tn ⟨g3.length - ((i+1)), by omega, s50, (i+1), z, rfl, (F48.step0 D14.stp), ok51, (cJ (D14.m 2 rfl)), (D14.k (D11.k (D10.k q477))), (D14.k q502), (D14.k q503), (D14.k q504), (D14.k q505), (D14.k q506), (D14.k q507), (D14.k q508), (D14.k q509), (D14.k q510), o159, o160, o161, by omega, hI2, hzb, rfl⟩
      ·
       simp only [Bool.and_eq_false_iff, decide_eq_false_iff_not] at c3; obtain ⟨hA, hB, hJ⟩ := AtI.fin hC hG hsz hRm hRW hY9 hp1 hI (fun h_ => oM)
       refine wp_exit (tx (tx (bx (tn (wp_seq (wp_seq ?_))))))
       refine gI a47 s45 ok46 (gM q481 (gS rfl (fun A B H I J d0 => rP (y_eql (eI d0) rfl)) (gS rfl (fun A B H I J d0 => rP (y_move (eI d0))) (gS rfl (fun A B H I J d0 => gu I (eI d0) fun hg => y_move (kp (J 21 rfl) H q477)) (gS rfl (fun A B H I J d0 d1 => gu I (eI d1) fun hg => y_lss ((ef d0 rfl).1 hg) rfl) (gS rfl (fun A B H I J d0 d1 => rP (y_pick_and (eI d0) (eI d1) rfl)) (gE ok46 fun a53 s51 ok52 D15 => ?_))))))); have F52 := F46.step0 D15.stp; have q545 := D15.k q477; have q546 := D15.k q478; have q547 := D15.k q479; have q549 := D15.k q482; have q550 := D15.k q483; have q551 := D15.k q484; have q552 := D15.k q485; have q553 := D15.k q486; have o162 := ChnU.k0 o144 D15.stp; have o163 := OwnP.k0 o145 D15.stp; have o164 := Own.k0 o146 D15.stp; refine tn ?_
       refine Go.KL.join_then (Q' := fun a54 w3 => ∃ (t7 : GW), t7.w = w3 ∧ FromL [41, 42, 43] σ t7 ∧ Ok 209 [] a54 ∧ At (Ty.int (wordE n c gens r)) t7 a54 (.tmp 4) ∧ At (Ty.int z) t7 a54 (.tmp 21) ∧ At (Ty.val gv) t7 a54 (.tmp 0) ∧ At (Ty.nat n) t7 a54 (.tmp 1) ∧ At (Ty.int bell) t7 a54 (.tmp 5) ∧ At (Ty.lst Ty.int (g1)) t7 a54 (.tmp 15) ∧ At (Ty.int (wordE n c gens r)) t7 a54 (.tmp 16) ∧ At (Ty.lst Ty.ints (g3)) t7 a54 (.tmp 19) ∧ At (Ty.lst Ty.ints (g4)) t7 a54 (.tmp 20) ∧ ChnU t7 42 22 108 cs n c us ∧ OwnP t7 41 gv [(Ty.nat n), (Ty.val gs), (Ty.val cs)] ∧ Own t7 43 22 1 gs (List.length gens) (List.map Ty.ints gens) ∧ True) ?_ ?_
       ·
        refine cond_t (D15.m 5 rfl) (fun c5 => ?_) (fun c5 => ?_)
        ·
         obtain ⟨d3, d4⟩ := Bool.and_eq_true_iff.mp c5
         replace d3 := of_decide_eq_true d3
         replace d4 := of_decide_eq_true d4
         refine gI a53 s51 ok52 (gC (Ty.int (14 : Int)) (gE ok52 fun a55 s52 ok53 D16 => ?_)); have o165 := ChnU.k0 o162 D16.stp; have o166 := OwnP.k0 o163 D16.stp; have o167 := Own.k0 o164 D16.stp
         exact tn ⟨s52, rfl, (F52.step0 D16.stp), ok53, (cvi (by (simp only [Bool.and_eq_true, decide_eq_true_eq] at c5; exact (hA c5.1 c5.2).symm)) (D16.m 0 rfl)), (D16.k q545), (D16.k q546), (D16.k q547), (D16.k q549), (D16.k q550), (D16.k q551), (D16.k q552), (D16.k q553), o165, o166, o167, trivial⟩
        ·
         refine wp_skip ?_
         exact tn ⟨s51, rfl, F52, ok52, (cvi (by (simp only [Bool.and_eq_false_iff, decide_eq_false_iff_not] at c5; exact hB (fun h_ => oM))) (D15.k q481)), q545, q546, q547, q549, q550, q551, q552, q553, o162, o163, o164, trivial⟩
       ·
        rintro a56 w4 ⟨t8, rfl, F54, ok54, q564, q565, q566, q567, q568, q569, q570, q571, q572, o168, o169, o170, -⟩
        refine wp_seq (wp_seq ?_)
        refine gI a56 t8 ok54 (gM q570 (gM q564 (gS rfl (fun A B H I J d0 d1 => rP (y_neq (eI d0) (eI d1))) (gS rfl (fun A B H I J d0 => rP (y_move (eI d0))) (gS rfl (fun A B H I J d0 => gu I (eI d0) fun hg => y_move (kp (J 16 rfl) H q570)) (gS rfl (fun A B H I J d0 d1 => gu I (eI d1) fun hg => y_neq ((ef d0 rfl).1 hg) rfl) (gS rfl (fun A B H I J d0 d1 d2 => gu I (eI d1) fun hg => y_mv ((ef d0 rfl).1 hg)) (gS rfl (fun A B H I J d0 => gu2 I (eI d0) fun hg => y_move (kp (J 15 rfl) H q569)) (gS rfl (fun A B H I J d0 d1 => gu2 I (eI d1) fun hg => y_len Try.underlying22 ((ef d0 rfl).1 hg)) (gS rfl (fun A B H I J d0 d1 => gu2 I (eI d1) fun hg => y_gtr ((ef d0 rfl).1 hg) rfl) (gS rfl (fun A B H I J d0 d1 d2 => gu I (eI d2) fun hg => y_pick_and ((ef d0 rfl).1 hg) (grd_part hg (eI d1)) rfl) (gS rfl (fun A B H I J d0 d1 => rP (y_pick_or (eI d0) rfl (eI d1))) (gS rfl (fun A B H I J d0 d1 => rP (y_move (eI d0))) (gT (Ty.grd (((decide ((wordE n c gens r) ≠ (wordE n c gens r))) || ((decide ((wordE n c gens r) ≠ (0 : Int))) && (decide ((0 : Int) < (((List.length (g1)) : Nat) : Int))))) = false) (Ty.int (wordE n c gens r))) rfl (by intro A B H I J d0; refine run_guard I rfl rfl dE (eI d0) (fun hg => ?_); obtain ⟨d5, d6⟩ := Bool.or_eq_false_iff.mp hg; have d5 := of_decide_eq_false d5; exact y_move (kp (J 16 rfl) H q570)) ?_))))))))))))))
        refine gT (Ty.grd (((decide ((wordE n c gens r) ≠ (wordE n c gens r))) || ((decide ((wordE n c gens r) ≠ (0 : Int))) && (decide ((0 : Int) < (((List.length (g1)) : Nat) : Int))))) = false) (Ty.bool (decide ((wordE n c gens r) = (0 : Int))))) rfl (by intro A B H I J d0 d1; refine run_guard I rfl rfl dE (eI d1) (fun hg => ?_); obtain ⟨d7, d8⟩ := Bool.or_eq_false_iff.mp hg; have d7 := of_decide_eq_false d7; exact y_eql ((ef d0 rfl).1 hg) rfl) (gT (Ty.grd (((decide ((wordE n c gens r) ≠ (wordE n c gens r))) || ((decide ((wordE n c gens r) ≠ (0 : Int))) && (decide ((0 : Int) < (((List.length (g1)) : Nat) : Int))))) = false) (Ty.bool (decide ((wordE n c gens r) = (0 : Int))))) rfl (by intro A B H I J d0 d1 d2; refine run_guard I rfl rfl dE (eI d1) (fun hg => ?_); obtain ⟨d9, d10⟩ := Bool.or_eq_false_iff.mp hg; have d9 := of_decide_eq_false d9; exact y_move ((ef d0 rfl).1 hg)) (gS rfl (fun A B H I J d0 => gu2 I (eI d0) fun hg => y_move (kp (J 15 rfl) H q569)) (gS rfl (fun A B H I J d0 => gu2 I (eI d0) fun hg => y_move (kp (J 20 rfl) H q572)) (gS rfl (fun A B H I J d0 => gu2 I (eI d0) fun hg => y_move (kp (J 21 rfl) H q565)) (gT (Ty.grd ((((decide ((wordE n c gens r) ≠ (wordE n c gens r))) || ((decide ((wordE n c gens r) ≠ (0 : Int))) && (decide ((0 : Int) < (((List.length (g1)) : Nat) : Int))))) = false) ∧ (decide ((wordE n c gens r) = (0 : Int))) = true) (Ty.ref [(Ty.lst Ty.int ((g4).getD (z).toNat []))])) rfl (by intro A B H I J d0 d1 d2; refine run_guard2 I rfl rfl dE (eI d2) (fun hg => ?_); have hp := of_decide_eq_true hg.2; obtain ⟨a, ha1, ha2, ha3⟩ := hJ hp; exact y_index1 Try.underlying24 Try.inf22 ((ef d0 rfl).1 hg) ((ef d1 rfl).1 hg) oM (lst_get Ty.ints (g4) [] (z).toNat oM)) ?_)))))
        refine gT (Ty.grd ((((decide ((wordE n c gens r) ≠ (wordE n c gens r))) || ((decide ((wordE n c gens r) ≠ (0 : Int))) && (decide ((0 : Int) < (((List.length (g1)) : Nat) : Int))))) = false) ∧ (decide ((wordE n c gens r) = (0 : Int))) = true) (Ty.lst Ty.int ((g4).getD (z).toNat []))) rfl (by intro A B H I J d0 d1; refine run_guard2 I rfl rfl dE (eI d1) (fun hg => ?_); have hp := of_decide_eq_true hg.2; obtain ⟨a, ha1, ha2, ha3⟩ := hJ hp; exact y_load Try.underlying22 rfl ((ef d0 rfl).1 hg) rfl) (gT (Ty.grd ((((decide ((wordE n c gens r) ≠ (wordE n c gens r))) || ((decide ((wordE n c gens r) ≠ (0 : Int))) && (decide ((0 : Int) < (((List.length (g1)) : Nat) : Int))))) = false) ∧ (decide ((wordE n c gens r) = (0 : Int))) = true) (Ty.bool (decide (((g1)) = (((g4).getD (z).toNat [])))))) rfl (by intro A B H I J d0 d1 d2 d3; refine run_guard2 I rfl rfl dE (eI d2) (fun hg => ?_); have hp := of_decide_eq_true hg.2; exact y_call _ Try.func37 rfl rfl my2 (rsame_fn ((g1)) (((g4).getD (z).toNat [])) _ _ _ ((ef d0 rfl).1 hg) ((ef d1 rfl).1 hg) )) (gS rfl (fun A B H I J d0 d1 => gu2 I (eI d1) fun hg => y_not ((ef d0 rfl).1 hg)) (gT (Ty.grd (((decide ((wordE n c gens r) ≠ (wordE n c gens r))) || ((decide ((wordE n c gens r) ≠ (0 : Int))) && (decide ((0 : Int) < (((List.length (g1)) : Nat) : Int))))) = false) (Ty.bool ((decide ((wordE n c gens r) = (0 : Int))) && (!(decide (((g1)) = (((g4).getD (z).toNat [])))))))) rfl (by intro A B H I J d0 d1 d2; refine run_guard I rfl rfl dE (eI d2) (fun hg => ?_); obtain ⟨d11, d12⟩ := Bool.or_eq_false_iff.mp hg; have d11 := of_decide_eq_false d11; exact y_pick_and ((ef d0 rfl).1 hg) (grd_part hg (eI d1)) rfl) ?_)))
        refine gS rfl (fun A B H I J d0 d1 => rP (y_pick_or (eI d0) rfl (eI d1))) (gE ok54 fun a57 s53 ok55 D17 => ?_); have q575 := D17.k q568; have o171 := ChnU.k0 o168 D17.stp; have o172 := OwnP.k0 o169 D17.stp; have o173 := Own.k0 o170 D17.stp; refine tn ?_
        refine cond_t (D17.m 24 rfl) (fun c6 => ?_) (fun c6 => ?_)
        ·
         exfalso
         (by_cases h0 : wordE n c gens r = 0; (obtain ⟨a, ha1, ha2, ha3⟩ := hJ h0; subst ha1; rw [Int.toNat_natCast, ← ha3] at c6; simp [h0] at c6); (have hz_ := hp1.2 h0; subst hz_; simp [h0] at c6))
        ·
         obtain ⟨d13, d14⟩ := Bool.or_eq_false_iff.mp c6
         obtain ⟨d15, d16⟩ := Bool.or_eq_false_iff.mp d13
         replace d15 := of_decide_eq_false d15
         refine wp_skip (tn (wp_seq ?_))
         refine gI a57 s53 ok55 (gM (D17.k q566) (gM q575 (gE2 ok55 fun a58 s54 ok56 D18 => ?_))); have o174 := ChnU.k0 o171 D18.stp; have o175 := OwnP.k0 o172 D18.stp; have o176 := Own.k0 o173 D18.stp
         refine tL ok56 (y_callL (L := [41, 42, 43]) [(41, 41), (42, 42), (43, 43)] [(41, 41), (42, 42), (43, 43)] #[a58.eval (.tmp 144), a58.eval (.tmp 145)] rfl dE Try.func56 rfl rfl my2 (gStillN_fn (gv) (gs) (cs) (us) (n) (c) (gens) (bell) _ lW _ _ (uL (D18.m 0 rfl)) (uL (cvi (σ := s54) oX (D18.m 1 rfl))) (OwnP.ren o175 (GW.ren_lend _ _ dE rfl)) (ChnU.ren o174 (GW.ren_lend _ _ dE rfl)) (Own.ren o176 (GW.ren_lend _ _ dE rfl)) oX oX oX)) fun a59 s55 hs37 ok57 r37 sm37 => ?_
         obtain ⟨t9, ⟨hT5, o177, o178, o179⟩, B5⟩ := r37
         have q586 : At (Ty.tup2 (Ty.val (Value.pointer none)) (Ty.int (12 : Int))) s55 a59 (.tmp 146) := Ty.up _ B5.le hT5
         have o180 : OwnP s55 41 gv [(Ty.nat n), (Ty.val gs), (Ty.val cs)] := OwnP.ren o177 (B5.ren dE rfl)
         have o181 : ChnU s55 42 22 108 cs n c us := ChnU.ren o178 (B5.ren dE rfl)
         have o182 : Own s55 43 22 1 gs (List.length gens) (List.map Ty.ints gens) := Own.ren o179 (B5.ren dE rfl)
         refine tL ok57 (Yld.toL (y_mv q586)) fun a60 s56 hs38 ok58 r38 sm38 => ?_
         have q590 : At (Ty.tup2 (Ty.val (Value.pointer none)) (Ty.int (12 : Int))) s56 a60 (.tmp 143) := r38
         clear r38
         refine tL (R := (fun v τ => Pr.has (Ty.pr (Ty.val (Value.pointer none))) τ v)) ok58 (Yld.toL (y_ext2_0 q590)) fun a61 s57 hs39 ok59 r39 sm39 => ?_
         have q595 : At (Ty.val (Value.pointer none)) s57 a61 (.tmp 147) := r39
         clear r39
         refine tL (R := (fun v τ => Pr.has (Ty.pr (Ty.int (12 : Int))) τ v)) ok59 (Yld.toL (y_ext2_1 (kq hs39 sm39 143 q590))) fun a62 s58 hs40 ok60 r40 sm40 => ?_
         have q600 : At (Ty.int (12 : Int)) s58 a62 (.tmp 148) := r40
         clear r40
         refine tL ok60 (Yld.toL (y_as (kq hs40 sm40 147 q595))) fun a63 s59 hs41 ok61 r41 sm41 => ?_
         have q605 : At (Ty.val (Value.pointer none)) s59 a63 (.tmp 24) := r41
         clear r41
         refine tL ok61 (Yld.toL (y_as (kq hs41 sm41 148 q600))) fun a64 s60 hs42 ok62 r42 sm42 => ?_
         have q607 := kq hs42 sm42 5 (kq hs41 sm41 5 (kq hs40 sm40 5 (kq hs39 sm39 5 (kq hs38 sm38 5 (kq hs37 sm37 5 (D18.k q575)))))); have q608 := kq hs42 sm42 19 (kq hs41 sm41 19 (kq hs40 sm40 19 (kq hs39 sm39 19 (kq hs38 sm38 19 (kq hs37 sm37 19 (D18.k (D17.k q571)))))))
         have q610 : At (Ty.int (12 : Int)) s60 a64 (.tmp 16) := r42
         clear r42; refine wpList_nil (tn (wp_seq (wp_seq ?_)))
         refine gI a64 s60 ok62 (gM q607 (gS rfl (fun A B H I J d0 => rP (y_lss (eI d0) rfl)) (gS rfl (fun A B H I J d0 => rP (y_move (eI d0))) (gS rfl (fun A B H I J d0 => gu I (eI d0) fun hg => y_move (kp (J 5 rfl) H q607)) (gS rfl (fun A B H I J d0 => gu I (eI d0) fun hg => y_move (kp (J 1 rfl) H (kq hs42 sm42 1 (kq hs41 sm41 1 (kq hs40 sm40 1 (kq hs39 sm39 1 (kq hs38 sm38 1 (kq hs37 sm37 1 (D18.k (D17.k q567)))))))))) (gS rfl (fun A B H I J d0 d1 d2 => gu I (eI d2) fun hg => y_geq ((ef d0 rfl).1 hg) ((ef d1 rfl).1 hg)) (gS rfl (fun A B H I J d0 d1 => rP (y_pick_or (eI d0) rfl (eI d1))) (gE ok62 fun a65 s61 ok63 D19 => ?_)))))))); have o198 := OwnP.k0 (OwnP.kl (OwnP.kl (OwnP.kl (OwnP.kl (OwnP.kl o180 hs38) hs39) hs40) hs41) hs42) D19.stp; have o199 := ChnU.k0 (ChnU.kl (ChnU.kl (ChnU.kl (ChnU.kl (ChnU.kl o181 hs38) hs39) hs40) hs41) hs42) D19.stp; have o200 := Own.k0 (Own.kl (Own.kl (Own.kl (Own.kl (Own.kl o182 hs38) hs39) hs40) hs41) hs42) D19.stp; refine tn ?_
         refine cond_t (D19.m 6 rfl) (fun c7 => ?_) (fun c7 => ?_)
         ·
          refine wp_seq ?_
          refine gI a65 s61 ok63 (gM (D19.k q610) (gT (Ty.bool true) rfl (fun A B H I J d0 => rP ((y_eql (eI d0) rfl).mono (fun τ _ h => cvb (σ := τ) dE h))) (gS rfl (fun A B H I J d0 => rP (y_move (eI d0))) (gS rfl (fun A B H I J d0 => gu I (eI d0) fun hg => y_move (kp (J 24 rfl) H (D19.k (kq hs42 sm42 24 q605)))) (gT (Ty.grd (true = true) (Ty.bool true)) rfl (fun A B H I J d0 d1 => gu I (eI d1) fun hg => y_nilnil Try.underlying26 ((ef d0 rfl).1 hg) rfl) (gS rfl (fun A B H I J d0 d1 => rP (y_pick_and (eI d0) (eI d1) rfl)) (gB 0 (gE ok63 fun a66 s62 ok64 D20 => ?_)))))))); have o201 := OwnP.k0 o198 D20.stp; have o202 := ChnU.k0 o199 D20.stp; have o203 := Own.k0 o200 D20.stp; refine tn (wp_ret (tr ?_))
          exact retL1 rfl ok64 ((((((((((F54.step0 D17.stp).step0 D18.stp).sl hs37).sl hs38).sl hs39).sl hs40).sl hs41).sl hs42).step0 D19.stp).step0 D20.stp) ⟨(cvb (by (rfl)) (D20.m 6 rfl)), o201, o202, o203⟩
         ·
          exfalso
          simp only [Bool.or_eq_false_iff, decide_eq_false_iff_not] at c7; omega


end Go.Proofs.Ytkjifbgofckfeaa
