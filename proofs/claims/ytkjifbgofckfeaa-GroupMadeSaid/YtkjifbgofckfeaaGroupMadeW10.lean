/- The functions that the law GroupMade reaches, each by its contract. Part 10. -/
import Derived.Test.YtkjifbgofckfeaaGroupMadeW9
namespace Go.Proofs.Ytkjifbgofckfeaa
open Go.KL

set_option maxHeartbeats 4000000 in
set_option maxRecDepth 100000 in
theorem gRowsC_fn (gv : Value) (gs : Value) (cs : Value) (us : List Value) (n : Nat) (c : Nat → Lev) (gens : List (List Int)) (r : List Int) (b : Nat) (σ : GW) (hlow : Low [41, 42, 43] σ) (v0 v1 v2 v3 v4 v5 v6 : Value) (hv0 : Ty.has (Ty.val gv) σ v0) (hv1 : Ty.has (Ty.nat n) σ v1) (hv2 : Ty.has (Ty.lst Ty.ints gens) σ v2) (hv3 : Ty.has (Ty.lst Ty.int r) σ v3) (hv4 : Ty.has (Ty.int (fitsE n r)) σ v4) (hv5 : Ty.has (Ty.nat b) σ v5) (hv6 : Ty.has (Ty.nat (szTo n (fun y => y ∈ gens) n)) σ v6) (ho_gv : OwnP σ 41 gv [(Ty.nat n), (Ty.val gs), (Ty.val cs)]) (ho_cs : ChnU σ 42 22 108 cs n c us) (ho_gs : Own σ 43 22 1 gs (List.length gens) (List.map Ty.ints gens)) (hC : ChnOf n gens c) (hG : ∀ x ∈ gens, RowN n x) (hGl : gens.length ≤ 8) (hsz : (szTo n (fun y => y ∈ gens) n) ≤ 5040) (hb : b < n) :
    FnL Try.prog 47 #[v0, v1, v2, v3, v4, v5, v6] σ [41, 42, 43] (fun v τ => (Ty.has (Ty.bool true) τ v) ∧ (OwnP τ 41 gv [(Ty.nat n), (Ty.val gs), (Ty.val cs)]) ∧ (ChnU τ 42 22 108 cs n c us) ∧ (Own τ 43 22 1 gs (List.length gens) (List.map Ty.ints gens))) := by
 have hn := hC.wc.nn
 have hw := hC.wc
 have hsb := szTo_bd (n := n) (S := fun y => y ∈ gens) (k := n) hn.2
 refine fn_introL hlow Try.func47 rfl Try.ntmps47 (Nat.le_of_ble_eq_true rfl) (fun a0 F0 ok0 hargs => ?_)
 have p0 := pB (hargs 0 _ rfl) hv0
 have p1 := pB (hargs 1 _ rfl) hv1
 have p2 := pB (hargs 2 _ rfl) hv2
 have b1 := sl_le p2
 have p3 := pB (hargs 3 _ rfl) hv3
 have b2 := sl_le p3
 have p4 := pB (hargs 4 _ rfl) hv4
 have p5 := pB (hargs 5 _ rfl) hv5
 have p6 := pB (hargs 6 _ rfl) hv6
 clear hargs; refine wp_seq ?_
 refine gI a0 σ ok0 (gC (Ty.bool false) (gE ok0 fun a1 s1 ok1 D1 => ?_)); have q1 := D1.k p0; have q4 := D1.k p3; have o1 := OwnP.k0 ho_gv D1.stp; have o2 := ChnU.k0 ho_cs D1.stp; have o3 := Own.k0 ho_gs D1.stp; refine tn (wp_seq ?_)
 refine gI a1 s1 ok1 (gM q1 (gM q4 (gE2 ok1 fun a2 s2 ok2 D2 => ?_))); have o4 := OwnP.k0 o1 D2.stp; have o5 := ChnU.k0 o2 D2.stp; have o6 := Own.k0 o3 D2.stp
 refine tL ok2 (y_callL (L := [41, 42, 43]) [(41, 41), (42, 42), (43, 43)] [(41, 41), (42, 42), (43, 43)] #[a2.eval (.tmp 29), a2.eval (.tmp 30)] rfl dE Try.func59 rfl rfl my2 (gWord_fn (gv) (gs) (cs) (us) (n) (c) (gens) (r) _ lW _ _ (uL (D2.m 0 rfl)) (uL (D2.m 1 rfl)) (OwnP.ren o4 (GW.ren_lend _ _ dE rfl)) (ChnU.ren o5 (GW.ren_lend _ _ dE rfl)) (Own.ren o6 (GW.ren_lend _ _ dE rfl)) oX oX oX)) fun a3 s3 hs1 ok3 r1 sm1 => ?_
 obtain ⟨t1, ⟨g1, hT1, o7, o8, o9, hp1⟩, B1⟩ := r1
 have q24 : At (Ty.tup2 (Ty.lst Ty.int (g1)) (Ty.int (wordE n c gens r))) s3 a3 (.tmp 31) := Ty.up _ B1.le hT1
 have o10 : OwnP s3 41 gv [(Ty.nat n), (Ty.val gs), (Ty.val cs)] := OwnP.ren o7 (B1.ren dE rfl)
 have o11 : ChnU s3 42 22 108 cs n c us := ChnU.ren o8 (B1.ren dE rfl)
 have o12 : Own s3 43 22 1 gs (List.length gens) (List.map Ty.ints gens) := Own.ren o9 (B1.ren dE rfl)
 refine tL ok3 (Yld.toL (y_mv q24)) fun a4 s4 hs2 ok4 r2 sm2 => ?_
 have q32 : At (Ty.tup2 (Ty.lst Ty.int (g1)) (Ty.int (wordE n c gens r))) s4 a4 (.tmp 28) := r2
 clear r2
 refine tL (R := (fun v τ => Pr.has (Ty.pr (Ty.lst Ty.int (g1))) τ v)) ok4 (Yld.toL (y_ext2_0 q32)) fun a5 s5 hs3 ok5 r3 sm3 => ?_
 have q41 : At (Ty.lst Ty.int (g1)) s5 a5 (.tmp 32) := r3
 clear r3
 refine tL (R := (fun v τ => Pr.has (Ty.pr (Ty.int (wordE n c gens r))) τ v)) ok5 (Yld.toL (y_ext2_1 (kq hs3 sm3 28 q32))) fun a6 s6 hs4 ok6 r4 sm4 => ?_
 have q50 : At (Ty.int (wordE n c gens r)) s6 a6 (.tmp 33) := r4
 clear r4
 refine tL ok6 (Yld.toL (y_as (kq hs4 sm4 32 q41))) fun a7 s7 hs5 ok7 r5 sm5 => ?_
 have q59 : At (Ty.lst Ty.int (g1)) s7 a7 (.tmp 15) := r5
 clear r5
 refine tL ok7 (Yld.toL (y_as (kq hs5 sm5 33 q50))) fun a8 s8 hs6 ok8 r6 sm6 => ?_
 have q60 := kq hs6 sm6 0 (kq hs5 sm5 0 (kq hs4 sm4 0 (kq hs3 sm3 0 (kq hs2 sm2 0 (kq hs1 sm1 0 (D2.k q1))))))
 have q68 : At (Ty.int (wordE n c gens r)) s8 a8 (.tmp 16) := r6
 clear r6; refine wpList_nil (tn (wp_seq ?_))
 refine gI a8 s8 ok8 (gM q60 (gE2 ok8 fun a9 s9 ok9 D3 => ?_)); have o28 := OwnP.k0 (OwnP.kl (OwnP.kl (OwnP.kl (OwnP.kl (OwnP.kl o10 hs2) hs3) hs4) hs5) hs6) D3.stp; have o29 := ChnU.k0 (ChnU.kl (ChnU.kl (ChnU.kl (ChnU.kl (ChnU.kl o11 hs2) hs3) hs4) hs5) hs6) D3.stp; have o30 := Own.k0 (Own.kl (Own.kl (Own.kl (Own.kl (Own.kl o12 hs2) hs3) hs4) hs5) hs6) D3.stp
 refine tL ok9 (y_callL (L := [41, 42, 43]) [(41, 41), (42, 42), (43, 43)] [(41, 41), (42, 42), (43, 43)] #[a9.eval (.tmp 35)] rfl dE Try.func60 rfl rfl my1 (gElts_fn (gv) (gs) (cs) (us) (n) (c) (gens) _ lW _ (uL (D3.m 0 rfl)) (OwnP.ren o28 (GW.ren_lend _ _ dE rfl)) (ChnU.ren o29 (GW.ren_lend _ _ dE rfl)) (Own.ren o30 (GW.ren_lend _ _ dE rfl)) oX oX)) fun a10 s10 hs7 ok10 r7 sm7 => ?_
 obtain ⟨t2, ⟨g2, hT2, o31, o32, o33, hp2⟩, B2⟩ := r7
 have q88 : At (Ty.tup2 (Ty.lst Ty.ints (g2)) (Ty.int (eltE n gens))) s10 a10 (.tmp 36) := Ty.up _ B2.le hT2
 have o34 : OwnP s10 41 gv [(Ty.nat n), (Ty.val gs), (Ty.val cs)] := OwnP.ren o31 (B2.ren dE rfl)
 have o35 : ChnU s10 42 22 108 cs n c us := ChnU.ren o32 (B2.ren dE rfl)
 have o36 : Own s10 43 22 1 gs (List.length gens) (List.map Ty.ints gens) := Own.ren o33 (B2.ren dE rfl)
 refine tL ok10 (Yld.toL (y_mv q88)) fun a11 s11 hs8 ok11 r8 sm8 => ?_
 have q98 : At (Ty.tup2 (Ty.lst Ty.ints (g2)) (Ty.int (eltE n gens))) s11 a11 (.tmp 34) := r8
 clear r8
 refine tL (R := (fun v τ => Pr.has (Ty.pr (Ty.lst Ty.ints (g2))) τ v)) ok11 (Yld.toL (y_ext2_0 q98)) fun a12 s12 hs9 ok12 r9 sm9 => ?_
 have q109 : At (Ty.lst Ty.ints (g2)) s12 a12 (.tmp 37) := r9
 clear r9
 refine tL (R := (fun v τ => Pr.has (Ty.pr (Ty.int (eltE n gens))) τ v)) ok12 (Yld.toL (y_ext2_1 (kq hs9 sm9 34 q98))) fun a13 s13 hs10 ok13 r10 sm10 => ?_
 have q120 : At (Ty.int (eltE n gens)) s13 a13 (.tmp 38) := r10
 clear r10
 refine tL ok13 (Yld.toL (y_as (kq hs10 sm10 37 q109))) fun a14 s14 hs11 ok14 r11 sm11 => ?_
 have q131 : At (Ty.lst Ty.ints (g2)) s14 a14 (.tmp 17) := r11
 clear r11
 refine tL ok14 (Yld.toL (y_as (kq hs11 sm11 38 q120))) fun a15 s15 hs12 ok15 r12 sm12 => ?_
 have q142 : At (Ty.int (eltE n gens)) s15 a15 (.tmp 18) := r12
 clear r12; refine wpList_nil (tn (wp_seq (wp_seq ?_)))
 refine gI a15 s15 ok15 (gM (kq hs12 sm12 6 (kq hs11 sm11 6 (kq hs10 sm10 6 (kq hs9 sm9 6 (kq hs8 sm8 6 (kq hs7 sm7 6 (D3.k (kq hs6 sm6 6 (kq hs5 sm5 6 (kq hs4 sm4 6 (kq hs3 sm3 6 (kq hs2 sm2 6 (kq hs1 sm1 6 (D2.k (D1.k p6))))))))))))))) (gS rfl (fun A B H I J d0 => rP (y_gtr (eI d0) rfl)) (gE ok15 fun a16 s16 ok16 D4 => ?_))); have q144 := D4.k (kq hs12 sm12 1 (kq hs11 sm11 1 (kq hs10 sm10 1 (kq hs9 sm9 1 (kq hs8 sm8 1 (kq hs7 sm7 1 (D3.k (kq hs6 sm6 1 (kq hs5 sm5 1 (kq hs4 sm4 1 (kq hs3 sm3 1 (kq hs2 sm2 1 (kq hs1 sm1 1 (D2.k (D1.k p1))))))))))))))); have o52 := OwnP.k0 (OwnP.kl (OwnP.kl (OwnP.kl (OwnP.kl (OwnP.kl o34 hs8) hs9) hs10) hs11) hs12) D4.stp; have o53 := ChnU.k0 (ChnU.kl (ChnU.kl (ChnU.kl (ChnU.kl (ChnU.kl o35 hs8) hs9) hs10) hs11) hs12) D4.stp; have o54 := Own.k0 (Own.kl (Own.kl (Own.kl (Own.kl (Own.kl o36 hs8) hs9) hs10) hs11) hs12) D4.stp; refine tn ?_
 refine cond_p (p := ((5040 : Int) < (((szTo n (fun y => y ∈ gens) n) : Nat) : Int))) (D4.m 1 rfl) (fun c1 => ?_) (fun c1 => ?_)
 ·
  exfalso
  omega
 ·
  refine wp_skip (tn (wp_seq ?_))
  refine gI a16 s16 ok16 (gM q144 (gM (D4.k (kq hs12 sm12 2 (kq hs11 sm11 2 (kq hs10 sm10 2 (kq hs9 sm9 2 (kq hs8 sm8 2 (kq hs7 sm7 2 (D3.k (kq hs6 sm6 2 (kq hs5 sm5 2 (kq hs4 sm4 2 (kq hs3 sm3 2 (kq hs2 sm2 2 (kq hs1 sm1 2 (D2.k (D1.k p2)))))))))))))))) (gE2 ok16 fun a17 s17 ok17 D5 => ?_))); have o55 := OwnP.k0 o52 D5.stp; have o56 := ChnU.k0 o53 D5.stp; have o57 := Own.k0 o54 D5.stp
  refine tL ok17 (y_callL (L := []) [] [] #[a17.eval (.tmp 71), a17.eval (.tmp 72), a17.eval ((Operand.const (Value.int IntKind.i64 5040)))] rfl dE Try.func19 rfl rfl my3 (rClosedW_fn (n) (gens) (5040) _ lW _ _ _ (uL (D5.m 0 rfl)) (uL (D5.m 1 rfl)) (uL (cvi (σ := s17) oX rfl))  oX oX oX oX)) fun a18 s18 hs13 ok18 r13 sm13 => ?_
  obtain ⟨t3, ⟨g3, g4, hT3, hp3, hp4⟩, B3⟩ := r13
  have q175 : At (Ty.tup2 (Ty.lst Ty.ints (g3)) (Ty.lst Ty.ints (g4))) s18 a18 (.tmp 73) := Ty.up _ B3.le hT3
  refine tL ok18 (Yld.toL (y_mv q175)) fun a19 s19 hs14 ok19 r14 sm14 => ?_
  have q185 : At (Ty.tup2 (Ty.lst Ty.ints (g3)) (Ty.lst Ty.ints (g4))) s19 a19 (.tmp 70) := r14
  clear r14
  refine tL (R := (fun v τ => Pr.has (Ty.pr (Ty.lst Ty.ints (g3))) τ v)) ok19 (Yld.toL (y_ext2_0 q185)) fun a20 s20 hs15 ok20 r15 sm15 => ?_
  have q196 : At (Ty.lst Ty.ints (g3)) s20 a20 (.tmp 74) := r15
  clear r15
  refine tL (R := (fun v τ => Pr.has (Ty.pr (Ty.lst Ty.ints (g4))) τ v)) ok20 (Yld.toL (y_ext2_1 (kq hs15 sm15 70 q185))) fun a21 s21 hs16 ok21 r16 sm16 => ?_
  have q207 : At (Ty.lst Ty.ints (g4)) s21 a21 (.tmp 75) := r16
  clear r16
  refine tL ok21 (Yld.toL (y_as (kq hs16 sm16 74 q196))) fun a22 s22 hs17 ok22 r17 sm17 => ?_
  have q218 : At (Ty.lst Ty.ints (g3)) s22 a22 (.tmp 19) := r17
  clear r17
  refine tL ok22 (Yld.toL (y_as (kq hs17 sm17 75 q207))) fun a23 s23 hs18 ok23 r18 sm18 => ?_
  have q229 : At (Ty.lst Ty.ints (g4)) s23 a23 (.tmp 20) := r18
  clear r18; refine wpList_nil (tn (wp_seq (wp_seq ?_)))
  have hE0 : eltE n gens = 0 := (by unfold eltE; rw [if_pos hsz])
  have hEO := hp2.ok hsz
  have hord : ordS g3 = g2 := hEO.closed (by rw [hEO.len]; exact hsz) hp3
  obtain ⟨hRn, hRm, hRl, hRW⟩ : g3.Nodup ∧ (∀ x, x ∈ g3 ↔ Cl n (fun y => y ∈ gens) x) ∧ g3.length ≤ 5040 ∧ g4.length = g3.length := (by rcases hp3 with ⟨_, L, h1, h2, h3⟩ | h; (have h_ := nd_sub h1 (fun x hx => (hEO.mem x).2 (h2 x hx)); have h2_ := hEO.len; omega); exact h)
  have hRne : g3 ≠ [] := (fun h_ => (by have h2_ := (hRm _).2 (.one : Cl n (fun y => y ∈ gens) (roundsL n)); rw [h_] at h2_; cases h2_))
  have hY9 := hp4 hRne
  have hRr : ∀ x ∈ g3, RowN n x := fun x hx => ((hRm x).1 hx).row hn hG
  have hol := orbs_len (n := n) (G := gens) (m := n)
  refine gI a23 s23 ok23 (gE2 ok23 fun a24 s24 ok24 D6 => ?_); have o76 := OwnP.k0 (OwnP.kl (OwnP.kl (OwnP.kl (OwnP.kl (OwnP.kl (OwnP.kl o55 hs13) hs14) hs15) hs16) hs17) hs18) D6.stp; have o77 := ChnU.k0 (ChnU.kl (ChnU.kl (ChnU.kl (ChnU.kl (ChnU.kl (ChnU.kl o56 hs13) hs14) hs15) hs16) hs17) hs18) D6.stp; have o78 := Own.k0 (Own.kl (Own.kl (Own.kl (Own.kl (Own.kl (Own.kl o57 hs13) hs14) hs15) hs16) hs17) hs18) D6.stp
  refine tL ok24 (Yld.toL (y_mv (D6.k (kq hs18 sm18 18 (kq hs17 sm17 18 (kq hs16 sm16 18 (kq hs15 sm15 18 (kq hs14 sm14 18 (kq hs13 sm13 18 (D5.k (D4.k q142))))))))))) fun a25 s25 hs19 ok25 r19 sm19 => ?_
  have q251 : At (Ty.int (eltE n gens)) s25 a25 (.tmp 76) := r19
  clear r19
  refine tL (R := (fun v τ => Pr.has (Ty.pr (Ty.bool (decide ((eltE n gens) ≠ (0 : Int))))) τ v)) ok25 (Yld.toL (y_neq q251 rfl)) fun a26 s26 hs20 ok26 r20 sm20 => ?_
  have q262 : At (Ty.bool (decide ((eltE n gens) ≠ (0 : Int)))) s26 a26 (.tmp 77) := r20
  clear r20
  refine tL ok26 (Yld.toL (y_mv q262)) fun a27 s27 hs21 ok27 r21 sm21 => ?_
  have q273 : At (Ty.bool (decide ((eltE n gens) ≠ (0 : Int)))) s27 a27 (.tmp 78) := r21
  clear r21
  rcases Bool.eq_false_or_eq_true (decide ((eltE n gens) ≠ (0 : Int))) with hg1 | hg1
  · (have h_ := of_decide_eq_true hg1; exact absurd hE0 h_)
  ·
   have q274 : At (Ty.bool false) s27 a27 (.tmp 78) := cvb hg1 q273
   refine tD (T := (Ty.lst Ty.ints (g2))) ok27 q274 (y_move (kq hs21 sm21 17 (kq hs20 sm20 17 (kq hs19 sm19 17 (D6.k (kq hs18 sm18 17 (kq hs17 sm17 17 (kq hs16 sm16 17 (kq hs15 sm15 17 (kq hs14 sm14 17 (kq hs13 sm13 17 (D5.k (D4.k (kq hs12 sm12 17 q131)))))))))))))) fun a28 s28 hs22 ok28 r22 sm22 => ?_
   have q282 := kq hs22 sm22 19 (kq hs21 sm21 19 (kq hs20 sm20 19 (kq hs19 sm19 19 (D6.k (kq hs18 sm18 19 q218))))); have q284 := kq hs22 sm22 78 q274
   have q285 : At (Ty.lst Ty.ints (g2)) s28 a28 (.tmp 79) := r22
   clear r22
   refine tD (T := (Ty.lst Ty.ints (g3))) ok28 q284 (y_move q282) fun a29 s29 hs23 ok29 r23 sm23 => ?_
   have q295 := kq hs23 sm23 78 q284
   have q297 : At (Ty.lst Ty.ints (g3)) s29 a29 (.tmp 80) := r23
   clear r23
   refine tD (T := (Ty.lst Ty.ints (ordS ((g3))))) ok29 q295 (y_call _ Try.func25 rfl rfl my1 (rOrdered_fn (((g3)).length) ((g3)) _ _ q297 oX oX)) fun a30 s30 hs24 ok30 r24 sm24 => ?_
   have q307 := kq hs24 sm24 78 q295
   have q309 : At (Ty.lst Ty.ints (ordS ((g3)))) s30 a30 (.tmp 81) := r24
   clear r24
   refine tD (T := (Ty.bool (decide (((g2)) = ((ordS ((g3)))))))) ok30 q307 (y_call _ Try.func29 rfl rfl my2 (rSameAll_fn ((g2)) ((ordS ((g3)))) _ _ _ (kq hs24 sm24 79 (kq hs23 sm23 79 q285)) q309 )) fun a31 s31 hs25 ok31 r25 sm25 => ?_
   have q319 := kq hs25 sm25 78 q307
   have q320 : At (Ty.bool (decide (((g2)) = ((ordS ((g3))))))) s31 a31 (.tmp 82) := r25
   clear r25
   refine tD (T := (Ty.bool (!(decide (((g2)) = ((ordS ((g3))))))))) ok31 q319 (y_not q320) fun a32 s32 hs26 ok32 r26 sm26 => ?_
   have q331 : At (Ty.bool (!(decide (((g2)) = ((ordS ((g3)))))))) s32 a32 (.tmp 83) := r26
   clear r26
   refine tL (R := (fun v τ => Pr.has (Ty.pr (Ty.bool (!(decide (((g2)) = ((ordS ((g3))))))))) τ v)) ok32 (Yld.toL (y_pickF (kq hs26 sm26 78 q319) q331)) fun a33 s33 hs27 ok33 r27 sm27 => ?_
   have q341 : At (Ty.bool (!(decide (((g2)) = ((ordS ((g3)))))))) s33 a33 (.tmp 84) := r27
   clear r27
   refine tL ok33 (Yld.toL (y_mv q341)) fun a34 s34 hs28 ok34 r28 sm28 => ?_
   have q342 := kq hs28 sm28 0 (kq hs27 sm27 0 (kq hs26 sm26 0 (kq hs25 sm25 0 (kq hs24 sm24 0 (kq hs23 sm23 0 (kq hs22 sm22 0 (kq hs21 sm21 0 (kq hs20 sm20 0 (kq hs19 sm19 0 (D6.k (kq hs18 sm18 0 (kq hs17 sm17 0 (kq hs16 sm16 0 (kq hs15 sm15 0 (kq hs14 sm14 0 (kq hs13 sm13 0 (D5.k (D4.k (kq hs12 sm12 0 (kq hs11 sm11 0 (kq hs10 sm10 0 (kq hs9 sm9 0 (kq hs8 sm8 0 (kq hs7 sm7 0 (D3.k q60)))))))))))))))))))))))))
   have q351 : At (Ty.bool (!(decide (((g2)) = ((ordS ((g3)))))))) s34 a34 (.tmp 85) := r28
   clear r28
   rcases Bool.eq_false_or_eq_true (!(decide (((g2)) = ((ordS ((g3))))))) with hg2 | hg2
   · (rw [hord] at hg2; simp at hg2)
   ·
    have q352 : At (Ty.bool false) s34 a34 (.tmp 85) := cvb hg2 q351
    refine tD (T := (Ty.val gv)) ok34 q352 (y_move q342) fun a35 s35 hs29 ok35 r29 sm29 => ?_
    have q362 := kq hs29 sm29 85 q352
    have q363 : At (Ty.val gv) s35 a35 (.tmp 86) := r29
    clear r29
    refine tailDo (L := [41, 43]) (R := (fun v τ' => ∃ τ, (fun v τ => (Ty.has (Ty.lst Ty.ints (orbsL n gens n)) τ v) ∧ (OwnP τ 41 gv [(Ty.nat n), (Ty.val gs), (Ty.val cs)]) ∧ (Own τ 43 22 1 gs (List.length gens) (List.map Ty.ints gens))) v τ ∧ Back [(41, 41), (43, 43)] τ τ')) ok35 rfl rfl dE q362 rfl rfl dE (y_callL (L := [41, 43]) [(41, 41), (43, 43)] [(41, 41), (43, 43)] #[a35.eval (.tmp 86)] rfl dE Try.func57 rfl rfl my1 (gOrbits_fn (gv) (gs) (cs) (n) (gens) _ lW _ (uL q363) (OwnP.ren (OwnP.kl (OwnP.kl (OwnP.kl (OwnP.kl (OwnP.kl (OwnP.kl (OwnP.kl (OwnP.kl (OwnP.kl (OwnP.kl (OwnP.kl o76 hs19) hs20) hs21) hs22) hs23) hs24) hs25) hs26) hs27) hs28) hs29) (GW.ren_lend _ _ dE rfl)) (Own.ren (Own.kl (Own.kl (Own.kl (Own.kl (Own.kl (Own.kl (Own.kl (Own.kl (Own.kl (Own.kl (Own.kl o78 hs19) hs20) hs21) hs22) hs23) hs24) hs25) hs26) hs27) hs28) hs29) (GW.ren_lend _ _ dE rfl)) oX oX oX)) (fun a36 s36 hs30 ok36 r30 sm30 => ?_)
    have q365 := kq hs30 sm30 1 (kq hs29 sm29 1 (kq hs28 sm28 1 (kq hs27 sm27 1 (kq hs26 sm26 1 (kq hs25 sm25 1 (kq hs24 sm24 1 (kq hs23 sm23 1 (kq hs22 sm22 1 (kq hs21 sm21 1 (kq hs20 sm20 1 (kq hs19 sm19 1 (D6.k (kq hs18 sm18 1 (kq hs17 sm17 1 (kq hs16 sm16 1 (kq hs15 sm15 1 (kq hs14 sm14 1 (kq hs13 sm13 1 (D5.k q144))))))))))))))))))); have q373 := kq hs30 sm30 85 q362
    obtain ⟨t4, ⟨hT4, o112, o113⟩, B4⟩ := r30
    have q374 : At (Ty.lst Ty.ints (orbsL n gens n)) s36 a36 (.tmp 87) := Ty.up _ B4.le hT4
    have o114 : OwnP s36 41 gv [(Ty.nat n), (Ty.val gs), (Ty.val cs)] := OwnP.ren o112 (B4.ren dE rfl)
    have o115 : Own s36 43 22 1 gs (List.length gens) (List.map Ty.ints gens) := Own.ren o113 (B4.ren dE rfl)
    refine tD (T := (Ty.nat n)) ok36 q373 (y_move q365) fun a37 s37 hs31 ok37 r31 sm31 => ?_
    have q382 := kq hs31 sm31 19 (kq hs30 sm30 19 (kq hs29 sm29 19 (kq hs28 sm28 19 (kq hs27 sm27 19 (kq hs26 sm26 19 (kq hs25 sm25 19 (kq hs24 sm24 19 (kq hs23 sm23 19 q282)))))))); have q384 := kq hs31 sm31 85 q373
    have q386 : At (Ty.nat n) s37 a37 (.tmp 88) := r31
    clear r31
    refine tD (T := (Ty.lst Ty.ints (g3))) ok37 q384 (y_move q382) fun a38 s38 hs32 ok38 r32 sm32 => ?_
    have q396 := kq hs32 sm32 85 q384
    have q399 : At (Ty.lst Ty.ints (g3)) s38 a38 (.tmp 89) := r32
    clear r32
    refine tD (T := (Ty.lst Ty.ints (orbsL n (gens) n))) ok38 q396 (y_call _ Try.func78 rfl rfl my2 (rOrbits_fn (n) ((g3)) (gens) _ _ _ (kq hs32 sm32 88 q386) q399 oX oX oX oX)) fun a39 s39 hs33 ok39 r33 sm33 => ?_
    have q409 := kq hs33 sm33 85 q396
    have q411 : At (Ty.lst Ty.ints (orbsL n (gens) n)) s39 a39 (.tmp 90) := r33
    clear r33
    refine tD (T := (Ty.bool (decide (((orbsL n gens n)) = ((orbsL n (gens) n)))))) ok39 q409 (y_call _ Try.func29 rfl rfl my2 (rSameAll_fn ((orbsL n gens n)) ((orbsL n (gens) n)) _ _ _ (kq hs33 sm33 87 (kq hs32 sm32 87 (kq hs31 sm31 87 q374))) q411 )) fun a40 s40 hs34 ok40 r34 sm34 => ?_
    have q421 := kq hs34 sm34 85 q409
    have q422 : At (Ty.bool (decide (((orbsL n gens n)) = ((orbsL n (gens) n))))) s40 a40 (.tmp 91) := r34
    clear r34
    refine tD (T := (Ty.bool (!(decide (((orbsL n gens n)) = ((orbsL n (gens) n))))))) ok40 q421 (y_not q422) fun a41 s41 hs35 ok41 r35 sm35 => ?_
    have q433 : At (Ty.bool (!(decide (((orbsL n gens n)) = ((orbsL n (gens) n)))))) s41 a41 (.tmp 92) := r35
    clear r35
    refine tL (R := (fun v τ => Pr.has (Ty.pr (Ty.bool (!(decide (((orbsL n gens n)) = ((orbsL n (gens) n))))))) τ v)) ok41 (Yld.toL (y_pickF (kq hs35 sm35 85 q421) q433)) fun a42 s42 hs36 ok42 r36 sm36 => ?_
    have q443 : At (Ty.bool (!(decide (((orbsL n gens n)) = ((orbsL n (gens) n)))))) s42 a42 (.tmp 93) := r36
    clear r36; refine wpList_nil (tn ?_)
    refine cond_t q443 (fun c2 => ?_) (fun c2 => ?_)
    ·
     exfalso
     simp at c2
    ·
     refine wp_skip (tn (wp_seq ?_))
     refine gI a42 s42 ok42 (gC (Ty.int (-1 : Int)) (gE ok42 fun a43 s43 ok43 D7 => ?_)); have o135 := ChnU.k0 (ChnU.kl (ChnU.kl (ChnU.kl (ChnU.kl (ChnU.kl (ChnU.kl (ChnU.kl (ChnU.kl (ChnU.kl (ChnU.kl (ChnU.kl (ChnU.kl (ChnU.kl (ChnU.kl (ChnU.kl (ChnU.kl (ChnU.kl (ChnU.kl o77 hs19) hs20) hs21) hs22) hs23) hs24) hs25) hs26) hs27) hs28) hs29) hs30) hs31) hs32) hs33) hs34) hs35) hs36) D7.stp; have o136 := OwnP.k0 (OwnP.kl (OwnP.kl (OwnP.kl (OwnP.kl (OwnP.kl (OwnP.kl o114 hs31) hs32) hs33) hs34) hs35) hs36) D7.stp; have o137 := Own.k0 (Own.kl (Own.kl (Own.kl (Own.kl (Own.kl (Own.kl o115 hs31) hs32) hs33) hs34) hs35) hs36) D7.stp; refine tn (wp_seq (wp_seq ?_))
     refine gI a43 s43 ok43 (gC (Ty.int (0 : Int)) (gE ok43 fun a44 s44 ok44 D8 => ?_)); have o138 := ChnU.k0 o135 D8.stp; have o139 := OwnP.k0 o136 D8.stp; have o140 := Own.k0 o137 D8.stp; refine tn (wp_block ?_)
     refine loop (fun n1 a45 w1 => ∃ (t5 : GW) (i : Nat) (z : Int), t5.w = w1 ∧ FromL [41, 42, 43] σ t5 ∧ Ok 209 [] a45 ∧ At (Ty.nat i) t5 a45 (.tmp 22) ∧ At (Ty.int z) t5 a45 (.tmp 21) ∧ At (Ty.val gv) t5 a45 (.tmp 0) ∧ At (Ty.nat n) t5 a45 (.tmp 1) ∧ At (Ty.lst Ty.int r) t5 a45 (.tmp 3) ∧ At (Ty.int (fitsE n r)) t5 a45 (.tmp 4) ∧ At (Ty.nat b) t5 a45 (.tmp 5) ∧ At (Ty.lst Ty.int (g1)) t5 a45 (.tmp 15) ∧ At (Ty.int (wordE n c gens r)) t5 a45 (.tmp 16) ∧ At (Ty.lst Ty.ints (g3)) t5 a45 (.tmp 19) ∧ At (Ty.lst Ty.ints (g4)) t5 a45 (.tmp 20) ∧ ChnU t5 42 22 108 cs n c us ∧ OwnP t5 41 gv [(Ty.nat n), (Ty.val gs), (Ty.val cs)] ∧ Own t5 43 22 1 gs (List.length gens) (List.map Ty.ints gens) ∧ (i ≤ g3.length) ∧ (AtI g3 r (fitsE n r) i z) ∧ (-1 ≤ z ∧ z ≤ 5040) ∧ n1 = g3.length - i) (g3.length - (0)) ?_ ?_
     ·
      exact ⟨s44, 0, (-1 : Int), rfl, ((((((((((((((((((((((((((((((((((((((((((((F0.step0 D1.stp).step0 D2.stp).sl hs1).sl hs2).sl hs3).sl hs4).sl hs5).sl hs6).step0 D3.stp).sl hs7).sl hs8).sl hs9).sl hs10).sl hs11).sl hs12).step0 D4.stp).step0 D5.stp).sl hs13).sl hs14).sl hs15).sl hs16).sl hs17).sl hs18).step0 D6.stp).sl hs19).sl hs20).sl hs21).sl hs22).sl hs23).sl hs24).sl hs25).sl hs26).sl hs27).sl hs28).sl hs29).sl hs30).sl hs31).sl hs32).sl hs33).sl hs34).sl hs35).sl hs36).step0 D7.stp).step0 D8.stp), ok44, (cJ (D8.m 0 rfl)), (cJ (D8.k (D7.m 0 rfl))), (D8.k (D7.k (kq hs36 sm36 0 (kq hs35 sm35 0 (kq hs34 sm34 0 (kq hs33 sm33 0 (kq hs32 sm32 0 (kq hs31 sm31 0 (kq hs30 sm30 0 (kq hs29 sm29 0 q342)))))))))), (D8.k (D7.k (kq hs36 sm36 1 (kq hs35 sm35 1 (kq hs34 sm34 1 (kq hs33 sm33 1 (kq hs32 sm32 1 (kq hs31 sm31 1 q365)))))))), (D8.k (D7.k (kq hs36 sm36 3 (kq hs35 sm35 3 (kq hs34 sm34 3 (kq hs33 sm33 3 (kq hs32 sm32 3 (kq hs31 sm31 3 (kq hs30 sm30 3 (kq hs29 sm29 3 (kq hs28 sm28 3 (kq hs27 sm27 3 (kq hs26 sm26 3 (kq hs25 sm25 3 (kq hs24 sm24 3 (kq hs23 sm23 3 (kq hs22 sm22 3 (kq hs21 sm21 3 (kq hs20 sm20 3 (kq hs19 sm19 3 (D6.k (kq hs18 sm18 3 (kq hs17 sm17 3 (kq hs16 sm16 3 (kq hs15 sm15 3 (kq hs14 sm14 3 (kq hs13 sm13 3 (D5.k (D4.k (kq hs12 sm12 3 (kq hs11 sm11 3 (kq hs10 sm10 3 (kq hs9 sm9 3 (kq hs8 sm8 3 (kq hs7 sm7 3 (D3.k (kq hs6 sm6 3 (kq hs5 sm5 3 (kq hs4 sm4 3 (kq hs3 sm3 3 (kq hs2 sm2 3 (kq hs1 sm1 3 (D2.k q4))))))))))))))))))))))))))))))))))))))))))), (D8.k (D7.k (kq hs36 sm36 4 (kq hs35 sm35 4 (kq hs34 sm34 4 (kq hs33 sm33 4 (kq hs32 sm32 4 (kq hs31 sm31 4 (kq hs30 sm30 4 (kq hs29 sm29 4 (kq hs28 sm28 4 (kq hs27 sm27 4 (kq hs26 sm26 4 (kq hs25 sm25 4 (kq hs24 sm24 4 (kq hs23 sm23 4 (kq hs22 sm22 4 (kq hs21 sm21 4 (kq hs20 sm20 4 (kq hs19 sm19 4 (D6.k (kq hs18 sm18 4 (kq hs17 sm17 4 (kq hs16 sm16 4 (kq hs15 sm15 4 (kq hs14 sm14 4 (kq hs13 sm13 4 (D5.k (D4.k (kq hs12 sm12 4 (kq hs11 sm11 4 (kq hs10 sm10 4 (kq hs9 sm9 4 (kq hs8 sm8 4 (kq hs7 sm7 4 (D3.k (kq hs6 sm6 4 (kq hs5 sm5 4 (kq hs4 sm4 4 (kq hs3 sm3 4 (kq hs2 sm2 4 (kq hs1 sm1 4 (D2.k (D1.k p4)))))))))))))))))))))))))))))))))))))))))))), (D8.k (D7.k (kq hs36 sm36 5 (kq hs35 sm35 5 (kq hs34 sm34 5 (kq hs33 sm33 5 (kq hs32 sm32 5 (kq hs31 sm31 5 (kq hs30 sm30 5 (kq hs29 sm29 5 (kq hs28 sm28 5 (kq hs27 sm27 5 (kq hs26 sm26 5 (kq hs25 sm25 5 (kq hs24 sm24 5 (kq hs23 sm23 5 (kq hs22 sm22 5 (kq hs21 sm21 5 (kq hs20 sm20 5 (kq hs19 sm19 5 (D6.k (kq hs18 sm18 5 (kq hs17 sm17 5 (kq hs16 sm16 5 (kq hs15 sm15 5 (kq hs14 sm14 5 (kq hs13 sm13 5 (D5.k (D4.k (kq hs12 sm12 5 (kq hs11 sm11 5 (kq hs10 sm10 5 (kq hs9 sm9 5 (kq hs8 sm8 5 (kq hs7 sm7 5 (D3.k (kq hs6 sm6 5 (kq hs5 sm5 5 (kq hs4 sm4 5 (kq hs3 sm3 5 (kq hs2 sm2 5 (kq hs1 sm1 5 (D2.k (D1.k p5)))))))))))))))))))))))))))))))))))))))))))), (D8.k (D7.k (kq hs36 sm36 15 (kq hs35 sm35 15 (kq hs34 sm34 15 (kq hs33 sm33 15 (kq hs32 sm32 15 (kq hs31 sm31 15 (kq hs30 sm30 15 (kq hs29 sm29 15 (kq hs28 sm28 15 (kq hs27 sm27 15 (kq hs26 sm26 15 (kq hs25 sm25 15 (kq hs24 sm24 15 (kq hs23 sm23 15 (kq hs22 sm22 15 (kq hs21 sm21 15 (kq hs20 sm20 15 (kq hs19 sm19 15 (D6.k (kq hs18 sm18 15 (kq hs17 sm17 15 (kq hs16 sm16 15 (kq hs15 sm15 15 (kq hs14 sm14 15 (kq hs13 sm13 15 (D5.k (D4.k (kq hs12 sm12 15 (kq hs11 sm11 15 (kq hs10 sm10 15 (kq hs9 sm9 15 (kq hs8 sm8 15 (kq hs7 sm7 15 (D3.k (kq hs6 sm6 15 q59))))))))))))))))))))))))))))))))))))), (D8.k (D7.k (kq hs36 sm36 16 (kq hs35 sm35 16 (kq hs34 sm34 16 (kq hs33 sm33 16 (kq hs32 sm32 16 (kq hs31 sm31 16 (kq hs30 sm30 16 (kq hs29 sm29 16 (kq hs28 sm28 16 (kq hs27 sm27 16 (kq hs26 sm26 16 (kq hs25 sm25 16 (kq hs24 sm24 16 (kq hs23 sm23 16 (kq hs22 sm22 16 (kq hs21 sm21 16 (kq hs20 sm20 16 (kq hs19 sm19 16 (D6.k (kq hs18 sm18 16 (kq hs17 sm17 16 (kq hs16 sm16 16 (kq hs15 sm15 16 (kq hs14 sm14 16 (kq hs13 sm13 16 (D5.k (D4.k (kq hs12 sm12 16 (kq hs11 sm11 16 (kq hs10 sm10 16 (kq hs9 sm9 16 (kq hs8 sm8 16 (kq hs7 sm7 16 (D3.k q68)))))))))))))))))))))))))))))))))))), (D8.k (D7.k (kq hs36 sm36 19 (kq hs35 sm35 19 (kq hs34 sm34 19 (kq hs33 sm33 19 (kq hs32 sm32 19 q382))))))), (D8.k (D7.k (kq hs36 sm36 20 (kq hs35 sm35 20 (kq hs34 sm34 20 (kq hs33 sm33 20 (kq hs32 sm32 20 (kq hs31 sm31 20 (kq hs30 sm30 20 (kq hs29 sm29 20 (kq hs28 sm28 20 (kq hs27 sm27 20 (kq hs26 sm26 20 (kq hs25 sm25 20 (kq hs24 sm24 20 (kq hs23 sm23 20 (kq hs22 sm22 20 (kq hs21 sm21 20 (kq hs20 sm20 20 (kq hs19 sm19 20 (D6.k q229))))))))))))))))))))), o138, o139, o140, by omega, AtI.start, by omega, rfl⟩
     ·
      rintro n2 a46 w2 ⟨t6, i, z, rfl, F45, ok45, q465, q466, q467, q468, q469, q470, q471, q472, q473, q474, q475, o141, o142, o143, hi, hI, hzb, rfl⟩
      refine wp_seq (wp_seq ?_)
      refine gI a46 t6 ok45 (gM q465 (gM q474 (gS rfl (fun A B H I J d0 => rP (y_len Try.underlying24 (eI d0))) (gS rfl (fun A B H I J d0 d1 => rP (y_lss (eI d0) (eI d1))) (gS rfl (fun A B H I J d0 => rP (y_move (eI d0))) (gS rfl (fun A B H I J d0 => gu I (eI d0) fun hg => y_move (kp (J 4 rfl) H q470)) (gS rfl (fun A B H I J d0 d1 => gu I (eI d1) fun hg => y_eql ((ef d0 rfl).1 hg) rfl) (gS rfl (fun A B H I J d0 d1 => rP (y_pick_and (eI d0) (eI d1) rfl)) (gE ok45 fun a47 s45 ok46 D9 => ?_))))))))); have F46 := F45.step0 D9.stp; have q476 := D9.k q465; have q477 := D9.k q466; have q478 := D9.k q467; have q479 := D9.k q468; have q480 := D9.k q469; have q481 := D9.k q470; have q482 := D9.k q471; have q483 := D9.k q472; have q484 := D9.k q473; have q485 := D9.k q474; have q486 := D9.k q475; have o144 := ChnU.k0 o141 D9.stp; have o145 := OwnP.k0 o142 D9.stp; have o146 := Own.k0 o143 D9.stp; refine tn ?_
      refine cond_t (D9.m 7 rfl) (fun c3 => ?_) (fun c3 => ?_)
      ·
       obtain ⟨d1, d2⟩ := Bool.and_eq_true_iff.mp c3
       replace d1 := of_decide_eq_true d1
       replace d2 := of_decide_eq_true d2
       simp only [Bool.and_eq_true, decide_eq_true_eq] at c3; have hf0 : fitsE n r = 0 := c3.2
       refine wp_skip (tn (wp_seq (wp_block (wp_seq ?_))))
       refine gI a47 s45 ok46 (gM q485 (gM q476 (gT (Ty.ref [(Ty.lst Ty.int ((g3).getD i []))]) rfl (fun A B H I J d0 d1 => rP (y_index1 Try.underlying24 Try.inf22 (eI d0) (eI d1) oM (lst_get Ty.ints (g3) [] i oM))) (gS rfl (fun A B H I J d0 => rP (y_load Try.underlying22 rfl (eI d0) rfl)) (gM q480 (gS rfl (fun A B H I J d0 d1 => rP (y_call _ Try.func37 rfl rfl my2 (rsame_fn (((g3).getD i [])) (r) _ _ _ (eI d0) (eI d1) ))) (gB 0 (gE ok46 fun a48 s46 ok47 D10 => ?_)))))))); have o147 := ChnU.k0 o144 D10.stp; have o148 := OwnP.k0 o145 D10.stp; have o149 := Own.k0 o146 D10.stp; refine tn (wp_seq ?_)
       refine gI a48 s46 ok47 (gM (D10.m 6 rfl) (gE ok47 fun a49 s47 ok48 D11 => ?_)); have F48 := (F46.step0 D10.stp).step0 D11.stp; have q500 := D11.k (D10.k q476); have q502 := D11.k (D10.k q478); have q503 := D11.k (D10.k q479); have q504 := D11.k (D10.k q480); have q505 := D11.k (D10.k q481); have q506 := D11.k (D10.k q482); have q507 := D11.k (D10.k q483); have q508 := D11.k (D10.k q484); have q509 := D11.k (D10.k q485); have q510 := D11.k (D10.k q486); have o150 := ChnU.k0 o147 D11.stp; have o151 := OwnP.k0 o148 D11.stp; have o152 := Own.k0 o149 D11.stp; refine tn ?_
       refine cond_t (D11.m 0 rfl) (fun c4 => ?_) (fun c4 => ?_)
       ·
        have hI2 := hI.yes hf0 (by first | exact c4 | exact of_decide_eq_true c4)
        refine gI a49 s47 ok48 (gM q500 (gB 0 (gE ok48 fun a50 s48 ok49 D12 => ?_))); have o153 := ChnU.k0 o150 D12.stp; have o154 := OwnP.k0 o151 D12.stp; have o155 := Own.k0 o152 D12.stp; refine bn (tn ?_)
        refine gI a50 s48 ok49 (gM (D12.k q500) (gT (Ty.nat (i + 1)) rfl (fun A B H I J d0 => rP ((y_add (eI d0) rfl wX).mono (fun τ _ h => cN (σ := τ) h))) (gB 0 (gE ok49 fun a51 s49 ok50 D13 => ?_)))); have o156 := ChnU.k0 o153 D13.stp; have o157 := OwnP.k0 o154 D13.stp; have o158 := Own.k0 o155 D13.stp
        exact tn ⟨g3.length - ((i+1)), by omega, s49, (i+1), (i : Int), rfl, ((F48.step0 D12.stp).step0 D13.stp), ok50, (cJ (D13.m 2 rfl)), (cJ (D13.k (D12.m 1 rfl))), (D13.k (D12.k q502)), (D13.k (D12.k q503)), (D13.k (D12.k q504)), (D13.k (D12.k q505)), (D13.k (D12.k q506)), (D13.k (D12.k q507)), (D13.k (D12.k q508)), (D13.k (D12.k q509)), (D13.k (D12.k q510)), o156, o157, o158, by omega, hI2, by omega, rfl⟩
       ·
        have hI2 := hI.no (by first | exact c4 | exact of_decide_eq_false c4)
        refine wp_skip (bn (tn ?_))
        refine gI a49 s47 ok48 (gM q500 (gT (Ty.nat (i + 1)) rfl (fun A B H I J d0 => rP ((y_add (eI d0) rfl wX).mono (fun τ _ h => cN (σ := τ) h))) (gB 0 (gE ok48 fun a52 s50 ok51 D14 => ?_)))); have o159 := ChnU.k0 o150 D14.stp; have o160 := OwnP.k0 o151 D14.stp; have o161 := Own.k0 o152 D14.stp
        exact tn ⟨g3.length - ((i+1)), by omega, s50, (i+1), z, rfl, (F48.step0 D14.stp), ok51, (cJ (D14.m 2 rfl)), (D14.k (D11.k (D10.k q477))), (D14.k q502), (D14.k q503), (D14.k q504), (D14.k q505), (D14.k q506), (D14.k q507), (D14.k q508), (D14.k q509), (D14.k q510), o159, o160, o161, by omega, hI2, hzb, rfl⟩
      ·
       simp only [Bool.and_eq_false_iff, decide_eq_false_iff_not] at c3; obtain ⟨hA, hB, hJ⟩ := AtI.fin hC hG hsz hRm hRW hY9 hp1 hI (fun h_ => oM)
       refine wp_exit (tx (tx (bx (tn (wp_seq (wp_seq ?_))))))
       refine gI a47 s45 ok46 (gM q481 (gS rfl (fun A B H I J d0 => rP (y_eql (eI d0) rfl)) (gS rfl (fun A B H I J d0 => rP (y_move (eI d0))) (gS rfl (fun A B H I J d0 => gu I (eI d0) fun hg => y_move (kp (J 21 rfl) H q477)) (gS rfl (fun A B H I J d0 d1 => gu I (eI d1) fun hg => y_lss ((ef d0 rfl).1 hg) rfl) (gS rfl (fun A B H I J d0 d1 => rP (y_pick_and (eI d0) (eI d1) rfl)) (gE ok46 fun a53 s51 ok52 D15 => ?_))))))); have F52 := F46.step0 D15.stp; have q545 := D15.k q477; have q546 := D15.k q478; have q547 := D15.k q479; have q549 := D15.k q482; have q550 := D15.k q483; have q551 := D15.k q484; have q552 := D15.k q485; have q553 := D15.k q486; have o162 := ChnU.k0 o144 D15.stp; have o163 := OwnP.k0 o145 D15.stp; have o164 := Own.k0 o146 D15.stp; refine tn ?_
       refine Go.KL.join_then (Q' := fun a54 w3 => ∃ (t7 : GW), t7.w = w3 ∧ FromL [41, 42, 43] σ t7 ∧ Ok 209 [] a54 ∧ At (Ty.int (wordE n c gens r)) t7 a54 (.tmp 4) ∧ At (Ty.int z) t7 a54 (.tmp 21) ∧ At (Ty.val gv) t7 a54 (.tmp 0) ∧ At (Ty.nat n) t7 a54 (.tmp 1) ∧ At (Ty.nat b) t7 a54 (.tmp 5) ∧ At (Ty.lst Ty.int (g1)) t7 a54 (.tmp 15) ∧ At (Ty.int (wordE n c gens r)) t7 a54 (.tmp 16) ∧ At (Ty.lst Ty.ints (g3)) t7 a54 (.tmp 19) ∧ At (Ty.lst Ty.ints (g4)) t7 a54 (.tmp 20) ∧ ChnU t7 42 22 108 cs n c us ∧ OwnP t7 41 gv [(Ty.nat n), (Ty.val gs), (Ty.val cs)] ∧ Own t7 43 22 1 gs (List.length gens) (List.map Ty.ints gens) ∧ True) ?_ ?_
       ·
        refine cond_t (D15.m 5 rfl) (fun c5 => ?_) (fun c5 => ?_)
        ·
         obtain ⟨d3, d4⟩ := Bool.and_eq_true_iff.mp c5
         replace d3 := of_decide_eq_true d3
         replace d4 := of_decide_eq_true d4
         refine gI a53 s51 ok52 (gC (Ty.int (14 : Int)) (gE ok52 fun a55 s52 ok53 D16 => ?_)); have o165 := ChnU.k0 o162 D16.stp; have o166 := OwnP.k0 o163 D16.stp; have o167 := Own.k0 o164 D16.stp
         exact tn ⟨s52, rfl, (F52.step0 D16.stp), ok53, (cvi (by (simp only [Bool.and_eq_true, decide_eq_true_eq] at c5; exact (hA c5.1 c5.2).symm)) (D16.m 0 rfl)), (D16.k q545), (D16.k q546), (D16.k q547), (D16.k q549), (D16.k q550), (D16.k q551), (D16.k q552), (D16.k q553), o165, o166, o167, trivial⟩
        ·
         refine wp_skip ?_
         exact tn ⟨s51, rfl, F52, ok52, (cvi (by (simp only [Bool.and_eq_false_iff, decide_eq_false_iff_not] at c5; exact hB (fun h_ => oM))) (D15.k q481)), q545, q546, q547, q549, q550, q551, q552, q553, o162, o163, o164, trivial⟩
       ·
        rintro a56 w4 ⟨t8, rfl, F54, ok54, q564, q565, q566, q567, q568, q569, q570, q571, q572, o168, o169, o170, -⟩
        refine wp_seq (wp_seq ?_)
        refine gI a56 t8 ok54 (gM q570 (gM q564 (gS rfl (fun A B H I J d0 d1 => rP (y_neq (eI d0) (eI d1))) (gS rfl (fun A B H I J d0 => rP (y_move (eI d0))) (gS rfl (fun A B H I J d0 => gu I (eI d0) fun hg => y_move (kp (J 16 rfl) H q570)) (gS rfl (fun A B H I J d0 d1 => gu I (eI d1) fun hg => y_neq ((ef d0 rfl).1 hg) rfl) (gS rfl (fun A B H I J d0 d1 d2 => gu I (eI d1) fun hg => y_mv ((ef d0 rfl).1 hg)) (gS rfl (fun A B H I J d0 => gu2 I (eI d0) fun hg => y_move (kp (J 15 rfl) H q569)) (gS rfl (fun A B H I J d0 d1 => gu2 I (eI d1) fun hg => y_len Try.underlying22 ((ef d0 rfl).1 hg)) (gS rfl (fun A B H I J d0 d1 => gu2 I (eI d1) fun hg => y_gtr ((ef d0 rfl).1 hg) rfl) (gS rfl (fun A B H I J d0 d1 d2 => gu I (eI d2) fun hg => y_pick_and ((ef d0 rfl).1 hg) (grd_part hg (eI d1)) rfl) (gS rfl (fun A B H I J d0 d1 => rP (y_pick_or (eI d0) rfl (eI d1))) (gS rfl (fun A B H I J d0 d1 => rP (y_move (eI d0))) (gT (Ty.grd (((decide ((wordE n c gens r) ≠ (wordE n c gens r))) || ((decide ((wordE n c gens r) ≠ (0 : Int))) && (decide ((0 : Int) < (((List.length (g1)) : Nat) : Int))))) = false) (Ty.int (wordE n c gens r))) rfl (by intro A B H I J d0; refine run_guard I rfl rfl dE (eI d0) (fun hg => ?_); obtain ⟨d5, d6⟩ := Bool.or_eq_false_iff.mp hg; have d5 := of_decide_eq_false d5; exact y_move (kp (J 16 rfl) H q570)) ?_))))))))))))))
        refine gT (Ty.grd (((decide ((wordE n c gens r) ≠ (wordE n c gens r))) || ((decide ((wordE n c gens r) ≠ (0 : Int))) && (decide ((0 : Int) < (((List.length (g1)) : Nat) : Int))))) = false) (Ty.bool (decide ((wordE n c gens r) = (0 : Int))))) rfl (by intro A B H I J d0 d1; refine run_guard I rfl rfl dE (eI d1) (fun hg => ?_); obtain ⟨d7, d8⟩ := Bool.or_eq_false_iff.mp hg; have d7 := of_decide_eq_false d7; exact y_eql ((ef d0 rfl).1 hg) rfl) (gT (Ty.grd (((decide ((wordE n c gens r) ≠ (wordE n c gens r))) || ((decide ((wordE n c gens r) ≠ (0 : Int))) && (decide ((0 : Int) < (((List.length (g1)) : Nat) : Int))))) = false) (Ty.bool (decide ((wordE n c gens r) = (0 : Int))))) rfl (by intro A B H I J d0 d1 d2; refine run_guard I rfl rfl dE (eI d1) (fun hg => ?_); obtain ⟨d9, d10⟩ := Bool.or_eq_false_iff.mp hg; have d9 := of_decide_eq_false d9; exact y_move ((ef d0 rfl).1 hg)) (gS rfl (fun A B H I J d0 => gu2 I (eI d0) fun hg => y_move (kp (J 15 rfl) H q569)) (gS rfl (fun A B H I J d0 => gu2 I (eI d0) fun hg => y_move (kp (J 20 rfl) H q572)) (gS rfl (fun A B H I J d0 => gu2 I (eI d0) fun hg => y_move (kp (J 21 rfl) H q565)) (gT (Ty.grd ((((decide ((wordE n c gens r) ≠ (wordE n c gens r))) || ((decide ((wordE n c gens r) ≠ (0 : Int))) && (decide ((0 : Int) < (((List.length (g1)) : Nat) : Int))))) = false) ∧ (decide ((wordE n c gens r) = (0 : Int))) = true) (Ty.ref [(Ty.lst Ty.int ((g4).getD (z).toNat []))])) rfl (by intro A B H I J d0 d1 d2; refine run_guard2 I rfl rfl dE (eI d2) (fun hg => ?_); have hp := of_decide_eq_true hg.2; obtain ⟨a, ha1, ha2, ha3⟩ := hJ hp; exact y_index1 Try.underlying24 Try.inf22 ((ef d0 rfl).1 hg) ((ef d1 rfl).1 hg) oM (lst_get Ty.ints (g4) [] (z).toNat oM)) ?_)))))
        refine gT (Ty.grd ((((decide ((wordE n c gens r) ≠ (wordE n c gens r))) || ((decide ((wordE n c gens r) ≠ (0 : Int))) && (decide ((0 : Int) < (((List.length (g1)) : Nat) : Int))))) = false) ∧ (decide ((wordE n c gens r) = (0 : Int))) = true) (Ty.lst Ty.int ((g4).getD (z).toNat []))) rfl (by intro A B H I J d0 d1; refine run_guard2 I rfl rfl dE (eI d1) (fun hg => ?_); have hp := of_decide_eq_true hg.2; obtain ⟨a, ha1, ha2, ha3⟩ := hJ hp; exact y_load Try.underlying22 rfl ((ef d0 rfl).1 hg) rfl) (gT (Ty.grd ((((decide ((wordE n c gens r) ≠ (wordE n c gens r))) || ((decide ((wordE n c gens r) ≠ (0 : Int))) && (decide ((0 : Int) < (((List.length (g1)) : Nat) : Int))))) = false) ∧ (decide ((wordE n c gens r) = (0 : Int))) = true) (Ty.bool (decide (((g1)) = (((g4).getD (z).toNat [])))))) rfl (by intro A B H I J d0 d1 d2 d3; refine run_guard2 I rfl rfl dE (eI d2) (fun hg => ?_); have hp := of_decide_eq_true hg.2; exact y_call _ Try.func37 rfl rfl my2 (rsame_fn ((g1)) (((g4).getD (z).toNat [])) _ _ _ ((ef d0 rfl).1 hg) ((ef d1 rfl).1 hg) )) (gS rfl (fun A B H I J d0 d1 => gu2 I (eI d1) fun hg => y_not ((ef d0 rfl).1 hg)) (gT (Ty.grd (((decide ((wordE n c gens r) ≠ (wordE n c gens r))) || ((decide ((wordE n c gens r) ≠ (0 : Int))) && (decide ((0 : Int) < (((List.length (g1)) : Nat) : Int))))) = false) (Ty.bool ((decide ((wordE n c gens r) = (0 : Int))) && (!(decide (((g1)) = (((g4).getD (z).toNat [])))))))) rfl (by intro A B H I J d0 d1 d2; refine run_guard I rfl rfl dE (eI d2) (fun hg => ?_); obtain ⟨d11, d12⟩ := Bool.or_eq_false_iff.mp hg; have d11 := of_decide_eq_false d11; exact y_pick_and ((ef d0 rfl).1 hg) (grd_part hg (eI d1)) rfl) ?_)))
        refine gS rfl (fun A B H I J d0 d1 => rP (y_pick_or (eI d0) rfl (eI d1))) (gE ok54 fun a57 s53 ok55 D17 => ?_); have q575 := D17.k q568; have o171 := ChnU.k0 o168 D17.stp; have o172 := OwnP.k0 o169 D17.stp; have o173 := Own.k0 o170 D17.stp; refine tn ?_
        refine cond_t (D17.m 24 rfl) (fun c6 => ?_) (fun c6 => ?_)
        ·
         exfalso
         (by_cases h0 : wordE n c gens r = 0; (obtain ⟨a, ha1, ha2, ha3⟩ := hJ h0; subst ha1; rw [Int.toNat_natCast, ← ha3] at c6; simp [h0] at c6); (have hz_ := hp1.2 h0; subst hz_; simp [h0] at c6))
        ·
         obtain ⟨d13, d14⟩ := Bool.or_eq_false_iff.mp c6
         obtain ⟨d15, d16⟩ := Bool.or_eq_false_iff.mp d13
         replace d15 := of_decide_eq_false d15
         refine wp_skip (tn (wp_seq ?_))
         refine gI a57 s53 ok55 (gM (D17.k q566) (gM q575 (gE2 ok55 fun a58 s54 ok56 D18 => ?_))); have o174 := ChnU.k0 o171 D18.stp; have o175 := OwnP.k0 o172 D18.stp; have o176 := Own.k0 o173 D18.stp
         refine tL ok56 (y_callL (L := [41, 42, 43]) [(41, 41), (42, 42), (43, 43)] [(41, 41), (42, 42), (43, 43), (44, 54), (45, 55), (46, 56)] #[a58.eval (.tmp 144), a58.eval (.tmp 145)] rfl dE Try.func56 rfl rfl my2 (gStill_fn (gv) (gs) (cs) (us) (n) (c) (gens) (b) _ lW _ _ (uL (D18.m 0 rfl)) (uL (D18.m 1 rfl)) (OwnP.ren o175 (GW.ren_lend _ _ dE rfl)) (ChnU.ren o174 (GW.ren_lend _ _ dE rfl)) (Own.ren o176 (GW.ren_lend _ _ dE rfl)) oX oX oX oX)) fun a59 s55 hs37 ok57 r37 sm37 => ?_
         obtain ⟨t9, ⟨g5, g6, g7, x1, x2, x3, hT5, o177, o178, o179, o180, o181, o182, hp5⟩, B5⟩ := r37
         have q586 : At (Ty.tup2 (Ty.val x1) (Ty.int (0 : Int))) s55 a59 (.tmp 146) := Ty.up _ B5.le hT5
         have o183 : OwnP s55 41 gv [(Ty.nat n), (Ty.val gs), (Ty.val cs)] := OwnP.ren o177 (B5.ren dE rfl)
         have o184 : ChnU s55 42 22 108 cs n c us := ChnU.ren o178 (B5.ren dE rfl)
         have o185 : Own s55 43 22 1 gs (List.length gens) (List.map Ty.ints gens) := Own.ren o179 (B5.ren dE rfl)
         have o186 : OwnP s55 54 x1 [(Ty.nat n), (Ty.val x3), (Ty.val x2)] := OwnP.ren o180 (B5.ren dE rfl)
         have o187 : ChnU s55 55 22 108 x2 n (g6) (g7) := ChnU.ren o181 (B5.ren dE rfl)
         have o188 : Own s55 56 22 1 x3 (List.length (g5)) (List.map Ty.ints (g5)) := Own.ren o182 (B5.ren dE rfl)
         refine tL ok57 (Yld.toL (y_mv q586)) fun a60 s56 hs38 ok58 r38 sm38 => ?_
         have q590 : At (Ty.tup2 (Ty.val x1) (Ty.int (0 : Int))) s56 a60 (.tmp 143) := r38
         clear r38
         refine tL (R := (fun v τ => Pr.has (Ty.pr (Ty.val x1)) τ v)) ok58 (Yld.toL (y_ext2_0 q590)) fun a61 s57 hs39 ok59 r39 sm39 => ?_
         have q595 : At (Ty.val x1) s57 a61 (.tmp 147) := r39
         clear r39
         refine tL (R := (fun v τ => Pr.has (Ty.pr (Ty.int (0 : Int))) τ v)) ok59 (Yld.toL (y_ext2_1 (kq hs39 sm39 143 q590))) fun a62 s58 hs40 ok60 r40 sm40 => ?_
         have q600 : At (Ty.int (0 : Int)) s58 a62 (.tmp 148) := r40
         clear r40
         refine tL ok60 (Yld.toL (y_as (kq hs40 sm40 147 q595))) fun a63 s59 hs41 ok61 r41 sm41 => ?_
         have q605 : At (Ty.val x1) s59 a63 (.tmp 24) := r41
         clear r41
         refine tL ok61 (Yld.toL (y_as (kq hs41 sm41 148 q600))) fun a64 s60 hs42 ok62 r42 sm42 => ?_
         have q606 := kq hs42 sm42 1 (kq hs41 sm41 1 (kq hs40 sm40 1 (kq hs39 sm39 1 (kq hs38 sm38 1 (kq hs37 sm37 1 (D18.k (D17.k q567))))))); have q607 := kq hs42 sm42 5 (kq hs41 sm41 5 (kq hs40 sm40 5 (kq hs39 sm39 5 (kq hs38 sm38 5 (kq hs37 sm37 5 (D18.k q575))))))
         have q610 : At (Ty.int (0 : Int)) s60 a64 (.tmp 16) := r42
         clear r42; refine wpList_nil (tn (wp_seq (wp_seq ?_)))
         refine gI a64 s60 ok62 (gM q607 (gS rfl (fun A B H I J d0 => rP (y_lss (eI d0) rfl)) (gS rfl (fun A B H I J d0 => rP (y_move (eI d0))) (gS rfl (fun A B H I J d0 => gu I (eI d0) fun hg => y_move (kp (J 5 rfl) H q607)) (gS rfl (fun A B H I J d0 => gu I (eI d0) fun hg => y_move (kp (J 1 rfl) H q606)) (gS rfl (fun A B H I J d0 d1 d2 => gu I (eI d2) fun hg => y_geq ((ef d0 rfl).1 hg) ((ef d1 rfl).1 hg)) (gS rfl (fun A B H I J d0 d1 => rP (y_pick_or (eI d0) rfl (eI d1))) (gE ok62 fun a65 s61 ok63 D19 => ?_)))))))); have q614 := D19.k (kq hs42 sm42 24 q605); have o219 := OwnP.k0 (OwnP.kl (OwnP.kl (OwnP.kl (OwnP.kl (OwnP.kl o183 hs38) hs39) hs40) hs41) hs42) D19.stp; have o220 := ChnU.k0 (ChnU.kl (ChnU.kl (ChnU.kl (ChnU.kl (ChnU.kl o184 hs38) hs39) hs40) hs41) hs42) D19.stp; have o221 := Own.k0 (Own.kl (Own.kl (Own.kl (Own.kl (Own.kl o185 hs38) hs39) hs40) hs41) hs42) D19.stp; have o222 := OwnP.k0 (OwnP.kl (OwnP.kl (OwnP.kl (OwnP.kl (OwnP.kl o186 hs38) hs39) hs40) hs41) hs42) D19.stp; have o223 := ChnU.k0 (ChnU.kl (ChnU.kl (ChnU.kl (ChnU.kl (ChnU.kl o187 hs38) hs39) hs40) hs41) hs42) D19.stp; have o224 := Own.k0 (Own.kl (Own.kl (Own.kl (Own.kl (Own.kl o188 hs38) hs39) hs40) hs41) hs42) D19.stp; refine tn ?_
         refine cond_t (D19.m 6 rfl) (fun c7 => ?_) (fun c7 => ?_)
         ·
          exfalso
          simp only [Bool.or_eq_true, decide_eq_true_eq] at c7; omega
         ·
          obtain ⟨d17, d18⟩ := Bool.or_eq_false_iff.mp c7
          replace d17 := of_decide_eq_false d17
          replace d18 := of_decide_eq_false d18
          refine wp_skip (tn (wp_seq (wp_seq ?_)))
          refine gI a65 s61 ok63 (gM (D19.k q610) (gT (Ty.bool false) rfl (fun A B H I J d0 => rP ((y_neq (eI d0) rfl).mono (fun τ _ h => cvb (σ := τ) dE h))) (gS rfl (fun A B H I J d0 => rP (y_move (eI d0))) (gS rfl (fun A B H I J d0 => gu I (eI d0) fun hg => y_move (kp (J 24 rfl) H q614)) (gT (Ty.grd (false = false) (Ty.bool false)) rfl (fun A B H I J d0 d1 => gu I (eI d1) fun hg => y_pnil Try.underlying26 (OwnP.k0 o222 H) ((ef d0 rfl).1 hg) rfl) (gS rfl (fun A B H I J d0 d1 => rP (y_pick_or (eI d0) rfl (eI d1))) (gE ok63 fun a66 s62 ok64 D20 => ?_))))))); have o225 := OwnP.k0 o219 D20.stp; have o226 := ChnU.k0 o220 D20.stp; have o227 := Own.k0 o221 D20.stp; have o228 := OwnP.k0 o222 D20.stp; have o229 := ChnU.k0 o223 D20.stp; have o230 := Own.k0 o224 D20.stp; refine tn ?_
          refine cond_t (D20.m 5 rfl) (fun c8 => ?_) (fun c8 => ?_)
          ·
           exfalso
           simp at c8
          ·
           obtain ⟨d19, d20⟩ := Bool.or_eq_false_iff.mp c8
           refine wp_skip (tn (wp_seq ?_))
           refine gI a66 s62 ok64 (gC (Ty.val (Value.slice none 0 0)) (gE ok64 fun a67 s63 ok65 D21 => ?_)); have o231 := OwnP.k0 o225 D21.stp; have o232 := ChnU.k0 o226 D21.stp; have o233 := Own.k0 o227 D21.stp; have o234 := OwnP.k0 o228 D21.stp; have o235 := ChnU.k0 o229 D21.stp; have o236 := Own.k0 o230 D21.stp; refine tn (wp_seq (wp_seq ?_))
           refine gI a67 s63 ok65 (gC (Ty.int (0 : Int)) (gE ok65 fun a68 s64 ok66 D22 => ?_)); have o237 := OwnP.k0 o231 D22.stp; have o238 := ChnU.k0 o232 D22.stp; have o239 := Own.k0 o233 D22.stp; have o240 := OwnP.k0 o234 D22.stp; have o241 := ChnU.k0 o235 D22.stp; have o242 := Own.k0 o236 D22.stp; refine tn (wp_block ?_)
           have o243 : Own s64 20 22 1 (Value.slice none 0 0) 0 (List.map Ty.ints ([] : List (List Int))) := Own.nil _ _ _ _
           refine loop (fun n3 a69 w5 => ∃ (t10 : GW) (i : Nat) (x25_1 : Value), t10.w = w5 ∧ FromL [41, 42, 43] σ t10 ∧ Ok 209 [] a69 ∧ At (Ty.nat i) t10 a69 (.tmp 26) ∧ At (Ty.val x25_1) t10 a69 (.tmp 25) ∧ At (Ty.nat n) t10 a69 (.tmp 1) ∧ At (Ty.nat b) t10 a69 (.tmp 5) ∧ At (Ty.lst Ty.ints (g3)) t10 a69 (.tmp 19) ∧ At (Ty.val x1) t10 a69 (.tmp 24) ∧ Own t10 20 22 1 x25_1 (List.length (stayT g3 b i)) (List.map Ty.ints (stayT g3 b i)) ∧ OwnP t10 41 gv [(Ty.nat n), (Ty.val gs), (Ty.val cs)] ∧ ChnU t10 42 22 108 cs n c us ∧ Own t10 43 22 1 gs (List.length gens) (List.map Ty.ints gens) ∧ OwnP t10 54 x1 [(Ty.nat n), (Ty.val x3), (Ty.val x2)] ∧ ChnU t10 55 22 108 x2 n (g6) (g7) ∧ Own t10 56 22 1 x3 (List.length (g5)) (List.map Ty.ints (g5)) ∧ (i ≤ g3.length) ∧ n3 = g3.length - i) (g3.length - (0)) ?_ ?_
           ·
            exact ⟨s64, 0, (Value.slice none 0 0), rfl, ((((((((((((F54.step0 D17.stp).step0 D18.stp).sl hs37).sl hs38).sl hs39).sl hs40).sl hs41).sl hs42).step0 D19.stp).step0 D20.stp).step0 D21.stp).step0 D22.stp), ok66, (cJ (D22.m 0 rfl)), (D22.k (D21.m 0 rfl)), (D22.k (D21.k (D20.k (D19.k q606)))), (D22.k (D21.k (D20.k (D19.k q607)))), (D22.k (D21.k (D20.k (D19.k (kq hs42 sm42 19 (kq hs41 sm41 19 (kq hs40 sm40 19 (kq hs39 sm39 19 (kq hs38 sm38 19 (kq hs37 sm37 19 (D18.k (D17.k q571)))))))))))), (D22.k (D21.k (D20.k q614))), (cvo (by (first | rfl | simp [stayT])) (by (first | rfl | simp [stayT])) o243), o237, o238, o239, o240, o241, o242, by omega, rfl⟩
           ·
            rintro n4 a70 w6 ⟨t11, i, x25_1, rfl, F67, ok67, q633, q634, q635, q636, q637, q638, o244, o245, o246, o247, o248, o249, o250, hi, rfl⟩
            have hstl := stay_len (R := g3) (b := b) (i := i)
            refine wp_seq (wp_seq ?_)
            refine gI a70 t11 ok67 (gM q633 (gM q637 (gS rfl (fun A B H I J d0 => rP (y_len Try.underlying24 (eI d0))) (gS rfl (fun A B H I J d0 d1 => rP (y_lss (eI d0) (eI d1))) (gE ok67 fun a71 s65 ok68 D23 => ?_))))); have F68 := F67.step0 D23.stp; have q639 := D23.k q633; have q640 := D23.k q634; have q641 := D23.k q635; have q642 := D23.k q636; have q643 := D23.k q637; have q644 := D23.k q638; have o251 := Own.k0 o244 D23.stp; have o252 := OwnP.k0 o245 D23.stp; have o253 := ChnU.k0 o246 D23.stp; have o254 := Own.k0 o247 D23.stp; have o255 := OwnP.k0 o248 D23.stp; have o256 := ChnU.k0 o249 D23.stp; have o257 := Own.k0 o250 D23.stp; refine tn ?_
            refine cond_p (p := (((i : Nat) : Int) < (((List.length (g3)) : Nat) : Int))) (D23.m 3 rfl) (fun c9 => ?_) (fun c9 => ?_)
            ·
             have hri := hRr _ (mem_atD [] (show i < g3.length by omega)); have hril := hri.len
             refine wp_skip (tn (wp_seq (wp_block (wp_seq ?_))))
             refine gI a71 s65 ok68 (gM q643 (gM q639 (gT (Ty.ref [(Ty.lst Ty.int ((g3).getD i []))]) rfl (fun A B H I J d0 d1 => rP (y_index1 Try.underlying24 Try.inf22 (eI d0) (eI d1) oM (lst_get Ty.ints (g3) [] i oM))) (gS rfl (fun A B H I J d0 => rP (y_load Try.underlying22 rfl (eI d0) rfl)) (gM q642 (gT (Ty.ref [(Ty.int (((g3).getD i []).getD b 0))]) rfl (fun A B H I J d0 d1 => rP (y_index1 Try.underlying22 Try.inf3 (eI d0) (eI d1) oM (lst_get Ty.int ((g3).getD i []) 0 b oM))) (gS rfl (fun A B H I J d0 => rP (y_load Try.underlying3 rfl (eI d0) rfl)) (gM q642 (gS rfl (fun A B H I J d0 d1 => rP (y_eql (eI d0) (eI d1))) (gE ok68 fun a72 s66 ok69 D24 => ?_)))))))))); have F69 := F68.step0 D24.stp; have q646 := D24.k q639; have q647 := D24.k q640; have q648 := D24.k q641; have q649 := D24.k q642; have q650 := D24.k q643; have q651 := D24.k q644; have o258 := Own.k0 o251 D24.stp; have o259 := OwnP.k0 o252 D24.stp; have o260 := ChnU.k0 o253 D24.stp; have o261 := Own.k0 o254 D24.stp; have o262 := OwnP.k0 o255 D24.stp; have o263 := ChnU.k0 o256 D24.stp; have o264 := Own.k0 o257 D24.stp; refine tn ?_
             refine cond_p (p := ((((g3).getD i []).getD b 0) = ((b : Nat) : Int))) (D24.m 8 rfl) (fun c10 => ?_) (fun c10 => ?_)
             ·
              have hst := stay_yes (b := b) (show i < g3.length by omega) (by first | exact c10 | omega)
              refine gI a72 s66 ok69 (gM q647 (gM q650 (gM q646 (gT (Ty.ref [(Ty.lst Ty.int ((g3).getD i []))]) rfl (fun A B H I J d0 d1 => rP (y_index1 Try.underlying24 Try.inf22 (eI d0) (eI d1) oM (lst_get Ty.ints (g3) [] i oM))) (gS rfl (fun A B H I J d0 => rP (y_load Try.underlying22 rfl (eI d0) rfl)) (gT (Ty.sl 1 1 [(Ty.lst Ty.int ((g3).getD i []))]) rfl (fun A B H I J d0 => rP (y_build1o Try.underlying24 Try.inf22 rfl (one_sl) (eI d0))) (gE2 ok69 fun a73 s67 ok70 D25 => ?_))))))); have o265 := Own.k0 o258 D25.stp; have o266 := OwnP.k0 o259 D25.stp; have o267 := ChnU.k0 o260 D25.stp; have o268 := Own.k0 o261 D25.stp; have o269 := OwnP.k0 o262 D25.stp; have o270 := ChnU.k0 o263 D25.stp; have o271 := Own.k0 o264 D25.stp
              have q659 : At (Ty.val x25_1) s67 a73 (.tmp 183) := D25.done 0 dE
              have q660 := D25.m 5 rfl
              have b3 := sl_le q660
              refine tL ok70 (YldM.toL (m_append Try.underlying24 Try.inf22 dE rfl dE (al (R := (Pr.own 20 22 1 (List.length (stayT g3 b i)) (List.map Ty.ints (stayT g3 b i)))) q659 o265) q660 (by intro U hU; simp at hU; subst hU; exact one_sl) oM oM)) fun a74 s68 hs43 ok71 r43 sm43 => ?_
              have q662 := kq hs43 sm43 25 (D25.k q647)
              obtain ⟨x4, hx1⟩ : ∃ x, a74.eval (.tmp 189) = x := ⟨_, rfl⟩
              have q667 : At (Ty.val x4) s68 a74 (.tmp 189) := hx1
              have o272 := al2 (R := (Pr.own 20 22 1 (List.length ((stayT g3 b i) ++ [((g3).getD i [])])) (List.map Ty.ints ((stayT g3 b i) ++ [((g3).getD i [])])))) hx1 (cvo (by simp) (by first | (rw [List.map_append]; rfl) | simp) r43)
              clear r43
              refine tL ok71 (Yld.toL (y_as q667)) fun a75 s69 hs44 ok72 r44 sm44 => ?_
              have q673 : At (Ty.val x4) s69 a75 (.tmp 25) := r44
              clear r44; refine wpList_nil (bn (tn ?_))
              refine gI a75 s69 ok72 (gM (kq hs44 sm44 26 (kq hs43 sm43 26 (D25.k q646))) (gT (Ty.nat (i + 1)) rfl (fun A B H I J d0 => rP ((y_add (eI d0) rfl wX).mono (fun τ _ h => cN (σ := τ) h))) (gB 0 (gE ok72 fun a76 s70 ok73 D26 => ?_)))); have o286 := OwnP.k0 (OwnP.kl (OwnP.kl o266 hs43) hs44) D26.stp; have o287 := ChnU.k0 (ChnU.kl (ChnU.kl o267 hs43) hs44) D26.stp; have o288 := Own.k0 (Own.kl (Own.kl o268 hs43) hs44) D26.stp; have o289 := OwnP.k0 (OwnP.kl (OwnP.kl o269 hs43) hs44) D26.stp; have o290 := ChnU.k0 (ChnU.kl (ChnU.kl o270 hs43) hs44) D26.stp; have o291 := Own.k0 (Own.kl (Own.kl o271 hs43) hs44) D26.stp; have o292 := Own.k0 (Own.kl o272 hs44) D26.stp
              exact tn ⟨g3.length - ((i+1)), by omega, s70, (i+1), x4, rfl, ((((F69.step0 D25.stp).sl hs43).sl hs44).step0 D26.stp), ok73, (cJ (D26.m 2 rfl)), (D26.k q673), (D26.k (kq hs44 sm44 1 (kq hs43 sm43 1 (D25.k q648)))), (D26.k (kq hs44 sm44 5 (kq hs43 sm43 5 (D25.k q649)))), (D26.k (kq hs44 sm44 19 (kq hs43 sm43 19 (D25.k q650)))), (D26.k (kq hs44 sm44 24 (kq hs43 sm43 24 (D25.k q651)))), (cvo (by (rw [hst])) (by (rw [hst])) o292), o286, o287, o288, o289, o290, o291, by omega, rfl⟩
             ·
              have hst := stay_no (b := b) (show i < g3.length by omega) (by first | exact c10 | omega)
              refine wp_skip (bn (tn ?_))
              refine gI a72 s66 ok69 (gM q646 (gT (Ty.nat (i + 1)) rfl (fun A B H I J d0 => rP ((y_add (eI d0) rfl wX).mono (fun τ _ h => cN (σ := τ) h))) (gB 0 (gE ok69 fun a77 s71 ok74 D27 => ?_)))); have o293 := Own.k0 o258 D27.stp; have o294 := OwnP.k0 o259 D27.stp; have o295 := ChnU.k0 o260 D27.stp; have o296 := Own.k0 o261 D27.stp; have o297 := OwnP.k0 o262 D27.stp; have o298 := ChnU.k0 o263 D27.stp; have o299 := Own.k0 o264 D27.stp
              exact tn ⟨g3.length - ((i+1)), by omega, s71, (i+1), x25_1, rfl, (F69.step0 D27.stp), ok74, (cJ (D27.m 2 rfl)), (D27.k q647), (D27.k q648), (D27.k q649), (D27.k q650), (D27.k q651), (cvo (by (rw [hst])) (by (rw [hst])) o293), o294, o295, o296, o297, o298, o299, by omega, rfl⟩
            ·
             have ei : i = g3.length := oM
             refine wp_exit (tx (tx (bx (tn (wp_seq ?_)))))
             obtain ⟨F0, hF0⟩ := hC.elts hG
             have hKs := StlP.sz hG hF0 hp5
             have hKC := hp5.of
             have hKG := hp5.row
             refine gI a71 s65 ok68 (gM q644 (gE2 ok68 fun a78 s72 ok75 D28 => ?_)); have o300 := Own.k0 o251 D28.stp; have o301 := OwnP.k0 o252 D28.stp; have o302 := ChnU.k0 o253 D28.stp; have o303 := Own.k0 o254 D28.stp; have o304 := OwnP.k0 o255 D28.stp; have o305 := ChnU.k0 o256 D28.stp; have o306 := Own.k0 o257 D28.stp
             have q689 : At (Ty.val x1) s72 a78 (.tmp 191) := D28.done 0 dE
             refine tL ok75 (y_callL (L := [41, 42, 43]) [(54, 41), (55, 42), (56, 43)] [(41, 54), (42, 55), (43, 56)] #[a78.eval (.tmp 191)] rfl dE Try.func60 rfl rfl my1 (gElts_fn (x1) (x3) (x2) ((g7)) (n) ((g6)) ((g5)) _ lW _ (uL q689) (OwnP.ren o304 (GW.ren_lend _ _ dE rfl)) (ChnU.ren (cvch (by (rfl)) o305) (GW.ren_lend _ _ dE rfl)) (Own.ren (cvo (by (simp)) (by (simp)) o306) (GW.ren_lend _ _ dE rfl)) oX oX)) fun a79 s73 hs45 ok76 r45 sm45 => ?_
             obtain ⟨t12, ⟨g8, hT6, o307, o308, o309, hp6⟩, B6⟩ := r45
             have q693 : At (Ty.tup2 (Ty.lst Ty.ints (g8)) (Ty.int (eltE n ((g5))))) s73 a79 (.tmp 192) := Ty.up _ B6.le hT6
             have o310 : OwnP s73 54 x1 [(Ty.nat n), (Ty.val x3), (Ty.val x2)] := OwnP.ren o307 (B6.ren dE rfl)
             have o311 : ChnU s73 55 22 108 x2 n ((g6)) ((g7)) := ChnU.ren o308 (B6.ren dE rfl)
             have o312 : Own s73 56 22 1 x3 (List.length ((g5))) (List.map Ty.ints ((g5))) := Own.ren o309 (B6.ren dE rfl)
             refine tL ok76 (Yld.toL (y_mv q693)) fun a80 s74 hs46 ok77 r46 sm46 => ?_
             have q697 : At (Ty.tup2 (Ty.lst Ty.ints (g8)) (Ty.int (eltE n ((g5))))) s74 a80 (.tmp 190) := r46
             clear r46
             refine tL (R := (fun v τ => Pr.has (Ty.pr (Ty.lst Ty.ints (g8))) τ v)) ok77 (Yld.toL (y_ext2_0 q697)) fun a81 s75 hs47 ok78 r47 sm47 => ?_
             have q702 : At (Ty.lst Ty.ints (g8)) s75 a81 (.tmp 193) := r47
             clear r47
             refine tL (R := (fun v τ => Pr.has (Ty.pr (Ty.int (eltE n ((g5))))) τ v)) ok78 (Yld.toL (y_ext2_1 (kq hs47 sm47 190 q697))) fun a82 s76 hs48 ok79 r48 sm48 => ?_
             have q707 : At (Ty.int (eltE n ((g5)))) s76 a82 (.tmp 194) := r48
             clear r48
             refine tL ok79 (Yld.toL (y_as (kq hs48 sm48 193 q702))) fun a83 s77 hs49 ok80 r49 sm49 => ?_
             have q712 : At (Ty.lst Ty.ints (g8)) s77 a83 (.tmp 27) := r49
             clear r49
             refine tL ok80 (Yld.toL (y_as (kq hs49 sm49 194 q707))) fun a84 s78 hs50 ok81 r50 sm50 => ?_
             have q717 : At (Ty.int (eltE n ((g5)))) s78 a84 (.tmp 16) := r50
             clear r50; refine wpList_nil (tn (wp_seq ?_))
             have hKE : eltE n g5 = 0 := (by unfold eltE; rw [if_pos oM])
             have hEK := hp6.ok oM
             have hstl := stay_len (R := g3) (b := b) (i := i)
             have hor2 : ordS (stayT g3 b i) = g8 := (by rw [ei]; exact StlP.stay hp5 hEK hRn hRm)
             obtain ⟨t13, e1, h1, q718⟩ := Own.seal (Own.kl (Own.kl (Own.kl (Own.kl (Own.kl (Own.kl o300 hs45) hs46) hs47) hs48) hs49) hs50) dE
             rw [← e1]
             have F82 := (((((((F68.step0 D28.stp).sl hs45).sl hs46).sl hs47).sl hs48).sl hs49).sl hs50).step h1 dE; have o352 := OwnP.keepL (OwnP.kl (OwnP.kl (OwnP.kl (OwnP.kl (OwnP.kl (OwnP.kl o301 hs45) hs46) hs47) hs48) hs49) hs50) (h1.toL (L := [20]) (by simp)) dE dE; have o353 := ChnU.keepL (ChnU.kl (ChnU.kl (ChnU.kl (ChnU.kl (ChnU.kl (ChnU.kl o302 hs45) hs46) hs47) hs48) hs49) hs50) (h1.toL (L := [20]) (by simp)) dE dE; have o354 := Own.keepL (Own.kl (Own.kl (Own.kl (Own.kl (Own.kl (Own.kl o303 hs45) hs46) hs47) hs48) hs49) hs50) (h1.toL (L := [20]) (by simp)) dE dE; have o355 := OwnP.keepL (OwnP.kl (OwnP.kl (OwnP.kl (OwnP.kl (OwnP.kl o310 hs46) hs47) hs48) hs49) hs50) (h1.toL (L := [20]) (by simp)) dE dE; have o356 := ChnU.keepL (ChnU.kl (ChnU.kl (ChnU.kl (ChnU.kl (ChnU.kl o311 hs46) hs47) hs48) hs49) hs50) (h1.toL (L := [20]) (by simp)) dE dE; have o357 := Own.keepL (Own.kl (Own.kl (Own.kl (Own.kl (Own.kl o312 hs46) hs47) hs48) hs49) hs50) (h1.toL (L := [20]) (by simp)) dE dE
             have q719 : At (Ty.lst Ty.ints (stayT g3 b i)) t13 a84 (.tmp 25) := by have e : a84.eval (.tmp 25) = x25_1 := (kq hs50 sm50 25 (kq hs49 sm49 25 (kq hs48 sm48 25 (kq hs47 sm47 25 (kq hs46 sm46 25 (kq hs45 sm45 25 (D28.k q640))))))); show Ty.has _ _ _; rw [e]; exact q718
             have q720 := Ty.up (Ty.nat n) (h1.le dE) (kq hs50 sm50 1 (kq hs49 sm49 1 (kq hs48 sm48 1 (kq hs47 sm47 1 (kq hs46 sm46 1 (kq hs45 sm45 1 (D28.k q641))))))); have q721 := Ty.up (Ty.val x1) (h1.le dE) (kq hs50 sm50 24 (kq hs49 sm49 24 (kq hs48 sm48 24 (kq hs47 sm47 24 (kq hs46 sm46 24 (kq hs45 sm45 24 (D28.k q644))))))); have q722 := Ty.up (Ty.lst Ty.ints (g8)) (h1.le dE) (kq hs50 sm50 27 q712); have q723 := Ty.up (Ty.int (eltE n ((g5)))) (h1.le dE) q717
             refine gI a84 t13 ok81 (gE2 ok81 fun a85 s79 ok82 D29 => ?_); have o358 := OwnP.k0 o352 D29.stp; have o359 := ChnU.k0 o353 D29.stp; have o360 := Own.k0 o354 D29.stp; have o361 := OwnP.k0 o355 D29.stp; have o362 := ChnU.k0 o356 D29.stp; have o363 := Own.k0 o357 D29.stp
             refine tL ok82 (Yld.toL (y_mv (D29.k q723))) fun a86 s80 hs51 ok83 r51 sm51 => ?_
             have q733 : At (Ty.int (eltE n ((g5)))) s80 a86 (.tmp 195) := r51
             clear r51
             refine tL (R := (fun v τ => Pr.has (Ty.pr (Ty.bool (decide ((eltE n ((g5))) = (0 : Int))))) τ v)) ok83 (Yld.toL (y_eql q733 rfl)) fun a87 s81 hs52 ok84 r52 sm52 => ?_
             have q738 : At (Ty.bool (decide ((eltE n ((g5))) = (0 : Int)))) s81 a87 (.tmp 196) := r52
             clear r52
             refine tL ok84 (Yld.toL (y_mv q738)) fun a88 s82 hs53 ok85 r53 sm53 => ?_
             have q743 : At (Ty.bool (decide ((eltE n ((g5))) = (0 : Int)))) s82 a88 (.tmp 197) := r53
             clear r53
             rcases Bool.eq_false_or_eq_true (decide ((eltE n ((g5))) = (0 : Int))) with hg3 | hg3
             ·
              have q744 : At (Ty.bool true) s82 a88 (.tmp 197) := cvb hg3 q743
              refine tD (T := (Ty.val x1)) ok85 q744 (y_move (kq hs53 sm53 24 (kq hs52 sm52 24 (kq hs51 sm51 24 (D29.k q721))))) fun a89 s83 hs54 ok86 r54 sm54 => ?_
              have q748 := kq hs54 sm54 197 q744
              have q749 : At (Ty.val x1) s83 a89 (.tmp 198) := r54
              clear r54
              refine tailDo (L := [54, 55, 56]) (R := (fun v τ' => ∃ τ, (fun v τ => (Ty.has (Ty.nat n) τ v) ∧ (OwnP τ 41 x1 [(Ty.nat n), (Ty.val x3), (Ty.val x2)]) ∧ (ChnU τ 42 22 108 x2 n (((g6))) (((g7)))) ∧ (Own τ 43 22 1 x3 (List.length (((g5)))) (List.map Ty.ints (((g5)))))) v τ ∧ Back [(41, 54), (42, 55), (43, 56)] τ τ')) ok86 rfl rfl dE q748 rfl rfl dE (y_callL (L := [41, 42, 43]) [(54, 41), (55, 42), (56, 43)] [(41, 54), (42, 55), (43, 56)] #[a89.eval (.tmp 198)] rfl dE Try.func43 rfl rfl my1 (gBells_fn (x1) (x3) (x2) (((g7))) (n) (((g6))) (((g5))) _ lW _ (uL q749) (OwnP.ren (OwnP.kl (OwnP.kl (OwnP.kl (OwnP.kl o361 hs51) hs52) hs53) hs54) (GW.ren_lend _ _ dE rfl)) (ChnU.ren (cvch (by (rfl)) (ChnU.kl (ChnU.kl (ChnU.kl (ChnU.kl o362 hs51) hs52) hs53) hs54)) (GW.ren_lend _ _ dE rfl)) (Own.ren (cvo (by (simp)) (by (simp)) (Own.kl (Own.kl (Own.kl (Own.kl o363 hs51) hs52) hs53) hs54)) (GW.ren_lend _ _ dE rfl)) )) (fun a90 s84 hs55 ok87 r55 sm55 => ?_)
              have q753 := kq hs55 sm55 197 q748
              obtain ⟨t14, ⟨hT7, o388, o389, o390⟩, B7⟩ := r55
              have q754 : At (Ty.nat n) s84 a90 (.tmp 199) := Ty.up _ B7.le hT7
              have o391 : OwnP s84 54 x1 [(Ty.nat n), (Ty.val x3), (Ty.val x2)] := OwnP.ren o388 (B7.ren dE rfl)
              have o392 : ChnU s84 55 22 108 x2 n (((g6))) (((g7))) := ChnU.ren o389 (B7.ren dE rfl)
              have o393 : Own s84 56 22 1 x3 (List.length (((g5)))) (List.map Ty.ints (((g5)))) := Own.ren o390 (B7.ren dE rfl)
              refine tD (T := (Ty.nat n)) ok87 q753 (y_move (kq hs55 sm55 1 (kq hs54 sm54 1 (kq hs53 sm53 1 (kq hs52 sm52 1 (kq hs51 sm51 1 (D29.k q720))))))) fun a91 s85 hs56 ok88 r56 sm56 => ?_
              have q757 := kq hs56 sm56 197 q753
              have q759 : At (Ty.nat n) s85 a91 (.tmp 200) := r56
              clear r56
              refine tD (T := (Ty.bool (decide (((n : Nat) : Int) = ((n : Nat) : Int))))) ok88 q757 (y_eql (kq hs56 sm56 199 q754) q759) fun a92 s86 hs57 ok89 r57 sm57 => ?_
              have q763 : At (Ty.bool (decide (((n : Nat) : Int) = ((n : Nat) : Int)))) s86 a92 (.tmp 201) := r57
              clear r57
              refine tL (R := (fun v τ => Pr.has (Ty.pr (Ty.bool (decide (((n : Nat) : Int) = ((n : Nat) : Int))))) τ v)) ok89 (Yld.toL (y_pickT (kq hs57 sm57 197 q757) q763)) fun a93 s87 hs58 ok90 r58 sm58 => ?_
              have q766 : At (Ty.bool (decide (((n : Nat) : Int) = ((n : Nat) : Int)))) s87 a93 (.tmp 202) := r58
              clear r58
              refine tL ok90 (Yld.toL (y_mv q766)) fun a94 s88 hs59 ok91 r59 sm59 => ?_
              have q769 : At (Ty.bool (decide (((n : Nat) : Int) = ((n : Nat) : Int)))) s88 a94 (.tmp 203) := r59
              clear r59
              rcases Bool.eq_false_or_eq_true (decide (((n : Nat) : Int) = ((n : Nat) : Int))) with hg4 | hg4
              ·
               have q770 : At (Ty.bool true) s88 a94 (.tmp 203) := cvb hg4 q769
               refine tD (T := (Ty.lst Ty.ints (g8))) ok91 q770 (y_move (kq hs59 sm59 27 (kq hs58 sm58 27 (kq hs57 sm57 27 (kq hs56 sm56 27 (kq hs55 sm55 27 (kq hs54 sm54 27 (kq hs53 sm53 27 (kq hs52 sm52 27 (kq hs51 sm51 27 (D29.k q722))))))))))) fun a95 s89 hs60 ok92 r60 sm60 => ?_
               have q772 := kq hs60 sm60 203 q770
               have q773 : At (Ty.lst Ty.ints (g8)) s89 a95 (.tmp 204) := r60
               clear r60
               refine tD (T := (Ty.lst Ty.ints (stayT g3 b i))) ok92 q772 (y_move (kq hs60 sm60 25 (kq hs59 sm59 25 (kq hs58 sm58 25 (kq hs57 sm57 25 (kq hs56 sm56 25 (kq hs55 sm55 25 (kq hs54 sm54 25 (kq hs53 sm53 25 (kq hs52 sm52 25 (kq hs51 sm51 25 (D29.k q719)))))))))))) fun a96 s90 hs61 ok93 r61 sm61 => ?_
               have q774 := kq hs61 sm61 203 q772
               have q776 : At (Ty.lst Ty.ints (stayT g3 b i)) s90 a96 (.tmp 205) := r61
               clear r61
               refine tD (T := (Ty.lst Ty.ints (ordS ((stayT g3 b i))))) ok93 q774 (y_call _ Try.func25 rfl rfl my1 (rOrdered_fn (((stayT g3 b i)).length) ((stayT g3 b i)) _ _ q776 oX oX)) fun a97 s91 hs62 ok94 r62 sm62 => ?_
               have q777 := kq hs62 sm62 203 q774
               have q779 : At (Ty.lst Ty.ints (ordS ((stayT g3 b i)))) s91 a97 (.tmp 206) := r62
               clear r62
               refine tD (T := (Ty.bool (decide (((g8)) = ((ordS ((stayT g3 b i)))))))) ok94 q777 (y_call _ Try.func29 rfl rfl my2 (rSameAll_fn ((g8)) ((ordS ((stayT g3 b i)))) _ _ _ (kq hs62 sm62 204 (kq hs61 sm61 204 q773)) q779 )) fun a98 s92 hs63 ok95 r63 sm63 => ?_
               have q781 : At (Ty.bool (decide (((g8)) = ((ordS ((stayT g3 b i))))))) s92 a98 (.tmp 207) := r63
               clear r63
               refine tL (R := (fun v τ => Pr.has (Ty.pr (Ty.bool (decide (((g8)) = ((ordS ((stayT g3 b i)))))))) τ v)) ok95 (Yld.toL (y_pickT (kq hs63 sm63 203 q777) q781)) fun a99 s93 hs64 ok96 r64 sm64 => ?_
               have q782 : At (Ty.bool (decide (((g8)) = ((ordS ((stayT g3 b i))))))) s93 a99 (.tmp 208) := r64
               clear r64
               refine tL ok96 (Yld.toL (y_as q782)) fun a100 s94 hs65 ok97 r65 sm65 => ?_
               have o454 := OwnP.kl (OwnP.kl (OwnP.kl (OwnP.kl (OwnP.kl (OwnP.kl (OwnP.kl (OwnP.kl (OwnP.kl (OwnP.kl o391 hs56) hs57) hs58) hs59) hs60) hs61) hs62) hs63) hs64) hs65; have o455 := ChnU.kl (ChnU.kl (ChnU.kl (ChnU.kl (ChnU.kl (ChnU.kl (ChnU.kl (ChnU.kl (ChnU.kl (ChnU.kl o392 hs56) hs57) hs58) hs59) hs60) hs61) hs62) hs63) hs64) hs65; have o456 := Own.kl (Own.kl (Own.kl (Own.kl (Own.kl (Own.kl (Own.kl (Own.kl (Own.kl (Own.kl o393 hs56) hs57) hs58) hs59) hs60) hs61) hs62) hs63) hs64) hs65
               have q783 : At (Ty.bool (decide (((g8)) = ((ordS ((stayT g3 b i))))))) s94 a100 (.tmp 14) := r65
               clear r65; refine wpList_nil (tn (wp_ret ?_))
               exact retL1 rfl ok97 ((((((((((((((((F82.step0 D29.stp).sl hs51).sl hs52).sl hs53).sl hs54).sl hs55).sl hs56).sl hs57).sl hs58).sl hs59).sl hs60).sl hs61).sl hs62).sl hs63).sl hs64).sl hs65) ⟨(cvb (by (rw [hor2]; simp)) q783), (OwnP.kl (OwnP.kl (OwnP.kl (OwnP.kl (OwnP.kl (OwnP.kl (OwnP.kl (OwnP.kl (OwnP.kl (OwnP.kl (OwnP.kl (OwnP.kl (OwnP.kl (OwnP.kl (OwnP.kl o358 hs51) hs52) hs53) hs54) hs55) hs56) hs57) hs58) hs59) hs60) hs61) hs62) hs63) hs64) hs65), (ChnU.kl (ChnU.kl (ChnU.kl (ChnU.kl (ChnU.kl (ChnU.kl (ChnU.kl (ChnU.kl (ChnU.kl (ChnU.kl (ChnU.kl (ChnU.kl (ChnU.kl (ChnU.kl (ChnU.kl o359 hs51) hs52) hs53) hs54) hs55) hs56) hs57) hs58) hs59) hs60) hs61) hs62) hs63) hs64) hs65), (Own.kl (Own.kl (Own.kl (Own.kl (Own.kl (Own.kl (Own.kl (Own.kl (Own.kl (Own.kl (Own.kl (Own.kl (Own.kl (Own.kl (Own.kl o360 hs51) hs52) hs53) hs54) hs55) hs56) hs57) hs58) hs59) hs60) hs61) hs62) hs63) hs64) hs65)⟩
              · (simp at hg4)
             · (have h_ := of_decide_eq_false hg3; exact absurd hKE h_)


theorem gRows_fn (gv : Value) (gs : Value) (cs : Value) (us : List Value) (n : Nat) (c : Nat → Lev) (gens : List (List Int)) (r : List Int) (bell : Int) (σ : GW) (hlow : Low [41, 42, 43] σ) (v0 v1 v2 v3 v4 v5 v6 : Value) (hv0 : Ty.has (Ty.val gv) σ v0) (hv1 : Ty.has (Ty.nat n) σ v1) (hv2 : Ty.has (Ty.lst Ty.ints gens) σ v2) (hv3 : Ty.has (Ty.lst Ty.int r) σ v3) (hv4 : Ty.has (Ty.int (fitsE n r)) σ v4) (hv5 : Ty.has (Ty.int bell) σ v5) (hv6 : Ty.has (Ty.nat (szTo n (fun y => y ∈ gens) n)) σ v6) (ho_gv : OwnP σ 41 gv [(Ty.nat n), (Ty.val gs), (Ty.val cs)]) (ho_cs : ChnU σ 42 22 108 cs n c us) (ho_gs : Own σ 43 22 1 gs (List.length gens) (List.map Ty.ints gens)) (hC : ChnOf n gens c) (hG : ∀ x ∈ gens, RowN n x) (hGl : gens.length ≤ 8) :
    FnL Try.prog 47 #[v0, v1, v2, v3, v4, v5, v6] σ [41, 42, 43] (fun v τ => (Ty.has (Ty.bool true) τ v) ∧ (OwnP τ 41 gv [(Ty.nat n), (Ty.val gs), (Ty.val cs)]) ∧ (ChnU τ 42 22 108 cs n c us) ∧ (Own τ 43 22 1 gs (List.length gens) (List.map Ty.ints gens))) := by
  by_cases hL : 5040 < szTo n (fun y => y ∈ gens) n
  · exact gRowsL_fn gv gs cs us n c gens r bell σ hlow v0 v1 v2 v3 v4 v5 v6 hv0 hv1 hv2 hv3 hv4 hv5 hv6 ho_gv ho_cs ho_gs hC hG hGl hL
  · by_cases hb : bell < 0 ∨ (n : Int) ≤ bell
    · exact gRowsN_fn gv gs cs us n c gens r bell σ hlow v0 v1 v2 v3 v4 v5 v6 hv0 hv1 hv2 hv3 hv4 hv5 hv6 ho_gv ho_cs ho_gs hC hG hGl oM hb
    · obtain ⟨b, rfl⟩ : ∃ b : Nat, bell = (b : Int) := ⟨bell.toNat, by omega⟩
      exact gRowsC_fn gv gs cs us n c gens r b σ hlow v0 v1 v2 v3 v4 v5 v6 hv0 hv1 hv2 hv3 hv4 hv5 hv6 ho_gv ho_cs ho_gs hC hG hGl oM oM


end Go.Proofs.Ytkjifbgofckfeaa
