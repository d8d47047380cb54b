/- The functions that the law GroupNormal reaches, each by its contract. Part 3. -/
import Derived.Test.YtkjifbgofckfeaaGroupNormalW2
namespace Go.Proofs.Ytkjifbgofckfeaa
open Go.KL

set_option maxHeartbeats 4000000 in
set_option maxRecDepth 100000 in
theorem gNormal_fn (gv : Value) (gs : Value) (cs : Value) (us : List Value) (n : Nat) (c : Nat → Lev) (gens : List (List Int)) (hv : Value) (gs2 : Value) (ds : Value) (vs : List Value) (m : Nat) (d : Nat → Lev) (hg : List (List Int)) (σ : GW) (hlow : Low [41, 42, 43, 44, 45, 46] σ) (v0 v1 : Value) (hv0 : Ty.has (Ty.val gv) σ v0) (hv1 : Ty.has (Ty.val hv) σ v1) (ho_gv : OwnP σ 41 gv [(Ty.nat n), (Ty.val gs), (Ty.val cs)]) (ho_cs : ChnU σ 42 22 108 cs n c us) (ho_gs : Own σ 43 22 1 gs (List.length gens) (List.map Ty.ints gens)) (ho_hv : OwnP σ 44 hv [(Ty.nat m), (Ty.val gs2), (Ty.val ds)]) (ho_ds : ChnU σ 45 22 108 ds m d vs) (ho_gs2 : Own σ 46 22 1 gs2 (List.length hg) (List.map Ty.ints hg)) (hw : WC n c) (hw2 : WC m d) (hG : ∀ x ∈ gens, RowN n x) (hH : ∀ y ∈ hg, RowN m y) (hgl : gens.length ≤ 1000000) (hhl : hg.length ≤ 1000000) :
    FnL Try.prog 18 #[v0, v1] σ [41, 42, 43, 44, 45, 46] (fun v τ => (Ty.has (Ty.tup2 (Ty.bool (normB n m c d gens hg)) (Ty.int (normE n m c hg))) τ v) ∧ (OwnP τ 41 gv [(Ty.nat n), (Ty.val gs), (Ty.val cs)]) ∧ (ChnU τ 42 22 108 cs n c us) ∧ (Own τ 43 22 1 gs (List.length gens) (List.map Ty.ints gens)) ∧ (OwnP τ 44 hv [(Ty.nat m), (Ty.val gs2), (Ty.val ds)]) ∧ (ChnU τ 45 22 108 ds m d vs) ∧ (Own τ 46 22 1 gs2 (List.length hg) (List.map Ty.ints hg))) := by
 refine fn_introL hlow Try.func18 rfl Try.ntmps18 (Nat.le_of_ble_eq_true rfl) (fun a0 F0 ok0 hargs => ?_)
 have p0 := pB (hargs 0 _ rfl) hv0
 have p1 := pB (hargs 1 _ rfl) hv1
 clear hargs; refine wp_seq ?_
 refine gI a0 σ ok0 (gC (Ty.bool false) (gC (Ty.int (0 : Int)) (gE ok0 fun a1 s1 ok1 D1 => ?_))); have q1 := D1.kt p0 rfl; have q2 := D1.kt p1 rfl; have o1 := OwnP.k0 ho_gv D1.stp; have o2 := ChnU.k0 ho_cs D1.stp; have o3 := Own.k0 ho_gs D1.stp; have o4 := OwnP.k0 ho_hv D1.stp; have o5 := ChnU.k0 ho_ds D1.stp; have o6 := Own.k0 ho_gs2 D1.stp; refine tn (wp_seq (wp_seq ?_))
 refine gI a1 s1 ok1 (gM q1 (gT (Ty.val gv) rfl (fun A B E G H d0 => rP (y_nilp (OwnP.k0 o1 E) (ed d0 rfl rfl rfl))) (gT (Ty.val (ptrAt gv 0)) rfl (fun A B E G H d0 => rP (ownp_field Try.fld95_0 Try.inf3 (by decide) (OwnP.k0 o1 E) (ed d0 rfl rfl rfl))) (gS rfl (fun A B E G H d0 => rP (ownp_load Try.underlying3 rfl (OwnP.k0 o1 E) (ed d0 rfl rfl rfl) rfl)) (gM q2 (gT (Ty.val hv) rfl (fun A B E G H d0 => rP (y_nilp (OwnP.k0 o4 E) (ed d0 rfl rfl rfl))) (gT (Ty.val (ptrAt hv 0)) rfl (fun A B E G H d0 => rP (ownp_field Try.fld95_0 Try.inf3 (by decide) (OwnP.k0 o4 E) (ed d0 rfl rfl rfl))) (gS rfl (fun A B E G H d0 => rP (ownp_load Try.underlying3 rfl (OwnP.k0 o4 E) (ed d0 rfl rfl rfl) rfl)) (gS rfl (fun A B E G H d0 d1 => rP (y_neq (ed d0 rfl rfl rfl) (ed d1 rfl rfl rfl))) (gE ok1 fun a2 s2 ok2 D2 => ?_)))))))))); have F2 := (F0.step0 D1.stp).step0 D2.stp; have q4 := D2.kt q2 rfl; have o7 := OwnP.k0 o1 D2.stp; have o8 := ChnU.k0 o2 D2.stp; have o9 := Own.k0 o3 D2.stp; have o10 := OwnP.k0 o4 D2.stp; have o11 := ChnU.k0 o5 D2.stp; have o12 := Own.k0 o6 D2.stp; refine tn ?_
 refine cond_p (p := (((n : Nat) : Int) ≠ ((m : Nat) : Int))) (D2.dn 8 rfl rfl) (fun c1 => ?_) (fun c1 => ?_)
 ·
  have hE := normE_1 (c := c) (hg := hg) (show n ≠ m by omega)
  refine wp_seq ?_
  refine gI a2 s2 ok2 (gC (Ty.bool false) (gC (Ty.int (1 : Int)) (gE ok2 fun a3 s3 ok3 D3 => ?_))); have o13 := OwnP.k0 o7 D3.stp; have o14 := ChnU.k0 o8 D3.stp; have o15 := Own.k0 o9 D3.stp; have o16 := OwnP.k0 o10 D3.stp; have o17 := ChnU.k0 o11 D3.stp; have o18 := Own.k0 o12 D3.stp; refine tn (wp_ret (tr ?_))
  exact retL2 rfl ok3 (F2.step0 D3.stp) ⟨(hasT2 (cvb (by (rw [normB_e (by rw [hE]; decide)])) (D3.dn 0 rfl rfl)) (cvi (by (rw [hE])) (D3.dn 1 rfl rfl))), o13, o14, o15, o16, o17, o18⟩
 ·
  have hnm : n = m := (by omega)
  refine wp_skip (tn (wp_seq (wp_seq ?_)))
  refine gI a2 s2 ok2 (gM q4 (gT (Ty.val hv) rfl (fun A B E G H d0 => rP (y_nilp (OwnP.k0 o10 E) (ed d0 rfl rfl rfl))) (gT (Ty.val (ptrAt hv 1)) rfl (fun A B E G H d0 => rP (ownp_field Try.fld95_1 Try.inf24 (by decide) (OwnP.k0 o10 E) (ed d0 rfl rfl rfl))) (gS rfl (fun A B E G H d0 => rP (ownp_load Try.underlying24 rfl (OwnP.k0 o10 E) (ed d0 rfl rfl rfl) rfl)) (gT (Ty.nat (List.length hg)) rfl (fun A B E G H d0 => rP (own_len Try.underlying24 (al (R := (Pr.own 46 22 1 (List.length hg) (List.map Ty.ints hg))) (ed d0 rfl rfl rfl) (Own.k0 o12 E)))) (gT (Ty.int (0 : Int)) rfl (fun A B E G H => rP (y_move rfl)) (gE ok2 fun a4 s4 ok4 D4 => ?_))))))); have o19 := OwnP.k0 o7 D4.stp; have o20 := ChnU.k0 o8 D4.stp; have o21 := Own.k0 o9 D4.stp; have o22 := OwnP.k0 o10 D4.stp; have o23 := ChnU.k0 o11 D4.stp; have o24 := Own.k0 o12 D4.stp; refine tn (wp_block ?_)
  refine loop (fun n1 a5 w1 => ∃ (t1 : GW) (i : Nat), t1.w = w1 ∧ FromL [41, 42, 43, 44, 45, 46] σ t1 ∧ Ok 76 [] a5 ∧ At (Ty.nat i) t1 a5 (.tmp 30) ∧ At (Ty.val gv) t1 a5 (.tmp 0) ∧ At (Ty.val hv) t1 a5 (.tmp 1) ∧ At (Ty.val gs2) t1 a5 (.tmp 28) ∧ At (Ty.nat (List.length hg)) t1 a5 (.tmp 29) ∧ OwnP t1 41 gv [(Ty.nat n), (Ty.val gs), (Ty.val cs)] ∧ ChnU t1 42 22 108 cs n c us ∧ Own t1 43 22 1 gs (List.length gens) (List.map Ty.ints gens) ∧ OwnP t1 44 hv [(Ty.nat m), (Ty.val gs2), (Ty.val ds)] ∧ ChnU t1 45 22 108 ds m d vs ∧ Own t1 46 22 1 gs2 (List.length hg) (List.map Ty.ints hg) ∧ (i ≤ hg.length) ∧ (∀ a, a < i → hasB n c (hg.getD a []) = true) ∧ n1 = hg.length - i) (hg.length - (0)) ?_ ?_
  ·
   exact ⟨s4, 0, rfl, (F2.step0 D4.stp), ok4, (cvi (by (first | rfl | omega | (simp_all; done) | (simp_all; omega))) (D4.dn 5 rfl rfl)), (D4.kt (D2.kt q1 rfl) rfl), (D4.kt q4 rfl), (D4.dn 3 rfl rfl), (D4.dn 4 rfl rfl), o19, o20, o21, o22, o23, o24, by omega, fun j hj => absurd hj (Nat.not_lt_zero j), rfl⟩
  ·
   rintro n2 a6 w2 ⟨t2, i, rfl, F5, ok5, q13, q14, q15, q16, q17, o25, o26, o27, o28, o29, o30, hi, hA, rfl⟩
   refine wp_seq ?_
   refine gI a6 t2 ok5 (gS rfl (fun A B E G H => rP (y_lss (kp (H 30 rfl) E q13) (kp (H 29 rfl) E q17))) (gE ok5 fun a7 s5 ok6 D5 => ?_)); have F6 := F5.step0 D5.stp; have q18 := D5.kt q13 rfl; have q19 := D5.kt q14 rfl; have q20 := D5.kt q15 rfl; have q21 := D5.kt q16 rfl; have o31 := OwnP.k0 o25 D5.stp; have o32 := ChnU.k0 o26 D5.stp; have o33 := Own.k0 o27 D5.stp; have o34 := OwnP.k0 o28 D5.stp; have o35 := ChnU.k0 o29 D5.stp; have o36 := Own.k0 o30 D5.stp; refine tn (wp_seq ?_)
   refine cond_p (p := (((i : Nat) : Int) < (((List.length hg) : Nat) : Int))) (D5.dn 0 rfl rfl) (fun c2 => ?_) (fun c2 => ?_)
   ·
    refine wp_skip (tn (wp_seq (wp_block (wp_seq ?_))))
    refine gI a7 s5 ok6 (gT (Ty.val (cellPtr gs2 i)) rfl (fun A B E G H => rP (own_index1 (i := ((i : Nat) : Int)) Try.underlying24 Try.inf22 (Own.k0 o36 E) (kp (H 28 rfl) E q21) (kp (H 30 rfl) E q18) (by omega) (by omega))) (gS rfl (fun A B E G H d0 => rP (own_load Try.underlying22 rfl (Own.k0 o36 E) (ed d0 rfl rfl rfl) (lst_get Ty.ints hg [] i (by omega)))) (gB 0 (gE ok6 fun a8 s6 ok7 D6 => ?_)))); have q25 := D6.kt q19 rfl; have o37 := OwnP.k0 o31 D6.stp; have o38 := ChnU.k0 o32 D6.stp; have o39 := Own.k0 o33 D6.stp; have o40 := OwnP.k0 o34 D6.stp; have o41 := ChnU.k0 o35 D6.stp; have o42 := Own.k0 o36 D6.stp; refine tn (wp_seq ?_)
    refine gI a8 s6 ok7 (gM q25 (gM (D6.dn 2 rfl rfl) (gE2 ok7 fun a9 s7 ok8 D7 => ?_))); have o43 := OwnP.k0 o37 D7.stp; have o44 := ChnU.k0 o38 D7.stp; have o45 := Own.k0 o39 D7.stp; have o46 := OwnP.k0 o40 D7.stp; have o47 := ChnU.k0 o41 D7.stp; have o48 := Own.k0 o42 D7.stp
    refine tL ok8 (y_callL (L := [41, 42]) [(41, 41), (42, 42)] [(41, 41), (42, 42)] #[a9.eval (.tmp 35), a9.eval (.tmp 36)] rfl (by decide) Try.func46 rfl rfl my2 (gHas_fn (gv) (gs) (cs) (us) (n) (c) ((hg.getD i [])) _ (GW.low_lend _ (by decide)) _ _ (Ty.up _ (GW.le_lend _ _) (D7.dn 0 (by decide) rfl rfl)) (Ty.up _ (GW.le_lend _ _) (D7.dn 1 (by decide) rfl rfl)) (OwnP.ren o43 (GW.ren_lend _ _ (by decide) rfl)) (ChnU.ren o44 (GW.ren_lend _ _ (by decide) rfl)) (by first | omega | assumption))) fun a10 s8 hs1 ok9 r1 sm1 => ?_
    have F9 := ((F6.step0 D6.stp).step0 D7.stp).stepL hs1 (by decide); have q37 := kpL hs1 (by decide) (sm1 30 (by decide)) (D7.kt (D6.kt q18 rfl) rfl); have q38 := kpL hs1 (by decide) (sm1 0 (by decide)) (D7.kt q25 rfl); have q39 := kpL hs1 (by decide) (sm1 1 (by decide)) (D7.kt (D6.kt q20 rfl) rfl); have q40 := kpL hs1 (by decide) (sm1 28 (by decide)) (D7.kt (D6.kt q21 rfl) rfl); have q41 := kpL hs1 (by decide) (sm1 29 (by decide)) (D7.kt (D6.kt (D5.kt q17 rfl) rfl) rfl); have o53 := Own.keepL o45 hs1 (by decide) (by decide); have o54 := OwnP.keepL o46 hs1 (by decide) (by decide); have o55 := ChnU.keepL o47 hs1 (by decide) (by decide); have o56 := Own.keepL o48 hs1 (by decide) (by decide)
    obtain ⟨t3, ⟨hT1, o49, o50⟩, B1⟩ := r1
    have q42 : At (Ty.tup2 (Ty.bool (hasB n c ((hg.getD i [])))) (Ty.int (fitsE n ((hg.getD i []))))) s8 a10 (.tmp 37) := Ty.up _ B1.le hT1
    have o51 : OwnP s8 41 gv [(Ty.nat n), (Ty.val gs), (Ty.val cs)] := OwnP.ren o49 (B1.ren (by decide) rfl)
    have o52 : ChnU s8 42 22 108 cs n c us := ChnU.ren o50 (B1.ren (by decide) rfl)
    refine tL ok9 (Yld.toL (y_mv q42)) fun a11 s9 hs2 ok10 r2 sm2 => ?_
    have F10 := F9.stepL hs2 (by decide); have q43 := kpL hs2 (by decide) (sm2 30 (by decide)) q37; have q44 := kpL hs2 (by decide) (sm2 0 (by decide)) q38; have q45 := kpL hs2 (by decide) (sm2 1 (by decide)) q39; have q46 := kpL hs2 (by decide) (sm2 28 (by decide)) q40; have q47 := kpL hs2 (by decide) (sm2 29 (by decide)) q41; have o57 := Own.keepL o53 hs2 (by decide) (by decide); have o58 := OwnP.keepL o54 hs2 (by decide) (by decide); have o59 := ChnU.keepL o55 hs2 (by decide) (by decide); have o60 := Own.keepL o56 hs2 (by decide) (by decide); have o61 := OwnP.keepL o51 hs2 (by decide) (by decide); have o62 := ChnU.keepL o52 hs2 (by decide) (by decide)
    have q48 : At (Ty.tup2 (Ty.bool (hasB n c ((hg.getD i [])))) (Ty.int (fitsE n ((hg.getD i []))))) s9 a11 (.tmp 34) := r2
    clear r2
    refine tL (R := (fun v τ => Pr.has (Ty.pr (Ty.bool (hasB n c ((hg.getD i []))))) τ v)) ok10 (Yld.toL (y_ext2_0 q48)) fun a12 s10 hs3 ok11 r3 sm3 => ?_
    have F11 := F10.stepL hs3 (by decide); have q49 := kpL hs3 (by decide) (sm3 30 (by decide)) q43; have q50 := kpL hs3 (by decide) (sm3 0 (by decide)) q44; have q51 := kpL hs3 (by decide) (sm3 1 (by decide)) q45; have q52 := kpL hs3 (by decide) (sm3 28 (by decide)) q46; have q53 := kpL hs3 (by decide) (sm3 29 (by decide)) q47; have q54 := kpL hs3 (by decide) (sm3 34 (by decide)) q48; have o63 := Own.keepL o57 hs3 (by decide) (by decide); have o64 := OwnP.keepL o58 hs3 (by decide) (by decide); have o65 := ChnU.keepL o59 hs3 (by decide) (by decide); have o66 := Own.keepL o60 hs3 (by decide) (by decide); have o67 := OwnP.keepL o61 hs3 (by decide) (by decide); have o68 := ChnU.keepL o62 hs3 (by decide) (by decide)
    have q55 : At (Ty.bool (hasB n c ((hg.getD i [])))) s10 a12 (.tmp 38) := r3
    clear r3
    refine tL (R := (fun v τ => Pr.has (Ty.pr (Ty.int (fitsE n ((hg.getD i []))))) τ v)) ok11 (Yld.toL (y_ext2_1 q54)) fun a13 s11 hs4 ok12 r4 sm4 => ?_
    have F12 := F11.stepL hs4 (by decide); have q56 := kpL hs4 (by decide) (sm4 30 (by decide)) q49; have q57 := kpL hs4 (by decide) (sm4 0 (by decide)) q50; have q58 := kpL hs4 (by decide) (sm4 1 (by decide)) q51; have q59 := kpL hs4 (by decide) (sm4 28 (by decide)) q52; have q60 := kpL hs4 (by decide) (sm4 29 (by decide)) q53; have q61 := kpL hs4 (by decide) (sm4 38 (by decide)) q55; have o69 := Own.keepL o63 hs4 (by decide) (by decide); have o70 := OwnP.keepL o64 hs4 (by decide) (by decide); have o71 := ChnU.keepL o65 hs4 (by decide) (by decide); have o72 := Own.keepL o66 hs4 (by decide) (by decide); have o73 := OwnP.keepL o67 hs4 (by decide) (by decide); have o74 := ChnU.keepL o68 hs4 (by decide) (by decide)
    have q62 : At (Ty.int (fitsE n ((hg.getD i [])))) s11 a13 (.tmp 39) := r4
    clear r4
    refine tL ok12 (Yld.toL (y_as q61)) fun a14 s12 hs5 ok13 r5 sm5 => ?_
    have F13 := F12.stepL hs5 (by decide); have q63 := kpL hs5 (by decide) (sm5 30 (by decide)) q56; have q64 := kpL hs5 (by decide) (sm5 0 (by decide)) q57; have q65 := kpL hs5 (by decide) (sm5 1 (by decide)) q58; have q66 := kpL hs5 (by decide) (sm5 28 (by decide)) q59; have q67 := kpL hs5 (by decide) (sm5 29 (by decide)) q60; have q68 := kpL hs5 (by decide) (sm5 39 (by decide)) q62; have o75 := Own.keepL o69 hs5 (by decide) (by decide); have o76 := OwnP.keepL o70 hs5 (by decide) (by decide); have o77 := ChnU.keepL o71 hs5 (by decide) (by decide); have o78 := Own.keepL o72 hs5 (by decide) (by decide); have o79 := OwnP.keepL o73 hs5 (by decide) (by decide); have o80 := ChnU.keepL o74 hs5 (by decide) (by decide)
    have q69 : At (Ty.bool (hasB n c ((hg.getD i [])))) s12 a14 (.tmp 8) := r5
    clear r5
    refine tL ok13 (Yld.toL (y_as q68)) fun a15 s13 hs6 ok14 r6 sm6 => ?_
    have F14 := F13.stepL hs6 (by decide); have q70 := kpL hs6 (by decide) (sm6 30 (by decide)) q63; have q71 := kpL hs6 (by decide) (sm6 0 (by decide)) q64; have q72 := kpL hs6 (by decide) (sm6 1 (by decide)) q65; have q73 := kpL hs6 (by decide) (sm6 28 (by decide)) q66; have q74 := kpL hs6 (by decide) (sm6 29 (by decide)) q67; have q75 := kpL hs6 (by decide) (sm6 8 (by decide)) q69; have o81 := Own.keepL o75 hs6 (by decide) (by decide); have o82 := OwnP.keepL o76 hs6 (by decide) (by decide); have o83 := ChnU.keepL o77 hs6 (by decide) (by decide); have o84 := Own.keepL o78 hs6 (by decide) (by decide); have o85 := OwnP.keepL o79 hs6 (by decide) (by decide); have o86 := ChnU.keepL o80 hs6 (by decide) (by decide)
    have q76 : At (Ty.int (fitsE n ((hg.getD i [])))) s13 a15 (.tmp 9) := r6
    clear r6; refine wpList_nil (tn (wp_seq ?_))
    refine gI a15 s13 ok14 (gM q75 (gS rfl (fun A B E G H d0 => rP (y_not (ed d0 rfl rfl rfl))) (gE ok14 fun a16 s14 ok15 D8 => ?_))); have F15 := F14.step0 D8.stp; have o87 := Own.k0 o81 D8.stp; have o88 := OwnP.k0 o82 D8.stp; have o89 := ChnU.k0 o83 D8.stp; have o90 := Own.k0 o84 D8.stp; have o91 := OwnP.k0 o85 D8.stp; have o92 := ChnU.k0 o86 D8.stp; refine tn ?_
    refine cond_t (D8.dn 1 rfl rfl) (fun c3 => ?_) (fun c3 => ?_)
    ·
     have hb : hasB n c (hg.getD i []) = false := (by cases h_ : hasB n c (hg.getD i []) <;> simp_all); have hE := normE_14 hnm (by omega) hb
     refine wp_seq ?_
     refine gI a16 s14 ok15 (gC (Ty.bool false) (gC (Ty.int (14 : Int)) (gE ok15 fun a17 s15 ok16 D9 => ?_))); have o93 := Own.k0 o87 D9.stp; have o94 := OwnP.k0 o88 D9.stp; have o95 := ChnU.k0 o89 D9.stp; have o96 := Own.k0 o90 D9.stp; have o97 := OwnP.k0 o91 D9.stp; have o98 := ChnU.k0 o92 D9.stp; refine tn (wp_ret (br (tr (tr (br (tr ?_))))))
     exact retL2 rfl ok16 (F15.step0 D9.stp) ⟨(hasT2 (cvb (by (rw [normB_e (by rw [hE]; decide)])) (D9.dn 0 rfl rfl)) (cvi (by (rw [hE])) (D9.dn 1 rfl rfl))), o97, o98, o93, o94, o95, o96⟩
    ·
     have hb : hasB n c (hg.getD i []) = true := (by cases h_ : hasB n c (hg.getD i []) <;> simp_all)
     refine wp_skip (bn (tn ?_))
     refine gI a16 s14 ok15 (gT (Ty.nat (i + 1)) rfl (fun A B E G H => rP ((y_add (kp (H 30 rfl) E (D8.kt q70 rfl)) rfl (w64 (by omega) (by omega))).mono (fun τ _ h => cvi (σ := τ) (by first | omega | exact (Int.natCast_mul _ _).symm) h))) (gS rfl (fun A B E G H d0 => rP (y_move (ed d0 rfl rfl rfl))) (gE ok15 fun a18 s16 ok17 D10 => ?_))); have o99 := Own.k0 o87 D10.stp; have o100 := OwnP.k0 o88 D10.stp; have o101 := ChnU.k0 o89 D10.stp; have o102 := Own.k0 o90 D10.stp; have o103 := OwnP.k0 o91 D10.stp; have o104 := ChnU.k0 o92 D10.stp
     exact tn ⟨hg.length - ((i+1)), by omega, s16, (i+1), rfl, (F15.step0 D10.stp), ok17, (cvi (by (first | rfl | omega | (simp_all; done) | (simp_all; omega))) (D10.dn 1 rfl rfl)), (D10.kt (D8.kt q71 rfl) rfl), (D10.kt (D8.kt q72 rfl) rfl), (D10.kt (D8.kt q73 rfl) rfl), (D10.kt (D8.kt q74 rfl) rfl), o103, o104, o99, o100, o101, o102, by omega, fun a ha => by (by_cases e : a = i; (subst e; exact hb); exact hA a (by omega)), rfl⟩
   ·
    have hE := normE_0 hnm (fun j hj => hA j (by omega))
    refine wp_exit (tx (tx (bx (tn (wp_seq (wp_seq ?_))))))
    refine gI a7 s5 ok6 (gM q19 (gT (Ty.val gv) rfl (fun A B E G H d0 => rP (y_nilp (OwnP.k0 o31 E) (ed d0 rfl rfl rfl))) (gT (Ty.val (ptrAt gv 1)) rfl (fun A B E G H d0 => rP (ownp_field Try.fld95_1 Try.inf24 (by decide) (OwnP.k0 o31 E) (ed d0 rfl rfl rfl))) (gS rfl (fun A B E G H d0 => rP (ownp_load Try.underlying24 rfl (OwnP.k0 o31 E) (ed d0 rfl rfl rfl) rfl)) (gT (Ty.nat (List.length gens)) rfl (fun A B E G H d0 => rP (own_len Try.underlying24 (al (R := (Pr.own 43 22 1 (List.length gens) (List.map Ty.ints gens))) (ed d0 rfl rfl rfl) (Own.k0 o33 E)))) (gT (Ty.int (0 : Int)) rfl (fun A B E G H => rP (y_move rfl)) (gE ok6 fun a19 s17 ok18 D11 => ?_))))))); have o105 := OwnP.k0 o31 D11.stp; have o106 := ChnU.k0 o32 D11.stp; have o107 := Own.k0 o33 D11.stp; have o108 := OwnP.k0 o34 D11.stp; have o109 := ChnU.k0 o35 D11.stp; have o110 := Own.k0 o36 D11.stp; refine tn (wp_block ?_)
    refine loop (fun n3 a20 w3 => ∃ (t4 : GW) (j : Nat), t4.w = w3 ∧ FromL [41, 42, 43, 44, 45, 46] σ t4 ∧ Ok 76 [] a20 ∧ At (Ty.nat j) t4 a20 (.tmp 48) ∧ At (Ty.val hv) t4 a20 (.tmp 1) ∧ At (Ty.val gs) t4 a20 (.tmp 46) ∧ At (Ty.nat (List.length gens)) t4 a20 (.tmp 47) ∧ OwnP t4 41 gv [(Ty.nat n), (Ty.val gs), (Ty.val cs)] ∧ ChnU t4 42 22 108 cs n c us ∧ Own t4 43 22 1 gs (List.length gens) (List.map Ty.ints gens) ∧ OwnP t4 44 hv [(Ty.nat m), (Ty.val gs2), (Ty.val ds)] ∧ ChnU t4 45 22 108 ds m d vs ∧ Own t4 46 22 1 gs2 (List.length hg) (List.map Ty.ints hg) ∧ (j ≤ gens.length) ∧ (∀ a, a < j → ∀ b, b < hg.length → hasB m d (conjL (gens.getD a []) (hg.getD b [])) = true) ∧ n3 = gens.length - j) (gens.length - (0)) ?_ ?_
    ·
     exact ⟨s17, 0, rfl, (F6.step0 D11.stp), ok18, (cvi (by (first | rfl | omega | (simp_all; done) | (simp_all; omega))) (D11.dn 5 rfl rfl)), (D11.kt q20 rfl), (D11.dn 3 rfl rfl), (D11.dn 4 rfl rfl), o105, o106, o107, o108, o109, o110, by omega, fun j hj => absurd hj (Nat.not_lt_zero j), rfl⟩
    ·
     rintro n4 a21 w4 ⟨t5, j, rfl, F19, ok19, q94, q95, q96, q97, o111, o112, o113, o114, o115, o116, hj, hB, rfl⟩
     refine wp_seq ?_
     refine gI a21 t5 ok19 (gS rfl (fun A B E G H => rP (y_lss (kp (H 48 rfl) E q94) (kp (H 47 rfl) E q97))) (gE ok19 fun a22 s18 ok20 D12 => ?_)); have F20 := F19.step0 D12.stp; have q98 := D12.kt q94 rfl; have q100 := D12.kt q96 rfl; have o117 := OwnP.k0 o111 D12.stp; have o118 := ChnU.k0 o112 D12.stp; have o119 := Own.k0 o113 D12.stp; have o120 := OwnP.k0 o114 D12.stp; have o121 := ChnU.k0 o115 D12.stp; have o122 := Own.k0 o116 D12.stp; refine tn (wp_seq ?_)
     refine cond_p (p := (((j : Nat) : Int) < (((List.length gens) : Nat) : Int))) (D12.dn 0 rfl rfl) (fun c4 => ?_) (fun c4 => ?_)
     ·
      refine wp_skip (tn (wp_seq (wp_block (wp_seq ?_))))
      refine gI a22 s18 ok20 (gT (Ty.val (cellPtr gs j)) rfl (fun A B E G H => rP (own_index1 (i := ((j : Nat) : Int)) Try.underlying24 Try.inf22 (Own.k0 o119 E) (kp (H 46 rfl) E q100) (kp (H 48 rfl) E q98) (by omega) (by omega))) (gS rfl (fun A B E G H d0 => rP (own_load Try.underlying22 rfl (Own.k0 o119 E) (ed d0 rfl rfl rfl) (lst_get Ty.ints gens [] j (by omega)))) (gB 0 (gE ok20 fun a23 s19 ok21 D13 => ?_)))); have q104 := D13.kt (D12.kt q95 rfl) rfl; have o123 := OwnP.k0 o117 D13.stp; have o124 := ChnU.k0 o118 D13.stp; have o125 := Own.k0 o119 D13.stp; have o126 := OwnP.k0 o120 D13.stp; have o127 := ChnU.k0 o121 D13.stp; have o128 := Own.k0 o122 D13.stp; refine tn (wp_seq ?_)
      refine gI a23 s19 ok21 (gM q104 (gT (Ty.val hv) rfl (fun A B E G H d0 => rP (y_nilp (OwnP.k0 o126 E) (ed d0 rfl rfl rfl))) (gT (Ty.val (ptrAt hv 1)) rfl (fun A B E G H d0 => rP (ownp_field Try.fld95_1 Try.inf24 (by decide) (OwnP.k0 o126 E) (ed d0 rfl rfl rfl))) (gS rfl (fun A B E G H d0 => rP (ownp_load Try.underlying24 rfl (OwnP.k0 o126 E) (ed d0 rfl rfl rfl) rfl)) (gT (Ty.nat (List.length hg)) rfl (fun A B E G H d0 => rP (own_len Try.underlying24 (al (R := (Pr.own 46 22 1 (List.length hg) (List.map Ty.ints hg))) (ed d0 rfl rfl rfl) (Own.k0 o128 E)))) (gT (Ty.int (0 : Int)) rfl (fun A B E G H => rP (y_move rfl)) (gE ok21 fun a24 s20 ok22 D14 => ?_))))))); have o129 := OwnP.k0 o123 D14.stp; have o130 := ChnU.k0 o124 D14.stp; have o131 := Own.k0 o125 D14.stp; have o132 := OwnP.k0 o126 D14.stp; have o133 := ChnU.k0 o127 D14.stp; have o134 := Own.k0 o128 D14.stp; refine tn (wp_block ?_)
      refine loop (fun n5 a25 w5 => ∃ (t6 : GW) (b : Nat), t6.w = w5 ∧ FromL [41, 42, 43, 44, 45, 46] σ t6 ∧ Ok 76 [] a25 ∧ At (Ty.nat b) t6 a25 (.tmp 57) ∧ At (Ty.nat j) t6 a25 (.tmp 48) ∧ At (Ty.val hv) t6 a25 (.tmp 1) ∧ At (Ty.val gs) t6 a25 (.tmp 46) ∧ At (Ty.nat (List.length gens)) t6 a25 (.tmp 47) ∧ At (Ty.lst Ty.int (gens.getD j [])) t6 a25 (.tmp 11) ∧ At (Ty.val gs2) t6 a25 (.tmp 55) ∧ At (Ty.nat (List.length hg)) t6 a25 (.tmp 56) ∧ OwnP t6 41 gv [(Ty.nat n), (Ty.val gs), (Ty.val cs)] ∧ ChnU t6 42 22 108 cs n c us ∧ Own t6 43 22 1 gs (List.length gens) (List.map Ty.ints gens) ∧ OwnP t6 44 hv [(Ty.nat m), (Ty.val gs2), (Ty.val ds)] ∧ ChnU t6 45 22 108 ds m d vs ∧ Own t6 46 22 1 gs2 (List.length hg) (List.map Ty.ints hg) ∧ (b ≤ hg.length) ∧ (∀ a, a < b → hasB m d (conjL (gens.getD j []) (hg.getD a [])) = true) ∧ n5 = hg.length - b) (hg.length - (0)) ?_ ?_
      ·
       exact ⟨s20, 0, rfl, ((F20.step0 D13.stp).step0 D14.stp), ok22, (cvi (by (first | rfl | omega | (simp_all; done) | (simp_all; omega))) (D14.dn 5 rfl rfl)), (D14.kt (D13.kt q98 rfl) rfl), (D14.kt q104 rfl), (D14.kt (D13.kt q100 rfl) rfl), (D14.kt (D13.kt (D12.kt q97 rfl) rfl) rfl), (D14.kt (D13.dn 2 rfl rfl) rfl), (D14.dn 3 rfl rfl), (D14.dn 4 rfl rfl), o129, o130, o131, o132, o133, o134, by omega, fun j hj => absurd hj (Nat.not_lt_zero j), rfl⟩
      ·
       rintro n6 a26 w6 ⟨t7, b, rfl, F23, ok23, q116, q117, q118, q119, q120, q121, q122, q123, o135, o136, o137, o138, o139, o140, hb, hD, rfl⟩
       refine wp_seq ?_
       refine gI a26 t7 ok23 (gS rfl (fun A B E G H => rP (y_lss (kp (H 57 rfl) E q116) (kp (H 56 rfl) E q123))) (gE ok23 fun a27 s21 ok24 D15 => ?_)); have F24 := F23.step0 D15.stp; have q124 := D15.kt q116 rfl; have q125 := D15.kt q117 rfl; have q126 := D15.kt q118 rfl; have q127 := D15.kt q119 rfl; have q128 := D15.kt q120 rfl; have q130 := D15.kt q122 rfl; have o141 := OwnP.k0 o135 D15.stp; have o142 := ChnU.k0 o136 D15.stp; have o143 := Own.k0 o137 D15.stp; have o144 := OwnP.k0 o138 D15.stp; have o145 := ChnU.k0 o139 D15.stp; have o146 := Own.k0 o140 D15.stp; refine tn (wp_seq ?_)
       refine cond_p (p := (((b : Nat) : Int) < (((List.length hg) : Nat) : Int))) (D15.dn 0 rfl rfl) (fun c5 => ?_) (fun c5 => ?_)
       ·
        have hxr := hG _ (mem_atD [] (show j < gens.length by omega)); have hyr := hH _ (mem_atD [] (show b < hg.length by omega)); rw [← hnm] at hyr; obtain ⟨hf1, hf2, hf3, hf4, hf5, hf6, hf7⟩ := conj_fit hxr hyr
        refine wp_skip (tn (wp_seq (wp_block (wp_seq ?_))))
        refine gI a27 s21 ok24 (gT (Ty.val (cellPtr gs2 b)) rfl (fun A B E G H => rP (own_index1 (i := ((b : Nat) : Int)) Try.underlying24 Try.inf22 (Own.k0 o146 E) (kp (H 55 rfl) E q130) (kp (H 57 rfl) E q124) (by omega) (by omega))) (gS rfl (fun A B E G H d0 => rP (own_load Try.underlying22 rfl (Own.k0 o146 E) (ed d0 rfl rfl rfl) (lst_get Ty.ints hg [] b (by omega)))) (gB 0 (gE ok24 fun a28 s22 ok25 D16 => ?_)))); have q135 := D16.kt q126 rfl; have q138 := D16.kt (D15.kt q121 rfl) rfl; have o147 := OwnP.k0 o141 D16.stp; have o148 := ChnU.k0 o142 D16.stp; have o149 := Own.k0 o143 D16.stp; have o150 := OwnP.k0 o144 D16.stp; have o151 := ChnU.k0 o145 D16.stp; have o152 := Own.k0 o146 D16.stp; refine tn (wp_seq ?_)
        refine gI a28 s22 ok25 (gM q135 (gM q138 (gM (D16.dn 2 rfl rfl) (gM q138 (gS rfl (fun A B E G H d0 => rP (y_call _ Try.func65 rfl rfl my1 (inverse_fn ((gens.getD j [])) _ _ (ed d0 rfl rfl rfl) (by assumption)))) (gS rfl (fun A B E G H d0 d1 d2 => rP (y_call _ Try.func64 rfl rfl my2 (product_fn ((hg.getD b [])) ((undoL ((gens.getD j [])))) _ _ _ (ed d0 rfl rfl rfl) (ed d1 rfl rfl rfl) (by first | assumption | omega) (by first | assumption | omega) (by first | assumption | omega)))) (gS rfl (fun A B E G H d0 d1 d2 => rP (y_call _ Try.func64 rfl rfl my2 (product_fn ((gens.getD j [])) ((byL ((hg.getD b [])) ((undoL ((gens.getD j [])))))) _ _ _ (ed d0 rfl rfl rfl) (ed d1 rfl rfl rfl) (by first | assumption | omega) (by first | assumption | omega) (by first | assumption | omega)))) (gE2 ok25 fun a29 s23 ok26 D17 => ?_)))))))); have o153 := OwnP.k0 o147 D17.stp; have o154 := ChnU.k0 o148 D17.stp; have o155 := Own.k0 o149 D17.stp; have o156 := OwnP.k0 o150 D17.stp; have o157 := ChnU.k0 o151 D17.stp; have o158 := Own.k0 o152 D17.stp; have q151 := D17.dn 6 (by decide) rfl rfl
        have b1 := sl_le q151
        refine tL ok26 (y_callL (L := [41, 42]) [(44, 41), (45, 42)] [(41, 44), (42, 45)] #[a29.eval (.tmp 62), a29.eval (.tmp 68)] rfl (by decide) Try.func46 rfl rfl my2 (gHas_fn (hv) (gs2) (ds) (vs) (m) (d) ((byL ((gens.getD j [])) ((byL ((hg.getD b [])) ((undoL ((gens.getD j [])))))))) _ (GW.low_lend _ (by decide)) _ _ (Ty.up _ (GW.le_lend _ _) (D17.dn 0 (by decide) rfl rfl)) (Ty.up _ (GW.le_lend _ _) q151) (OwnP.ren (ownp_cell 0 (Ty.nat (m)) o156 rfl (fun _ _ h => (cvi (by (first | rfl | omega | (simp_all; done) | (simp_all; omega))) h))) (GW.ren_lend _ _ (by decide) rfl)) (ChnU.ren (cvch (by (rfl)) o157) (GW.ren_lend _ _ (by decide) rfl)) (by first | omega | assumption))) fun a30 s24 hs7 ok27 r7 sm7 => ?_
        have F27 := ((F24.step0 D16.stp).step0 D17.stp).stepL hs7 (by decide); have q152 := kpL hs7 (by decide) (sm7 57 (by decide)) (D17.kt (D16.kt q124 rfl) rfl); have q153 := kpL hs7 (by decide) (sm7 48 (by decide)) (D17.kt (D16.kt q125 rfl) rfl); have q154 := kpL hs7 (by decide) (sm7 1 (by decide)) (D17.kt q135 rfl); have q155 := kpL hs7 (by decide) (sm7 46 (by decide)) (D17.kt (D16.kt q127 rfl) rfl); have q156 := kpL hs7 (by decide) (sm7 47 (by decide)) (D17.kt (D16.kt q128 rfl) rfl); have q157 := kpL hs7 (by decide) (sm7 11 (by decide)) (D17.kt q138 rfl); have q158 := kpL hs7 (by decide) (sm7 55 (by decide)) (D17.kt (D16.kt q130 rfl) rfl); have q159 := kpL hs7 (by decide) (sm7 56 (by decide)) (D17.kt (D16.kt (D15.kt q123 rfl) rfl) rfl); have o163 := OwnP.keepL o153 hs7 (by decide) (by decide); have o164 := ChnU.keepL o154 hs7 (by decide) (by decide); have o165 := Own.keepL o155 hs7 (by decide) (by decide); have o166 := Own.keepL o158 hs7 (by decide) (by decide)
        obtain ⟨t8, ⟨hT2, o159, o160⟩, B2⟩ := r7
        have q160 : At (Ty.tup2 (Ty.bool (hasB (m) (d) ((byL ((gens.getD j [])) ((byL ((hg.getD b [])) ((undoL ((gens.getD j [])))))))))) (Ty.int (fitsE (m) ((byL ((gens.getD j [])) ((byL ((hg.getD b [])) ((undoL ((gens.getD j []))))))))))) s24 a30 (.tmp 69) := Ty.up _ B2.le hT2
        have o161 : OwnP s24 44 hv [(Ty.nat (m)), (Ty.val gs2), (Ty.val ds)] := OwnP.ren o159 (B2.ren (by decide) rfl)
        have o162 : ChnU s24 45 22 108 ds (m) (d) (vs) := ChnU.ren o160 (B2.ren (by decide) rfl)
        refine tL ok27 (Yld.toL (y_mv q160)) fun a31 s25 hs8 ok28 r8 sm8 => ?_
        have F28 := F27.stepL hs8 (by decide); have q161 := kpL hs8 (by decide) (sm8 57 (by decide)) q152; have q162 := kpL hs8 (by decide) (sm8 48 (by decide)) q153; have q163 := kpL hs8 (by decide) (sm8 1 (by decide)) q154; have q164 := kpL hs8 (by decide) (sm8 46 (by decide)) q155; have q165 := kpL hs8 (by decide) (sm8 47 (by decide)) q156; have q166 := kpL hs8 (by decide) (sm8 11 (by decide)) q157; have q167 := kpL hs8 (by decide) (sm8 55 (by decide)) q158; have q168 := kpL hs8 (by decide) (sm8 56 (by decide)) q159; have o167 := OwnP.keepL o163 hs8 (by decide) (by decide); have o168 := ChnU.keepL o164 hs8 (by decide) (by decide); have o169 := Own.keepL o165 hs8 (by decide) (by decide); have o170 := Own.keepL o166 hs8 (by decide) (by decide); have o171 := OwnP.keepL o161 hs8 (by decide) (by decide); have o172 := ChnU.keepL o162 hs8 (by decide) (by decide)
        have q169 : At (Ty.tup2 (Ty.bool (hasB (m) (d) ((byL ((gens.getD j [])) ((byL ((hg.getD b [])) ((undoL ((gens.getD j [])))))))))) (Ty.int (fitsE (m) ((byL ((gens.getD j [])) ((byL ((hg.getD b [])) ((undoL ((gens.getD j []))))))))))) s25 a31 (.tmp 61) := r8
        clear r8
        refine tL (R := (fun v τ => Pr.has (Ty.pr (Ty.bool (hasB (m) (d) ((byL ((gens.getD j [])) ((byL ((hg.getD b [])) ((undoL ((gens.getD j []))))))))))) τ v)) ok28 (Yld.toL (y_ext2_0 q169)) fun a32 s26 hs9 ok29 r9 sm9 => ?_
        have F29 := F28.stepL hs9 (by decide); have q170 := kpL hs9 (by decide) (sm9 57 (by decide)) q161; have q171 := kpL hs9 (by decide) (sm9 48 (by decide)) q162; have q172 := kpL hs9 (by decide) (sm9 1 (by decide)) q163; have q173 := kpL hs9 (by decide) (sm9 46 (by decide)) q164; have q174 := kpL hs9 (by decide) (sm9 47 (by decide)) q165; have q175 := kpL hs9 (by decide) (sm9 11 (by decide)) q166; have q176 := kpL hs9 (by decide) (sm9 55 (by decide)) q167; have q177 := kpL hs9 (by decide) (sm9 56 (by decide)) q168; have q178 := kpL hs9 (by decide) (sm9 61 (by decide)) q169; have o173 := OwnP.keepL o167 hs9 (by decide) (by decide); have o174 := ChnU.keepL o168 hs9 (by decide) (by decide); have o175 := Own.keepL o169 hs9 (by decide) (by decide); have o176 := Own.keepL o170 hs9 (by decide) (by decide); have o177 := OwnP.keepL o171 hs9 (by decide) (by decide)
        have o178 := ChnU.keepL o172 hs9 (by decide) (by decide)
        have q179 : At (Ty.bool (hasB (m) (d) ((byL ((gens.getD j [])) ((byL ((hg.getD b [])) ((undoL ((gens.getD j [])))))))))) s26 a32 (.tmp 70) := r9
        clear r9
        refine tL (R := (fun v τ => Pr.has (Ty.pr (Ty.int (fitsE (m) ((byL ((gens.getD j [])) ((byL ((hg.getD b [])) ((undoL ((gens.getD j []))))))))))) τ v)) ok29 (Yld.toL (y_ext2_1 q178)) fun a33 s27 hs10 ok30 r10 sm10 => ?_
        have F30 := F29.stepL hs10 (by decide); have q180 := kpL hs10 (by decide) (sm10 57 (by decide)) q170; have q181 := kpL hs10 (by decide) (sm10 48 (by decide)) q171; have q182 := kpL hs10 (by decide) (sm10 1 (by decide)) q172; have q183 := kpL hs10 (by decide) (sm10 46 (by decide)) q173; have q184 := kpL hs10 (by decide) (sm10 47 (by decide)) q174; have q185 := kpL hs10 (by decide) (sm10 11 (by decide)) q175; have q186 := kpL hs10 (by decide) (sm10 55 (by decide)) q176; have q187 := kpL hs10 (by decide) (sm10 56 (by decide)) q177; have q188 := kpL hs10 (by decide) (sm10 70 (by decide)) q179; have o179 := OwnP.keepL o173 hs10 (by decide) (by decide); have o180 := ChnU.keepL o174 hs10 (by decide) (by decide); have o181 := Own.keepL o175 hs10 (by decide) (by decide); have o182 := Own.keepL o176 hs10 (by decide) (by decide); have o183 := OwnP.keepL o177 hs10 (by decide) (by decide)
        have o184 := ChnU.keepL o178 hs10 (by decide) (by decide)
        have q189 : At (Ty.int (fitsE (m) ((byL ((gens.getD j [])) ((byL ((hg.getD b [])) ((undoL ((gens.getD j [])))))))))) s27 a33 (.tmp 71) := r10
        clear r10
        refine tL ok30 (Yld.toL (y_as q188)) fun a34 s28 hs11 ok31 r11 sm11 => ?_
        have F31 := F30.stepL hs11 (by decide); have q190 := kpL hs11 (by decide) (sm11 57 (by decide)) q180; have q191 := kpL hs11 (by decide) (sm11 48 (by decide)) q181; have q192 := kpL hs11 (by decide) (sm11 1 (by decide)) q182; have q193 := kpL hs11 (by decide) (sm11 46 (by decide)) q183; have q194 := kpL hs11 (by decide) (sm11 47 (by decide)) q184; have q195 := kpL hs11 (by decide) (sm11 11 (by decide)) q185; have q196 := kpL hs11 (by decide) (sm11 55 (by decide)) q186; have q197 := kpL hs11 (by decide) (sm11 56 (by decide)) q187; have q198 := kpL hs11 (by decide) (sm11 71 (by decide)) q189; have o185 := OwnP.keepL o179 hs11 (by decide) (by decide); have o186 := ChnU.keepL o180 hs11 (by decide) (by decide); have o187 := Own.keepL o181 hs11 (by decide) (by decide); have o188 := Own.keepL o182 hs11 (by decide) (by decide); have o189 := OwnP.keepL o183 hs11 (by decide) (by decide)
        have o190 := ChnU.keepL o184 hs11 (by decide) (by decide)
        have q199 : At (Ty.bool (hasB (m) (d) ((byL ((gens.getD j [])) ((byL ((hg.getD b [])) ((undoL ((gens.getD j [])))))))))) s28 a34 (.tmp 14) := r11
        clear r11
        refine tL ok31 (Yld.toL (y_as q198)) fun a35 s29 hs12 ok32 r12 sm12 => ?_
        have F32 := F31.stepL hs12 (by decide); have q200 := kpL hs12 (by decide) (sm12 57 (by decide)) q190; have q201 := kpL hs12 (by decide) (sm12 48 (by decide)) q191; have q202 := kpL hs12 (by decide) (sm12 1 (by decide)) q192; have q203 := kpL hs12 (by decide) (sm12 46 (by decide)) q193; have q204 := kpL hs12 (by decide) (sm12 47 (by decide)) q194; have q205 := kpL hs12 (by decide) (sm12 11 (by decide)) q195; have q206 := kpL hs12 (by decide) (sm12 55 (by decide)) q196; have q207 := kpL hs12 (by decide) (sm12 56 (by decide)) q197; have q208 := kpL hs12 (by decide) (sm12 14 (by decide)) q199; have o191 := OwnP.keepL o185 hs12 (by decide) (by decide); have o192 := ChnU.keepL o186 hs12 (by decide) (by decide); have o193 := Own.keepL o187 hs12 (by decide) (by decide); have o194 := Own.keepL o188 hs12 (by decide) (by decide); have o195 := OwnP.keepL o189 hs12 (by decide) (by decide)
        have o196 := ChnU.keepL o190 hs12 (by decide) (by decide)
        have q209 : At (Ty.int (fitsE (m) ((byL ((gens.getD j [])) ((byL ((hg.getD b [])) ((undoL ((gens.getD j [])))))))))) s29 a35 (.tmp 15) := r12
        clear r12; refine wpList_nil (tn (wp_seq ?_))
        refine gI a35 s29 ok32 (gM q208 (gS rfl (fun A B E G H d0 => rP (y_not (ed d0 rfl rfl rfl))) (gE ok32 fun a36 s30 ok33 D18 => ?_))); have F33 := F32.step0 D18.stp; have o197 := OwnP.k0 o191 D18.stp; have o198 := ChnU.k0 o192 D18.stp; have o199 := Own.k0 o193 D18.stp; have o200 := Own.k0 o194 D18.stp; have o201 := OwnP.k0 o195 D18.stp; have o202 := ChnU.k0 o196 D18.stp; refine tn ?_
        refine cond_t (D18.dn 1 rfl rfl) (fun c6 => ?_) (fun c6 => ?_)
        ·
         have hb : hasB m d (conjL (gens.getD j []) (hg.getD b [])) = false := (by cases h_ : hasB m d (conjL (gens.getD j []) (hg.getD b [])) <;> simp_all [conjL]); have hN := normB_no hE (show j < gens.length by omega) (show b < hg.length by omega) hb
         refine wp_seq ?_
         refine gI a36 s30 ok33 (gC (Ty.bool false) (gC (Ty.int (0 : Int)) (gE ok33 fun a37 s31 ok34 D19 => ?_))); have o203 := OwnP.k0 o197 D19.stp; have o204 := ChnU.k0 o198 D19.stp; have o205 := Own.k0 o199 D19.stp; have o206 := Own.k0 o200 D19.stp; have o207 := OwnP.k0 o201 D19.stp; have o208 := ChnU.k0 o202 D19.stp; refine tn (wp_ret (br (tr (tr (br (br (tr (tr (br (tr ?_))))))))))
         exact retL2 rfl ok34 (F33.step0 D19.stp) ⟨(hasT2 (cvb (by (rw [hN])) (D19.dn 0 rfl rfl)) (cvi (by (rw [hE])) (D19.dn 1 rfl rfl))), o203, o204, o205, (ownp_cell 0 (Ty.nat m) o207 rfl (fun _ _ h => (cvi (by (first | rfl | omega | (simp_all; done) | (simp_all; omega))) h))), (cvch (by (rfl)) o208), o206⟩
        ·
         have hb : hasB m d (conjL (gens.getD j []) (hg.getD b [])) = true := (by cases h_ : hasB m d (conjL (gens.getD j []) (hg.getD b [])) <;> simp_all [conjL])
         refine wp_skip (bn (tn ?_))
         refine gI a36 s30 ok33 (gT (Ty.nat (b + 1)) rfl (fun A B E G H => rP ((y_add (kp (H 57 rfl) E (D18.kt q200 rfl)) rfl (w64 (by omega) (by omega))).mono (fun τ _ h => cvi (σ := τ) (by first | omega | exact (Int.natCast_mul _ _).symm) h))) (gS rfl (fun A B E G H d0 => rP (y_move (ed d0 rfl rfl rfl))) (gE ok33 fun a38 s32 ok35 D20 => ?_))); have o209 := OwnP.k0 o197 D20.stp; have o210 := ChnU.k0 o198 D20.stp; have o211 := Own.k0 o199 D20.stp; have o212 := Own.k0 o200 D20.stp; have o213 := OwnP.k0 o201 D20.stp; have o214 := ChnU.k0 o202 D20.stp
         exact tn ⟨hg.length - ((b+1)), by omega, s32, (b+1), rfl, (F33.step0 D20.stp), ok35, (cvi (by (first | rfl | omega | (simp_all; done) | (simp_all; omega))) (D20.dn 1 rfl rfl)), (D20.kt (D18.kt q201 rfl) rfl), (D20.kt (D18.kt q202 rfl) rfl), (D20.kt (D18.kt q203 rfl) rfl), (D20.kt (D18.kt q204 rfl) rfl), (D20.kt (D18.kt q205 rfl) rfl), (D20.kt (D18.kt q206 rfl) rfl), (D20.kt (D18.kt q207 rfl) rfl), o209, o210, o211, o213, o214, o212, by omega, fun a ha => by (by_cases e : a = b; (subst e; exact hb); exact hD a (by omega)), rfl⟩
       ·
        refine wp_exit (tx (tx (bx (bn (tn ?_)))))
        refine gI a27 s21 ok24 (gT (Ty.nat (j + 1)) rfl (fun A B E G H => rP ((y_add (kp (H 48 rfl) E q125) rfl (w64 (by omega) (by omega))).mono (fun τ _ h => cvi (σ := τ) (by first | omega | exact (Int.natCast_mul _ _).symm) h))) (gS rfl (fun A B E G H d0 => rP (y_move (ed d0 rfl rfl rfl))) (gE ok24 fun a39 s33 ok36 D21 => ?_))); have o215 := OwnP.k0 o141 D21.stp; have o216 := ChnU.k0 o142 D21.stp; have o217 := Own.k0 o143 D21.stp; have o218 := OwnP.k0 o144 D21.stp; have o219 := ChnU.k0 o145 D21.stp; have o220 := Own.k0 o146 D21.stp
        exact tn ⟨gens.length - ((j+1)), by omega, s33, (j+1), rfl, (F24.step0 D21.stp), ok36, (cvi (by (first | rfl | omega | (simp_all; done) | (simp_all; omega))) (D21.dn 1 rfl rfl)), (D21.kt q126 rfl), (D21.kt q127 rfl), (D21.kt q128 rfl), o215, o216, o217, o218, o219, o220, by omega, fun a ha b2 hb2 => by (by_cases e : a = j; (subst e; exact hD b2 (by omega)); exact hB a (by omega) b2 hb2), rfl⟩
     ·
      have hN := normB_yes (d := d) (gens := gens) hE (fun a ha => hB a (by omega))
      refine wp_exit (tx (tx (bx (tn (wp_seq ?_)))))
      refine gI a22 s18 ok20 (gC (Ty.bool true) (gC (Ty.int (0 : Int)) (gE ok20 fun a40 s34 ok37 D22 => ?_))); have o221 := OwnP.k0 o117 D22.stp; have o222 := ChnU.k0 o118 D22.stp; have o223 := Own.k0 o119 D22.stp; have o224 := OwnP.k0 o120 D22.stp; have o225 := ChnU.k0 o121 D22.stp; have o226 := Own.k0 o122 D22.stp; refine tn (wp_ret ?_)
      exact retL2 rfl ok37 (F20.step0 D22.stp) ⟨(hasT2 (cvb (by (rw [hN])) (D22.dn 0 rfl rfl)) (cvi (by (rw [hE])) (D22.dn 1 rfl rfl))), o221, o222, o223, o224, o225, o226⟩


set_option maxRecDepth 100000 in
theorem rUndo_fn (r : List Int) (σ : GW) (v0 : Value) (hv0 : Ty.has (Ty.lst Ty.int r) σ v0) (hr : IsRow r) :
    FnC Try.prog 23 #[v0] σ (Ty.lst Ty.int (undoL r)) := by
 have hln := hr.le
 refine fn_intro Try.func23 rfl Try.ntmps23 (Nat.le_of_ble_eq_true rfl) (fun s0 a0 hle F0 ok0 hargs => ?_)
 have p0 := pA hle (hargs 0 _ rfl) hv0
 have b1 := sl_le p0
 clear hargs; refine wp_seq ?_
 refine gI a0 s0 ok0 (gC (Ty.val (Value.slice none 0 0)) (gE ok0 fun a1 s1 ok1 D1 => ?_)); have q1 := D1.kt p0 rfl; refine tn (wp_seq ?_)
 refine gI a1 s1 ok1 (gM q1 (gS rfl (fun A B E G H d0 => rP (y_len Try.underlying22 (ed d0 rfl rfl rfl))) (gR (Pr.own 11 3 1 (List.length r) (List.map Ty.int (List.replicate (List.length r) 0))) rfl (by intro A B E G H d0 d1; have e1 := ed d0 rfl rfl rfl; exact rP ((y_make (k := 11) (T := Ty.int 0) (n := (List.length r)) Try.underlying22 Try.inf3 rfl (fun _ => rfl) e1 e1 (by omega) (by omega)).mono (fun _ _ h => cvo (by simp) (by simp) h))) (gR (Pr.own 11 3 1 (List.length r) (List.map Ty.int (List.replicate (List.length r) 0))) rfl (by intro A B E G H d0 d1 d2 d3; have e2 : (Pr.own 11 3 1 (List.length r) (List.map Ty.int (List.replicate (List.length r) 0))).has B (A.eval (.tmp 7)) := d0 rfl; exact rP (y_assign e2)) (gE ok1 fun a2 s2 ok2 D2 => ?_)))))
 have q3 : (Pr.own 11 3 1 (List.length r) (List.map Ty.int (List.replicate (List.length r) 0))).has s2 (a2.eval (.tmp 3)) := D2.done 3
 refine tn (wp_seq (wp_seq ?_))
 refine gI a2 s2 ok2 (gC (Ty.int (0 : Int)) (gE ok2 fun a3 s3 ok3 D3 => ?_))
 have q5 : (Pr.own 11 3 1 (List.length r) (List.map Ty.int (List.replicate (List.length r) 0))).has s3 (a3.eval (.tmp 3)) := D3.ko q3 rfl
 refine tn (wp_block ?_)
 refine loop (fun n1 a4 w1 => ∃ (t1 : GW) (k : Nat), t1.w = w1 ∧ From s0 t1 ∧ Ok 22 [] a4 ∧ (Pr.own 11 3 1 (List.length (undoTo r k)) (List.map Ty.int (undoTo r k))).has t1 (a4.eval (.tmp 3)) ∧ At (Ty.nat k) t1 a4 (.tmp 4) ∧ At (Ty.lst Ty.int r) t1 a4 (.tmp 0) ∧ (k ≤ r.length) ∧ n1 = r.length - k) (r.length - (0)) ?_ ?_
 ·
  exact ⟨s3, 0, rfl, (((F0.step0 D1.stp).step0 D2.stp).step0 D3.stp), ok3, (cvo (by (simp [undoTo_zero])) (by (simp [undoTo_zero])) q5), (cvi (by (first | rfl | omega | (simp_all; done) | (simp_all; omega))) (D3.dn 0 rfl rfl)), (D3.kt (D2.kt q1 rfl) rfl), by omega, rfl⟩
 ·
  rintro n2 a5 w2 ⟨t2, k, rfl, F4, ok4, q7, q8, q9, hk, rfl⟩
  have hp := undoTo_len r k
  refine wp_seq (wp_seq ?_)
  refine gI a5 t2 ok4 (gM q8 (gM q9 (gS rfl (fun A B E G H d0 => rP (y_len Try.underlying22 (ed d0 rfl rfl rfl))) (gS rfl (fun A B E G H d0 d1 => rP (y_lss (ed d0 rfl rfl rfl) (ed d1 rfl rfl rfl))) (gE ok4 fun a6 s4 ok5 D4 => ?_))))); have F5 := F4.step0 D4.stp
  have q10 : (Pr.own 11 3 1 (List.length (undoTo r k)) (List.map Ty.int (undoTo r k))).has s4 (a6.eval (.tmp 3)) := D4.ko q7 rfl
  have q11 := D4.kt q8 rfl; have q12 := D4.kt q9 rfl; refine tn ?_
  refine cond_p (p := (((k : Nat) : Int) < (((List.length r) : Nat) : Int))) (D4.dn 3 rfl rfl) (fun c1 => ?_) (fun c1 => ?_)
  ·
   have hq := hr.at (i := k) (by omega)
   refine wp_skip (tn (wp_seq (wp_block ?_)))
   refine gI a6 s4 ok5 (gT (Ty.val (a6.eval (.tmp 3))) rfl (fun A B E G H => rP (y_move (H 3 rfl))) (gM q12 (gM q11 (gT (Ty.ref [(Ty.int (r.getD k 0))]) rfl (fun A B E G H d0 d1 => rP (y_index1 Try.underlying22 Try.inf3 (ed d0 rfl rfl rfl) (ed d1 rfl rfl rfl) (by omega) (lst_get Ty.int r 0 k (by omega)))) (gS rfl (fun A B E G H d0 => rP (y_load Try.underlying3 rfl (ed d0 rfl rfl rfl) rfl)) (gM q11 (gT (Ty.val (cellPtr (a6.eval (.tmp 3)) ((r.getD k 0)).toNat)) rfl (fun A B E G H d0 d1 d2 d3 d4 d5 d6 d7 => rP (own_index1 (i := (r.getD k 0)) Try.underlying22 Try.inf3 ((Pr.own 11 3 1 (List.length (undoTo r k)) (List.map Ty.int (undoTo r k))).up E q10) (ed d0 rfl rfl rfl) (ed d1 rfl rfl rfl) (by omega) (by omega))) (gE2 ok5 fun a7 s5 ok6 D5 => ?_)))))))); have q14 := (Pr.own 11 3 1 (List.length (undoTo r k)) (List.map Ty.int (undoTo r k))).up D5.stp q10
   have q15 : a7.eval (.tmp 3) = a6.eval (.tmp 3) := D5.same 3 rfl
   have q18 := D5.dn 5 (by decide) rfl rfl
   refine tail_step0 (m := 11) (R := (fun _ τ => Own τ 11 3 1 (a6.eval (.tmp 3)) (List.length (undoTo r k)) ((List.map Ty.int (undoTo r k)).set ((r.getD k 0)).toNat (Ty.nat k)))) rfl rfl (m_store Try.inf3 (by decide) q14 (D5.dn 6 (by decide) rfl rfl) (by simp only [List.length_map, List.length_set]; omega) q18 (one_val rfl)) (fun v1 s6 hs1 r1 => ?_)
   have F7 := (F5.step0 D5.stp).step hs1 (by decide)
   have q20 : At (Ty.nat k) s6 a7 (.tmp 4) := kpm hs1 (by decide) rfl (D5.kt q11 rfl)
   have q21 : At (Ty.lst Ty.int r) s6 a7 (.tmp 0) := kpm hs1 (by decide) rfl (D5.kt q12 rfl)
   have q22 : At (Ty.nat k) s6 a7 (.tmp 19) := kpm hs1 (by decide) rfl q18
   have q23 : (Pr.own 11 3 1 (List.length ((undoTo r k).set ((r.getD k 0)).toNat ((k : Nat) : Int))) (List.map Ty.int ((undoTo r k).set ((r.getD k 0)).toNat ((k : Nat) : Int)))).has s6 (a6.eval (.tmp 3)) := (cvo (by simp) (by simp) r1)
   refine wpList_nil ?_
   have q24 : (Pr.own 11 3 1 (List.length ((undoTo r k).set ((r.getD k 0)).toNat ((k : Nat) : Int))) (List.map Ty.int ((undoTo r k).set ((r.getD k 0)).toNat ((k : Nat) : Int)))).has s6 (a7.eval (.tmp 3)) := al q15 q23
   refine bn (tn ?_)
   refine gI a7 s6 ok6 (gM q20 (gT (Ty.int (((k : Nat) : Int) + (1 : Int))) rfl (fun A B E G H d0 => rP (y_add (ed d0 rfl rfl rfl) rfl (w64 (by omega) (by omega)))) (gB 0 (gE ok6 fun a9 s7 ok8 D6 => ?_))))
   have q25 : (Pr.own 11 3 1 (List.length ((undoTo r k).set ((r.getD k 0)).toNat ((k : Nat) : Int))) (List.map Ty.int ((undoTo r k).set ((r.getD k 0)).toNat ((k : Nat) : Int)))).has s7 (a9.eval (.tmp 3)) := D6.ko q24 rfl
   exact tn ⟨r.length - ((k+1)), by omega, s7, (k+1), rfl, (F7.step0 D6.stp), ok8, (cvo (by (rw [undoTo_step r k hr (by omega)])) (by (rw [undoTo_step r k hr (by omega)])) q25), (cvi (by (first | rfl | omega | (simp_all; done) | (simp_all; omega))) (D6.dn 2 rfl rfl)), (D6.kt q21 rfl), by omega, rfl⟩
  ·
   refine wp_exit (tx (tx (bx (tn (wp_seq ?_)))))
   refine gI a6 s4 ok5 (gT (Ty.val (a6.eval (.tmp 3))) rfl (fun A B E G H => rP (y_move (H 3 rfl))) (gB 0 (gE ok5 fun a10 s8 ok9 D7 => ?_)))
   have q28 : (Pr.own 11 3 1 (List.length (undoTo r k)) (List.map Ty.int (undoTo r k))).has s8 (a10.eval (.tmp 2)) := al (show _ = _ from D7.done 1) ((Pr.own 11 3 1 (List.length (undoTo r k)) (List.map Ty.int (undoTo r k))).up D7.stp q10)
   refine tn (wp_ret ?_)
   obtain ⟨t3, e1, h1, q29⟩ := Own.seal q28 (by decide)
   rw [← e1]
   have F10 := (F5.step0 D7.stp).step h1 (by decide)
   exact ret1 rfl ok9 F10 (cvt (by (obtain rfl : k = r.length := (by omega); rw [undoTo_all r hr])) q29)


set_option maxRecDepth 100000 in
theorem rBy_fn (a : List Int) (b : List Int) (σ : GW) (v0 v1 : Value) (hv0 : Ty.has (Ty.lst Ty.int a) σ v0) (hv1 : Ty.has (Ty.lst Ty.int b) σ v1) (hbd : ∀ i, i < b.length → 0 ≤ b.getD i 0 ∧ b.getD i 0 < a.length) (E : b.length ≤ 1000000) :
    FnC Try.prog 22 #[v0, v1] σ (Ty.lst Ty.int (byL a b)) := by
 refine fn_intro Try.func22 rfl Try.ntmps22 (Nat.le_of_ble_eq_true rfl) (fun s0 a0 hle F0 ok0 hargs => ?_)
 have p0 := pA hle (hargs 0 _ rfl) hv0
 have b1 := sl_le p0
 have p1 := pA hle (hargs 1 _ rfl) hv1
 have b2 := sl_le p1
 clear hargs; refine wp_seq ?_
 refine gI a0 s0 ok0 (gC (Ty.val (Value.slice none 0 0)) (gE ok0 fun a1 s1 ok1 D1 => ?_)); refine tn (wp_seq ?_)
 refine gI a1 s1 ok1 (gC (Ty.val (Value.slice none 0 0)) (gE ok1 fun a2 s2 ok2 D2 => ?_)); refine tn (wp_seq (wp_seq ?_))
 refine gI a2 s2 ok2 (gC (Ty.int (0 : Int)) (gE ok2 fun a3 s3 ok3 D3 => ?_)); refine tn (wp_block ?_)
 refine loop (fun n1 a4 w1 => ∃ (t1 : GW) (k : Nat), t1.w = w1 ∧ From s0 t1 ∧ Ok 24 [] a4 ∧ (Pr.own 2 3 1 (List.length (byL a (b.take k))) (List.map Ty.int (byL a (b.take k)))).has t1 (a4.eval (.tmp 5)) ∧ At (Ty.nat k) t1 a4 (.tmp 6) ∧ At (Ty.lst Ty.int a) t1 a4 (.tmp 0) ∧ At (Ty.lst Ty.int b) t1 a4 (.tmp 1) ∧ (k ≤ b.length) ∧ n1 = b.length - k) (b.length - (0)) ?_ ?_
 ·
  exact ⟨s3, 0, rfl, (((F0.step0 D1.stp).step0 D2.stp).step0 D3.stp), ok3, (by have e : a3.eval (.tmp 5) = _ := (D3.kt (D2.dn 0 rfl rfl) rfl); rw [e]; exact Own.nil _ _ _ _), (cvi (by (first | rfl | omega | (simp_all; done) | (simp_all; omega))) (D3.dn 0 rfl rfl)), (D3.kt (D2.kt (D1.kt p0 rfl) rfl) rfl), (D3.kt (D2.kt (D1.kt p1 rfl) rfl) rfl), by omega, rfl⟩
 ·
  rintro n2 a5 w2 ⟨t2, k, rfl, F4, ok4, q10, q11, q12, q13, hk, rfl⟩
  have hp := byL_take_len a b k
  refine wp_seq (wp_seq ?_)
  refine gI a5 t2 ok4 (gM q11 (gM q13 (gS rfl (fun A B E G H d0 => rP (y_len Try.underlying22 (ed d0 rfl rfl rfl))) (gS rfl (fun A B E G H d0 d1 => rP (y_lss (ed d0 rfl rfl rfl) (ed d1 rfl rfl rfl))) (gE ok4 fun a6 s4 ok5 D4 => ?_))))); have F5 := F4.step0 D4.stp
  have q14 : (Pr.own 2 3 1 (List.length (byL a (b.take k))) (List.map Ty.int (byL a (b.take k)))).has s4 (a6.eval (.tmp 5)) := D4.ko q10 rfl
  have q15 := D4.kt q11 rfl; have q16 := D4.kt q12 rfl; have q17 := D4.kt q13 rfl; refine tn ?_
  refine cond_p (p := (((k : Nat) : Int) < (((List.length b) : Nat) : Int))) (D4.dn 3 rfl rfl) (fun c1 => ?_) (fun c1 => ?_)
  ·
   have hq := hbd k (by omega)
   refine wp_skip (tn (wp_seq (wp_block ?_)))
   refine gI a6 s4 ok5 (gT (Ty.val (a6.eval (.tmp 5))) rfl (fun A B E G H => rP (y_move (H 5 rfl))) (gM q16 (gM q17 (gM q15 (gT (Ty.ref [(Ty.int (b.getD k 0))]) rfl (fun A B E G H d0 d1 => rP (y_index1 Try.underlying22 Try.inf3 (ed d0 rfl rfl rfl) (ed d1 rfl rfl rfl) (by omega) (lst_get Ty.int b 0 k (by omega)))) (gS rfl (fun A B E G H d0 => rP (y_load Try.underlying3 rfl (ed d0 rfl rfl rfl) rfl)) (gT (Ty.ref [(Ty.int (a.getD ((b.getD k 0)).toNat 0))]) rfl (fun A B E G H d0 d1 => rP (y_index1 Try.underlying22 Try.inf3 (ed d0 rfl rfl rfl) (ed d1 rfl rfl rfl) (by omega) (lst_get Ty.int a 0 ((b.getD k 0)).toNat (by omega)))) (gS rfl (fun A B E G H d0 => rP (y_load Try.underlying3 rfl (ed d0 rfl rfl rfl) rfl)) (gT (Ty.sl 1 1 [(Ty.int (a.getD ((b.getD k 0)).toNat 0))]) rfl (fun A B E G H d0 => rP (y_build1o Try.underlying22 Try.inf3 rfl (one_val rfl) (ed d0 rfl rfl rfl))) (gE2 ok5 fun a7 s5 ok6 D5 => ?_)))))))))); have q19 := (Pr.own 2 3 1 (List.length (byL a (b.take k))) (List.map Ty.int (byL a (b.take k)))).up D5.stp q14
   have q20 : a7.eval (.tmp 5) = a6.eval (.tmp 5) := D5.same 5 rfl
   have q25 := D5.dn 8 (by decide) rfl rfl
   refine tail_step (m := 2) (R := (fun v τ => Own τ 2 3 1 v ((List.length (byL a (b.take k))) + 1) ((List.map Ty.int (byL a (b.take k))) ++ [(Ty.int (a.getD ((b.getD k 0)).toNat 0))]))) rfl rfl (by decide) ok6 (m_append Try.underlying22 Try.inf3 (by decide) rfl (by decide) (al (D5.dn 0 (by decide) rfl rfl) q19) q25 (by intro U hU; simp at hU;  subst hU; exact one_val rfl) (by omega) (by omega)) (fun a8 s6 hs1 ok7 r1 sm1 => ?_)
   have F7 := (F5.step0 D5.stp).step hs1 (by decide)
   have q26 : At (Ty.nat k) s6 a8 (.tmp 6) := kpm hs1 (by decide) (sm1 6 (by decide)) (D5.kt q15 rfl)
   have q27 : At (Ty.lst Ty.int a) s6 a8 (.tmp 0) := kpm hs1 (by decide) (sm1 0 (by decide)) (D5.kt q16 rfl)
   have q28 : At (Ty.lst Ty.int b) s6 a8 (.tmp 1) := kpm hs1 (by decide) (sm1 1 (by decide)) (D5.kt q17 rfl)
   have q29 : At (Ty.sl 1 1 [(Ty.int (a.getD ((b.getD k 0)).toNat 0))]) s6 a8 (.tmp 21) := kpm hs1 (by decide) (sm1 21 (by decide)) q25
   have q30 : (Pr.own 2 3 1 (List.length ((byL a (b.take k)) ++ [(a.getD ((b.getD k 0)).toNat 0)])) (List.map Ty.int ((byL a (b.take k)) ++ [(a.getD ((b.getD k 0)).toNat 0)]))).has s6 (a8.eval (.tmp 22)) := (cvo (by simp) (by first | (rw [List.map_append]; rfl) | simp) r1)
   refine tail_step (m := 0) (R := (fun v τ => Pr.has (Pr.own 2 3 1 (List.length ((byL a (b.take k)) ++ [(a.getD ((b.getD k 0)).toNat 0)])) (List.map Ty.int ((byL a (b.take k)) ++ [(a.getD ((b.getD k 0)).toNat 0)]))) τ v)) rfl rfl (by decide) ok7 (Yld.toM (y_assign q30)) (fun a9 s7 hs2 ok8 r2 sm2 => ?_)
   have F8 := F7.step hs2 (by decide)
   have q31 : At (Ty.nat k) s7 a9 (.tmp 6) := kpm hs2 (by decide) (sm2 6 (by decide)) q26
   have q32 : At (Ty.lst Ty.int a) s7 a9 (.tmp 0) := kpm hs2 (by decide) (sm2 0 (by decide)) q27
   have q33 : At (Ty.lst Ty.int b) s7 a9 (.tmp 1) := kpm hs2 (by decide) (sm2 1 (by decide)) q28
   have q34 : At (Ty.sl 1 1 [(Ty.int (a.getD ((b.getD k 0)).toNat 0))]) s7 a9 (.tmp 21) := kpm hs2 (by decide) (sm2 21 (by decide)) q29
   have q35 : (Pr.own 2 3 1 (List.length ((byL a (b.take k)) ++ [(a.getD ((b.getD k 0)).toNat 0)])) (List.map Ty.int ((byL a (b.take k)) ++ [(a.getD ((b.getD k 0)).toNat 0)]))).has s7 (a9.eval (.tmp 22)) := kpmo hs2 (by decide) (.inl rfl) (sm2 22 (by decide)) q30
   have q36 : (Pr.own 2 3 1 (List.length ((byL a (b.take k)) ++ [(a.getD ((b.getD k 0)).toNat 0)])) (List.map Ty.int ((byL a (b.take k)) ++ [(a.getD ((b.getD k 0)).toNat 0)]))).has s7 (a9.eval (.tmp 5)) := r2
   refine wpList_nil (bn (tn ?_))
   refine gI a9 s7 ok8 (gM q31 (gT (Ty.int (((k : Nat) : Int) + (1 : Int))) rfl (fun A B E G H d0 => rP (y_add (ed d0 rfl rfl rfl) rfl (w64 (by omega) (by omega)))) (gB 0 (gE ok8 fun a10 s8 ok9 D6 => ?_))))
   have q39 : (Pr.own 2 3 1 (List.length ((byL a (b.take k)) ++ [(a.getD ((b.getD k 0)).toNat 0)])) (List.map Ty.int ((byL a (b.take k)) ++ [(a.getD ((b.getD k 0)).toNat 0)]))).has s8 (a10.eval (.tmp 5)) := D6.ko q36 rfl
   exact tn ⟨b.length - ((k+1)), by omega, s8, (k+1), rfl, (F8.step0 D6.stp), ok9, (cvo (by (rw [byL_snoc a b k (by omega)])) (by (rw [byL_snoc a b k (by omega)])) q39), (cvi (by (first | rfl | omega | (simp_all; done) | (simp_all; omega))) (D6.dn 2 rfl rfl)), (D6.kt q32 rfl), (D6.kt q33 rfl), by omega, rfl⟩
  ·
   refine wp_exit (tx (tx (bx (tn (wp_seq ?_)))))
   refine gI a6 s4 ok5 (gT (Ty.val (a6.eval (.tmp 5))) rfl (fun A B E G H => rP (y_move (H 5 rfl))) (gB 0 (gE ok5 fun a11 s9 ok10 D7 => ?_)))
   have q41 : (Pr.own 2 3 1 (List.length (byL a (b.take k))) (List.map Ty.int (byL a (b.take k)))).has s9 (a11.eval (.tmp 4)) := al (show _ = _ from D7.done 1) ((Pr.own 2 3 1 (List.length (byL a (b.take k))) (List.map Ty.int (byL a (b.take k)))).up D7.stp q14)
   refine tn (wp_ret ?_)
   obtain ⟨t3, e1, h1, q42⟩ := Own.seal q41 (by decide)
   rw [← e1]
   have F11 := (F5.step0 D7.stp).step h1 (by decide)
   exact ret1 rfl ok10 F11 (cvt (by (obtain rfl : k = b.length := (by omega); rw [List.take_length])) q42)


set_option maxHeartbeats 4000000 in
set_option maxRecDepth 100000 in
theorem rRank_fn (r : List Int) (σ : GW)  (v0 : Value) (hv0 : Ty.has (Ty.lst Ty.int r) σ v0)  (hr : IsRow r) :
    FnC Try.prog 21 #[v0] σ (Ty.nat (rankL r)) := by
 have hln := hr.le
 refine fn_intro0 Try.func21 rfl Try.ntmps21 (Nat.le_of_ble_eq_true rfl) (fun s0 a0 hle F0 ok0 hargs => ?_)
 have p0 := pA hle (hargs 0 _ rfl) hv0
 have b1 := sl_le p0
 clear hargs; refine wp_seq ?_
 refine gI a0 s0 ok0 (gC (Ty.int (0 : Int)) (gE ok0 fun a1 s1 ok1 D1 => ?_)); refine tn (wp_seq ?_)
 refine gI a1 s1 ok1 (gC (Ty.int (0 : Int)) (gE ok1 fun a2 s2 ok2 D2 => ?_)); refine tn (wp_seq (wp_seq ?_))
 refine gI a2 s2 ok2 (gC (Ty.int (0 : Int)) (gE ok2 fun a3 s3 ok3 D3 => ?_)); refine tn (wp_block ?_)
 refine loop (fun n1 a4 w1 => ∃ (t1 : GW) (i : Nat) (q : Nat), t1.w = w1 ∧ FromL [] s0 t1 ∧ Ok 44 [] a4 ∧ At (Ty.nat i) t1 a4 (.tmp 4) ∧ At (Ty.nat q) t1 a4 (.tmp 3) ∧ At (Ty.lst Ty.int r) t1 a4 (.tmp 0) ∧ (i ≤ r.length) ∧ (q + rankL (r.drop i) = rankL r) ∧ n1 = r.length - i) (r.length - (0)) ?_ ?_
 ·
  exact ⟨s3, 0, 0, rfl, (((F0.step0 D1.stp).step0 D2.stp).step0 D3.stp), ok3, (cvi (by (first | rfl | omega | (simp_all; done) | (simp_all; omega))) (D3.dn 0 rfl rfl)), (cvi (by (first | rfl | omega | (simp_all; done) | (simp_all; omega))) (D3.kt (D2.dn 0 rfl rfl) rfl)), (D3.kt (D2.kt (D1.kt p0 rfl) rfl) rfl), by omega, by simp, rfl⟩
 ·
  rintro n2 a5 w2 ⟨t2, i, q, rfl, F4, ok4, q7, q8, q9, hi, hq, rfl⟩
  have hrl := rank_le12 hln
  refine wp_seq (wp_seq ?_)
  refine gI a5 t2 ok4 (gM q7 (gM q9 (gS rfl (fun A B E G H d0 => rP (y_len Try.underlying22 (ed d0 rfl rfl rfl))) (gS rfl (fun A B E G H d0 d1 => rP (y_lss (ed d0 rfl rfl rfl) (ed d1 rfl rfl rfl))) (gE ok4 fun a6 s4 ok5 D4 => ?_))))); have F5 := F4.step0 D4.stp; have q10 := D4.kt q7 rfl; have q11 := D4.kt q8 rfl; have q12 := D4.kt q9 rfl; refine tn ?_
  refine cond_p (p := (((i : Nat) : Int) < (((List.length r) : Nat) : Int))) (D4.dn 3 rfl rfl) (fun c1 => ?_) (fun c1 => ?_)
  ·
   have hmb := rank_mul hln (by omega) hq; have hbd := hr.at (i := i) (by omega)
   refine wp_skip (tn (wp_seq (wp_block (wp_seq ?_))))
   refine gI a6 s4 ok5 (gM q12 (gM q10 (gT (Ty.ref [(Ty.int (r.getD i 0))]) rfl (fun A B E G H d0 d1 => rP (y_index1 Try.underlying22 Try.inf3 (ed d0 rfl rfl rfl) (ed d1 rfl rfl rfl) (by omega) (lst_get Ty.int r 0 i (by omega)))) (gS rfl (fun A B E G H d0 => rP (y_load Try.underlying3 rfl (ed d0 rfl rfl rfl) rfl)) (gB 0 (gE ok5 fun a7 s5 ok6 D5 => ?_)))))); refine tn (wp_seq (wp_seq ?_))
   refine gI a7 s5 ok6 (gC (Ty.int (0 : Int)) (gE ok6 fun a8 s6 ok7 D6 => ?_)); refine tn (wp_block ?_)
   refine loop (fun n3 a9 w3 => ∃ (t3 : GW) (j : Nat), t3.w = w3 ∧ FromL [] s0 t3 ∧ Ok 44 [] a9 ∧ At (Ty.nat j) t3 a9 (.tmp 6) ∧ At (Ty.int (r.getD i 0 - ((lessN (r.getD i 0) (r.take j) : Nat) : Int))) t3 a9 (.tmp 5) ∧ At (Ty.nat i) t3 a9 (.tmp 4) ∧ At (Ty.nat q) t3 a9 (.tmp 3) ∧ At (Ty.lst Ty.int r) t3 a9 (.tmp 0) ∧ (j ≤ i) ∧ n3 = i - j) (i - (0)) ?_ ?_
   ·
    exact ⟨s6, 0, rfl, ((F5.step0 D5.stp).step0 D6.stp), ok7, (cvi (by (first | rfl | omega | (simp_all; done) | (simp_all; omega))) (D6.dn 0 rfl rfl)), (cvi (by (simp [lessN])) (D6.kt (D5.dn 4 rfl rfl) rfl)), (D6.kt (D5.kt q10 rfl) rfl), (D6.kt (D5.kt q11 rfl) rfl), (D6.kt (D5.kt q12 rfl) rfl), by omega, rfl⟩
   ·
    rintro n4 a10 w4 ⟨t4, j, rfl, F8, ok8, q23, q24, q25, q26, q27, hj, rfl⟩
    have hll := lessN_le (r.getD i 0) (r.take j)
    have htl := List.length_take_le j r
    refine wp_seq (wp_seq ?_)
    refine gI a10 t4 ok8 (gM q23 (gM q25 (gS rfl (fun A B E G H d0 d1 => rP (y_lss (ed d0 rfl rfl rfl) (ed d1 rfl rfl rfl))) (gE ok8 fun a11 s7 ok9 D7 => ?_)))); have F9 := F8.step0 D7.stp; have q28 := D7.kt q23 rfl; have q29 := D7.kt q24 rfl; have q30 := D7.kt q25 rfl; have q31 := D7.kt q26 rfl; have q32 := D7.kt q27 rfl; refine tn ?_
    refine cond_p (p := (((j : Nat) : Int) < ((i : Nat) : Int))) (D7.dn 2 rfl rfl) (fun c2 => ?_) (fun c2 => ?_)
    ·
     refine wp_skip (tn (wp_seq (wp_block (wp_seq ?_))))
     refine gI a11 s7 ok9 (gM q32 (gM q28 (gT (Ty.ref [(Ty.int (r.getD j 0))]) rfl (fun A B E G H d0 d1 => rP (y_index1 Try.underlying22 Try.inf3 (ed d0 rfl rfl rfl) (ed d1 rfl rfl rfl) (by omega) (lst_get Ty.int r 0 j (by omega)))) (gS rfl (fun A B E G H d0 => rP (y_load Try.underlying3 rfl (ed d0 rfl rfl rfl) rfl)) (gM q32 (gM q30 (gT (Ty.ref [(Ty.int (r.getD i 0))]) rfl (fun A B E G H d0 d1 => rP (y_index1 Try.underlying22 Try.inf3 (ed d0 rfl rfl rfl) (ed d1 rfl rfl rfl) (by omega) (lst_get Ty.int r 0 i (by omega)))) (gS rfl (fun A B E G H d0 => rP (y_load Try.underlying3 rfl (ed d0 rfl rfl rfl) rfl)) (gS rfl (fun A B E G H d0 d1 => rP (y_lss (ed d0 rfl rfl rfl) (ed d1 rfl rfl rfl))) (gE ok9 fun a12 s8 ok10 D8 => ?_)))))))))); have F10 := F9.step0 D8.stp; have q34 := D8.kt q28 rfl; have q35 := D8.kt q29 rfl; have q36 := D8.kt q30 rfl; have q37 := D8.kt q31 rfl; have q38 := D8.kt q32 rfl; refine tn ?_
     refine cond_p (p := ((r.getD j 0) < (r.getD i 0))) (D8.dn 8 rfl rfl) (fun c3 => ?_) (fun c3 => ?_)
     ·
      refine gI a12 s8 ok10 (gM q35 (gT (Ty.int ((r.getD i 0 - ((lessN (r.getD i 0) (r.take j) : Nat) : Int)) - (1 : Int))) rfl (fun A B E G H d0 => rP (y_sub (ed d0 rfl rfl rfl) rfl (w64 (by omega) (by omega)))) (gB 0 (gE ok10 fun a13 s9 ok11 D9 => ?_)))); refine bn (tn ?_)
      refine gI a13 s9 ok11 (gM (D9.kt q34 rfl) (gT (Ty.nat (j + 1)) rfl (fun A B E G H d0 => rP ((y_add (ed d0 rfl rfl rfl) rfl (w64 (by omega) (by omega))).mono (fun τ _ h => cvi (σ := τ) (by first | omega | exact (Int.natCast_mul _ _).symm) h))) (gB 0 (gE ok11 fun a14 s10 ok12 D10 => ?_))))
      exact tn ⟨i - ((j+1)), by omega, s10, (j+1), rfl, ((F10.step0 D9.stp).step0 D10.stp), ok12, (cvi (by (first | rfl | omega | (simp_all; done) | (simp_all; omega))) (D10.dn 2 rfl rfl)), (cvi (by (rw [lessN_snoc _ _ _ (by omega), if_pos (by assumption)]; omega)) (D10.kt (D9.dn 2 rfl rfl) rfl)), (D10.kt (D9.kt q36 rfl) rfl), (D10.kt (D9.kt q37 rfl) rfl), (D10.kt (D9.kt q38 rfl) rfl), by omega, rfl⟩
     ·
      refine wp_skip (bn (tn ?_))
      refine gI a12 s8 ok10 (gM q34 (gT (Ty.nat (j + 1)) rfl (fun A B E G H d0 => rP ((y_add (ed d0 rfl rfl rfl) rfl (w64 (by omega) (by omega))).mono (fun τ _ h => cvi (σ := τ) (by first | omega | exact (Int.natCast_mul _ _).symm) h))) (gB 0 (gE ok10 fun a15 s11 ok13 D11 => ?_))))
      exact tn ⟨i - ((j+1)), by omega, s11, (j+1), rfl, (F10.step0 D11.stp), ok13, (cvi (by (first | rfl | omega | (simp_all; done) | (simp_all; omega))) (D11.dn 2 rfl rfl)), (cvi (by (rw [lessN_snoc _ _ _ (by omega), if_neg (by assumption)]; rfl)) (D11.kt q35 rfl)), (D11.kt q36 rfl), (D11.kt q37 rfl), (D11.kt q38 rfl), by omega, rfl⟩
    ·
     have q55 : At (Ty.nat (lessN (r.getD i 0) (r.drop (i + 1)))) s7 a11 (.tmp 5) := cvt (T := (Ty.int (r.getD i 0 - ((lessN (r.getD i 0) (r.take j) : Nat) : Int)))) (U := (Ty.nat (lessN (r.getD i 0) (r.drop (i + 1))))) (by have e : j = i := (by omega); rw [e]; exact congrArg Ty.int (less_after hr (by omega))) q29
     refine wp_exit (tx (tx (bx (tn ?_))))
     refine gI a11 s7 ok9 (gM q31 (gM q55 (gM q32 (gS rfl (fun A B E G H d0 => rP (y_len Try.underlying22 (ed d0 rfl rfl rfl))) (gT (Ty.nat ((List.length r) - 1)) rfl (fun A B E G H d0 => rP ((y_sub (ed d0 rfl rfl rfl) rfl (w64 (by omega) (by omega))).mono (fun τ _ h => cvi (σ := τ) (by omega) h))) (gM q30 (gT (Ty.nat (((List.length r) - 1) - i)) rfl (fun A B E G H d0 d1 => rP ((y_sub (ed d0 rfl rfl rfl) (ed d1 rfl rfl rfl) (w64 (by omega) (by omega))).mono (fun τ _ h => cvi (σ := τ) (by omega) h))) (gS rfl (fun A B E G H d0 => rP (y_call _ Try.func58 rfl rfl my1 (rFact_fn (((((List.length r) - 1) - i))) ((((List.length r) - 1) - i)) _ _ (cvi (σ := B) (by omega) (ed d0 rfl rfl rfl)) (by omega) (by omega)))) (gT (Ty.nat ((lessN (r.getD i 0) (r.drop (i + 1))) * (fct ((((List.length r) - 1) - i))))) rfl (fun A B E G H d0 d1 => rP ((y_mul (ed d0 rfl rfl rfl) (ed d1 rfl rfl rfl) (w64 (by omega) (by omega))).mono (fun τ _ h => cvi (σ := τ) (by first | omega | exact (Int.natCast_mul _ _).symm) h))) (gT (Ty.nat (q + ((lessN (r.getD i 0) (r.drop (i + 1))) * (fct ((((List.length r) - 1) - i)))))) rfl (fun A B E G H d0 d1 => rP ((y_add (ed d0 rfl rfl rfl) (ed d1 rfl rfl rfl) (w64 (by omega) (by omega))).mono (fun τ _ h => cvi (σ := τ) (by first | omega | exact (Int.natCast_mul _ _).symm) h))) (gB 0 (gE ok9 fun a16 s12 ok14 D12 => ?_)))))))))))); refine bn (tn ?_)
     refine gI a16 s12 ok14 (gM (D12.kt q30 rfl) (gT (Ty.nat (i + 1)) rfl (fun A B E G H d0 => rP ((y_add (ed d0 rfl rfl rfl) rfl (w64 (by omega) (by omega))).mono (fun τ _ h => cvi (σ := τ) (by first | omega | exact (Int.natCast_mul _ _).symm) h))) (gB 0 (gE ok14 fun a17 s13 ok15 D13 => ?_))))
     exact tn ⟨r.length - ((i+1)), by omega, s13, (i+1), (q + lessN (r.getD i 0) (r.drop (i + 1)) * fct (r.length - 1 - i)), rfl, ((F9.step0 D12.stp).step0 D13.stp), ok15, (cvi (by (first | rfl | omega | (simp_all; done) | (simp_all; omega))) (D13.dn 2 rfl rfl)), (cvi (by (first | rfl | omega | (simp_all; done) | (simp_all; omega))) (D13.kt (D12.dn 10 rfl rfl) rfl)), (D13.kt (D12.kt q32 rfl) rfl), by omega, rank_step' (by omega) hq, rfl⟩
  ·
   refine wp_exit (tx (tx (bx (tn (wp_seq ?_)))))
   refine gI a6 s4 ok5 (gM q11 (gB 0 (gE ok5 fun a18 s14 ok16 D14 => ?_))); refine tn (wp_ret ?_)
   exact retL1 rfl ok16 (F5.step0 D14.stp) (cvi (by (obtain rfl : i = r.length := (by omega); exact congrArg _ (by rw [List.drop_length] at hq; exact hq))) (D14.dn 1 rfl rfl))

theorem Try.inf4 : Info Try.prog 4 (.bool false) 1 1 := by unfold Info; kernel_rfl
set_option maxHeartbeats 4000000 in
set_option maxRecDepth 100000 in
theorem rClosed_fn (n : Nat) (gens : List (List Int)) (most : Nat) (σ : GW) (hlow : Low [] σ) (v0 v1 v2 : Value) (hv0 : Ty.has (Ty.nat n) σ v0) (hv1 : Ty.has (Ty.lst Ty.ints gens) σ v1) (hv2 : Ty.has (Ty.nat most) σ v2)  (hn : 1 ≤ n ∧ n ≤ 12) (hg : ∀ x ∈ gens, RowN n x) (hgl : gens.length ≤ 1000) (hms : 1 ≤ most ∧ most ≤ 100000) :
    FnL Try.prog 19 #[v0, v1, v2] σ [] (fun v τ => ∃ (R : (List (List Int))), ∃ (W : (List (List Int))), (Ty.has (Ty.tup2 (Ty.lst Ty.ints R) (Ty.lst Ty.ints W)) τ v) ∧ (ClosedP n gens most R W)) := by
 refine fn_introL hlow Try.func19 rfl Try.ntmps19 (Nat.le_of_ble_eq_true rfl) (fun a0 F0 ok0 hargs => ?_)
 have p0 := pB (hargs 0 _ rfl) hv0
 have p1 := pB (hargs 1 _ rfl) hv1
 have b1 := sl_le p1
 have p2 := pB (hargs 2 _ rfl) hv2
 clear hargs; refine wp_seq ?_
 refine gI a0 σ ok0 (gC (Ty.val (Value.slice none 0 0)) (gC (Ty.val (Value.slice none 0 0)) (gE ok0 fun a1 s1 ok1 D1 => ?_))); refine tn (wp_seq ?_)
 refine gI a1 s1 ok1 (gM (D1.kt p0 rfl) (gS rfl (fun A B E G H d0 => rP (y_call _ Try.func39 rfl rfl my1 (rRounds_fn (n) _ _ (ed d0 rfl rfl rfl) (by omega)))) (gR (Pr.own 20 22 1 1 (List.map Ty.ints [(roundsL n)])) rfl (by intro A B E G H d0; exact rP ((y_lit1 (k := 20) Try.underlying24 Try.inf22 rfl (one_sl) (ed d0 rfl rfl rfl)).mono (fun _ _ h => cvo (by simp) (by first | (simp; done) | rfl) h))) (gE2 ok1 fun a2 s2 ok2 D2 => ?_))))
 obtain ⟨x1, hx1⟩ : ∃ x, a2.eval (.tmp 19) = x := ⟨_, rfl⟩
 have q6 : At (Ty.val x1) s2 a2 (.tmp 19) := hx1
 have o1 := al2 (R := (Pr.own 20 22 1 1 (List.map Ty.ints [(roundsL n)]))) hx1 (D2.done 2 (by decide))
 refine tL ok2 (Yld.toL (y_as q6)) fun a3 s3 hs1 ok3 r1 sm1 => ?_
 have F3 := ((F0.step0 D1.stp).step0 D2.stp).stepL hs1 (by decide); have q7 := kpL hs1 (by decide) (sm1 1 (by decide)) (D2.kt (D1.kt p1 rfl) rfl); have q8 := kpL hs1 (by decide) (sm1 2 (by decide)) (D2.kt (D1.kt p2 rfl) rfl); have o2 := Own.keepL o1 hs1 (by decide) (by decide)
 have q9 : At (Ty.val x1) s3 a3 (.tmp 8) := r1
 clear r1; refine wpList_nil (tn (wp_seq ?_))
 refine gI a3 s3 ok3 (gR (Pr.own 21 22 1 1 (List.map Ty.ints [([] : List Int)])) rfl (by intro A B E G H; exact rP ((y_lit1 (k := 21) Try.underlying24 Try.inf22 rfl (one_sl) (nil_lst (f := Ty.int) (xs := ([] : List Int)) rfl (show Ty.has (Ty.val (Value.slice none 0 0)) B (A.eval ((Operand.const (Value.slice none 0 0)))) from rfl))).mono (fun _ _ h => cvo (by simp) (by first | (simp; done) | rfl) h))) (gE2 ok3 fun a4 s4 ok4 D3 => ?_)); have o3 := Own.k0 o2 D3.stp
 obtain ⟨x2, hx2⟩ : ∃ x, a4.eval (.tmp 20) = x := ⟨_, rfl⟩
 have q13 : At (Ty.val x2) s4 a4 (.tmp 20) := hx2
 have o4 := al2 (R := (Pr.own 21 22 1 1 (List.map Ty.ints [([] : List Int)]))) hx2 (D3.done 0 (by decide))
 refine tL ok4 (Yld.toL (y_as q13)) fun a5 s5 hs2 ok5 r2 sm2 => ?_
 have F5 := (F3.step0 D3.stp).stepL hs2 (by decide); have q14 := kpL hs2 (by decide) (sm2 1 (by decide)) (D3.kt q7 rfl); have q15 := kpL hs2 (by decide) (sm2 2 (by decide)) (D3.kt q8 rfl); have q16 := kpL hs2 (by decide) (sm2 8 (by decide)) (D3.kt q9 rfl); have o5 := Own.keepL o3 hs2 (by decide) (by decide); have o6 := Own.keepL o4 hs2 (by decide) (by decide)
 have q17 : At (Ty.val x2) s5 a5 (.tmp 9) := r2
 clear r2; refine wpList_nil (tn (wp_seq ?_))
 refine gI a5 s5 ok5 (gR (Pr.ownm Ty.bool kI 22 (fun _ => none : Int → Option Bool)) rfl (by intro A B E G H; exact rP (y_makemap 22)) (gE2 ok5 fun a6 s6 ok6 D4 => ?_)); have o7 := Own.k0 o5 D4.stp; have o8 := Own.k0 o6 D4.stp
 obtain ⟨x3, hx3⟩ : ∃ x, a6.eval (.tmp 21) = x := ⟨_, rfl⟩
 have q22 : At (Ty.val x3) s6 a6 (.tmp 21) := hx3
 have o9 := al2 (R := (Pr.ownm Ty.bool kI 22 (fun _ => none : Int → Option Bool))) hx3 (D4.done 0 (by decide))
 refine tailL0 (L := [22]) (R := (fun _ τ => OwnM Ty.bool kI τ 22 x3 (fun x_ => if x_ = (0 : Int) then some true else (fun _ => none : Int → Option Bool) x_))) rfl rfl (YldM.toL (m_mapins (i := (0 : Int)) Try.underlying35 (keyInt Try.underlying3) (by decide) o9 q22 rfl rfl)) (fun v1 s7 hs3 r3 => ?_)
 have F7 := (F5.step0 D4.stp).stepL hs3 (by decide); have q23 := kpL hs3 (by decide) rfl (D4.kt q14 rfl); have q24 := kpL hs3 (by decide) rfl (D4.kt q15 rfl); have q25 := kpL hs3 (by decide) rfl (D4.kt q16 rfl); have q26 := kpL hs3 (by decide) rfl (D4.kt q17 rfl); have q27 := kpL hs3 (by decide) rfl q22; have o11 := Own.keepL o7 hs3 (by decide) (by decide); have o12 := Own.keepL o8 hs3 (by decide) (by decide)
 have o10 : OwnM Ty.bool kI s7 22 x3 (fun x_ => if x_ = (0 : Int) then some true else (fun _ => none : Int → Option Bool) x_) := r3
 clear r3
 refine tL ok6 (Yld.toL (y_mv q27)) fun a7 s8 hs4 ok7 r4 sm3 => ?_
 have F8 := F7.stepL hs4 (by decide); have q29 := kpL hs4 (by decide) (sm3 1 (by decide)) q23; have q30 := kpL hs4 (by decide) (sm3 2 (by decide)) q24; have q31 := kpL hs4 (by decide) (sm3 8 (by decide)) q25; have q32 := kpL hs4 (by decide) (sm3 9 (by decide)) q26; have o13 := Own.keepL o11 hs4 (by decide) (by decide); have o14 := Own.keepL o12 hs4 (by decide) (by decide); have o15 := OwnM.keepL o10 hs4 (by decide) (by decide)
 have q33 : At (Ty.val x3) s8 a7 (.tmp 22) := r4
 clear r4
 refine tL ok7 (Yld.toL (y_as q33)) fun a8 s9 hs5 ok8 r5 sm4 => ?_
 have F9 := F8.stepL hs5 (by decide); have q34 := kpL hs5 (by decide) (sm4 1 (by decide)) q29; have q35 := kpL hs5 (by decide) (sm4 2 (by decide)) q30; have q36 := kpL hs5 (by decide) (sm4 8 (by decide)) q31; have q37 := kpL hs5 (by decide) (sm4 9 (by decide)) q32; have o16 := Own.keepL o13 hs5 (by decide) (by decide); have o17 := Own.keepL o14 hs5 (by decide) (by decide); have o18 := OwnM.keepL o15 hs5 (by decide) (by decide)
 have q38 : At (Ty.val x3) s9 a8 (.tmp 10) := r5
 clear r5; refine wpList_nil (tn (wp_seq (wp_seq ?_)))
 refine gI a8 s9 ok8 (gC (Ty.int (0 : Int)) (gE ok8 fun a9 s10 ok9 D5 => ?_)); have o19 := Own.k0 o16 D5.stp; have o20 := Own.k0 o17 D5.stp; have o21 := OwnM.k0 o18 D5.stp; refine tn (wp_block ?_)
 refine loop (fun n1 a10 w1 => ∃ (t1 : GW) (i : Nat) (L : (List (List Int))) (W : (List (List Int))) (f : (Int → Option Bool)) (x8_0 x9_0 : Value), t1.w = w1 ∧ FromL [] σ t1 ∧ Ok 86 [] a10 ∧ At (Ty.nat i) t1 a10 (.tmp 11) ∧ At (Ty.val x8_0) t1 a10 (.tmp 8) ∧ At (Ty.val x9_0) t1 a10 (.tmp 9) ∧ At (Ty.lst Ty.ints gens) t1 a10 (.tmp 1) ∧ At (Ty.nat most) t1 a10 (.tmp 2) ∧ At (Ty.val x3) t1 a10 (.tmp 10) ∧ Own t1 20 22 1 x8_0 (List.length L) (List.map Ty.ints L) ∧ Own t1 21 22 1 x9_0 (List.length W) (List.map Ty.ints W) ∧ OwnM Ty.bool kI t1 22 x3 f ∧ (i ≤ L.length) ∧ (L.length ≤ most) ∧ (ClI n gens L W i 0) ∧ (SeenB n L f) ∧ (WordsB W) ∧ n1 = most - i) (most - (0)) ?_ ?_
 ·
  exact ⟨s10, 0, [roundsL n], [[]], (fun x => if x = (0 : Int) then some true else (fun _ => none) x), x1, x2, rfl, (F9.step0 D5.stp), ok9, (cvi (by (first | rfl | omega | (simp_all; done) | (simp_all; omega))) (D5.dn 0 rfl rfl)), (D5.kt q36 rfl), (D5.kt q37 rfl), (D5.kt q34 rfl), (D5.kt q35 rfl), (D5.kt q38 rfl), (cvo (by (first | rfl | simp)) (by (first | rfl | simp)) o19), (cvo (by (first | rfl | simp)) (by (first | rfl | simp)) o20), (cvm (by (rfl)) o21), by simp, hms.1, ClI.start, seenC_start hn, wordsB_start, rfl⟩
 ·
  rintro n2 a11 w2 ⟨t2, i, L, W, f, x8_0, x9_0, rfl, F11, ok10, q45, q46, q47, q48, q49, q50, o22, o23, o24, hi, hl, hC, hsn, hwb, rfl⟩
  have hwl := hC.wl
  refine wp_seq (wp_seq ?_)
  refine gI a11 t2 ok10 (gM q45 (gM q46 (gT (Ty.nat (List.length L)) rfl (fun A B E G H d0 => rP (own_len Try.underlying24 (al (R := (Pr.own 20 22 1 (List.length L) (List.map Ty.ints L))) (ed d0 rfl rfl rfl) (Own.k0 o22 E)))) (gS rfl (fun A B E G H d0 d1 => rP (y_lss (ed d0 rfl rfl rfl) (ed d1 rfl rfl rfl))) (gE ok10 fun a12 s11 ok11 D6 => ?_))))); have F12 := F11.step0 D6.stp; have q52 := D6.kt q46 rfl; have q53 := D6.kt q47 rfl; have o25 := Own.k0 o22 D6.stp; have o26 := Own.k0 o23 D6.stp; have o27 := OwnM.k0 o24 D6.stp; refine tn ?_
  refine cond_p (p := (((i : Nat) : Int) < (((List.length L) : Nat) : Int))) (D6.dn 3 rfl rfl) (fun c1 => ?_) (fun c1 => ?_)
  ·
   refine wp_skip (tn (wp_seq (wp_block (wp_seq ?_))))
   refine gI a12 s11 ok11 (gC (Ty.int (0 : Int)) (gE ok11 fun a13 s12 ok12 D7 => ?_)); have o28 := Own.k0 o25 D7.stp; have o29 := Own.k0 o26 D7.stp; have o30 := OwnM.k0 o27 D7.stp; refine tn (wp_block ?_)
   refine loop (fun n3 a14 w3 => ∃ (t3 : GW) (j : Nat) (L2 : (List (List Int))) (W2 : (List (List Int))) (f2 : (Int → Option Bool)) (x8_1 x9_1 : Value), t3.w = w3 ∧ FromL [] σ t3 ∧ Ok 86 [] a14 ∧ At (Ty.nat j) t3 a14 (.tmp 12) ∧ At (Ty.val x8_1) t3 a14 (.tmp 8) ∧ At (Ty.val x9_1) t3 a14 (.tmp 9) ∧ At (Ty.nat i) t3 a14 (.tmp 11) ∧ At (Ty.lst Ty.ints gens) t3 a14 (.tmp 1) ∧ At (Ty.nat most) t3 a14 (.tmp 2) ∧ At (Ty.val x3) t3 a14 (.tmp 10) ∧ Own t3 20 22 1 x8_1 (List.length L2) (List.map Ty.ints L2) ∧ Own t3 21 22 1 x9_1 (List.length W2) (List.map Ty.ints W2) ∧ OwnM Ty.bool kI t3 22 x3 f2 ∧ (j ≤ 2 * gens.length) ∧ (i < L2.length) ∧ (L2.length ≤ most) ∧ (ClI n gens L2 W2 i j) ∧ (SeenB n L2 f2) ∧ (WordsB W2) ∧ n3 = 2 * gens.length - j) (2 * gens.length - (0)) ?_ ?_
   ·
    exact ⟨s12, 0, L, W, f, x8_0, x9_0, rfl, (F12.step0 D7.stp), ok12, (cvi (by (first | rfl | omega | (simp_all; done) | (simp_all; omega))) (D7.dn 0 rfl rfl)), (D7.kt q52 rfl), (D7.kt q53 rfl), (D7.kt (D6.kt q45 rfl) rfl), (D7.kt (D6.kt q48 rfl) rfl), (D7.kt (D6.kt q49 rfl) rfl), (D7.kt (D6.kt q50 rfl) rfl), (cvo (by (simp)) (by (simp)) o28), (cvo (by (simp)) (by (simp)) o29), (cvm (by (rfl)) o30), by omega, by omega, hl, hC, hsn, hwb, rfl⟩
   ·
    rintro n4 a15 w4 ⟨t4, j, L2, W2, f2, x8_1, x9_1, rfl, F14, ok13, q65, q66, q67, q68, q69, q70, q71, o31, o32, o33, hj, hil, hl2, hC2, hsn2, hwb2, rfl⟩
    have hwl2 := hC2.wl
    refine wp_seq (wp_seq ?_)
    refine gI a15 t4 ok13 (gM q65 (gM q69 (gS rfl (fun A B E G H d0 => rP (y_len Try.underlying24 (ed d0 rfl rfl rfl))) (gT (Ty.nat (2 * (List.length gens))) rfl (fun A B E G H d0 => rP ((y_mul rfl (ed d0 rfl rfl rfl) (w64 (by omega) (by omega))).mono (fun τ _ h => cvi (σ := τ) (by first | omega | exact (Int.natCast_mul _ _).symm) h))) (gS rfl (fun A B E G H d0 d1 => rP (y_lss (ed d0 rfl rfl rfl) (ed d1 rfl rfl rfl))) (gE ok13 fun a16 s13 ok14 D8 => ?_)))))); have F15 := F14.step0 D8.stp; have q72 := D8.kt q65 rfl; have q73 := D8.kt q66 rfl; have q74 := D8.kt q67 rfl; have q75 := D8.kt q68 rfl; have q76 := D8.kt q69 rfl; have q77 := D8.kt q70 rfl; have q78 := D8.kt q71 rfl; have o34 := Own.k0 o31 D8.stp; have o35 := Own.k0 o32 D8.stp; have o36 := OwnM.k0 o33 D8.stp; refine tn ?_
    refine cond_p (p := (((j : Nat) : Int) < (((2 * (List.length gens)) : Nat) : Int))) (D8.dn 4 rfl rfl) (fun c2 => ?_) (fun c2 => ?_)
    ·
     obtain ⟨hf1, hf2, hf3, hf4, hf5, hf6⟩ := hC2.fits hn hg hil (by omega)
     refine wp_skip (tn (wp_seq (wp_block (wp_seq ?_))))
     refine gI a16 s13 ok14 (gM q76 (gM q72 (gT (Ty.nat (j / 2)) rfl (fun A B E G H d0 => rP (y_quoN (ed d0 rfl rfl rfl) (toN (σ := B) rfl (by omega)) (by omega) (by omega))) (gT (Ty.ref [(Ty.lst Ty.int (gens.getD (j / 2) []))]) rfl (fun A B E G H d0 d1 => rP (y_index1 Try.underlying24 Try.inf22 (ed d0 rfl rfl rfl) (ed d1 rfl rfl rfl) (by omega) (lst_get Ty.ints gens [] (j / 2) (by omega)))) (gS rfl (fun A B E G H d0 => rP (y_load Try.underlying22 rfl (ed d0 rfl rfl rfl) rfl)) (gB 0 (gE ok14 fun a17 s14 ok15 D9 => ?_))))))); have q80 := D9.kt q72 rfl; have o37 := Own.k0 o34 D9.stp; have o38 := Own.k0 o35 D9.stp; have o39 := OwnM.k0 o36 D9.stp; refine tn (wp_seq ?_)
     refine gI a17 s14 ok15 (gM q80 (gT (Ty.nat (j / 2)) rfl (fun A B E G H d0 => rP (y_quoN (ed d0 rfl rfl rfl) (toN (σ := B) rfl (by omega)) (by omega) (by omega))) (gT (Ty.nat ((j / 2) + 1)) rfl (fun A B E G H d0 => rP ((y_add (ed d0 rfl rfl rfl) rfl (w64 (by omega) (by omega))).mono (fun τ _ h => cvi (σ := τ) (by first | omega | exact (Int.natCast_mul _ _).symm) h))) (gB 0 (gE ok15 fun a18 s15 ok16 D10 => ?_))))); have q88 := D10.kt q80 rfl; have o40 := Own.k0 o37 D10.stp; have o41 := Own.k0 o38 D10.stp; have o42 := OwnM.k0 o39 D10.stp; refine tn (wp_seq (wp_seq ?_))
     refine gI a18 s15 ok16 (gM q88 (gT (Ty.nat (j % 2)) rfl (fun A B E G H d0 => rP (y_remN (ed d0 rfl rfl rfl) (toN (σ := B) rfl (by omega)) (by omega))) (gS rfl (fun A B E G H d0 => rP (y_eql (ed d0 rfl rfl rfl) rfl)) (gE ok16 fun a19 s16 ok17 D11 => ?_)))); have F18 := ((F15.step0 D9.stp).step0 D10.stp).step0 D11.stp; have q97 := D11.kt q88 rfl; have q98 := D11.kt (D10.kt (D9.kt q73 rfl) rfl) rfl; have q99 := D11.kt (D10.kt (D9.kt q74 rfl) rfl) rfl; have q100 := D11.kt (D10.kt (D9.kt q75 rfl) rfl) rfl; have q101 := D11.kt (D10.kt (D9.kt q76 rfl) rfl) rfl; have q102 := D11.kt (D10.kt (D9.kt q77 rfl) rfl) rfl; have q103 := D11.kt (D10.kt (D9.kt q78 rfl) rfl) rfl; have q104 := D11.kt (D10.kt (D9.dn 5 rfl rfl) rfl) rfl; have q105 := D11.kt (D10.dn 3 rfl rfl) rfl; have o43 := Own.k0 o40 D11.stp; have o44 := Own.k0 o41 D11.stp; have o45 := OwnM.k0 o42 D11.stp; refine tn ?_
     refine Go.KL.join_then (Q' := fun a20 w5 => ∃ (t5 : GW), t5.w = w5 ∧ FromL [] σ t5 ∧ Ok 86 [] a20 ∧ At (Ty.lst Ty.int (ltr gens j)) t5 a20 (.tmp 13) ∧ At (Ty.int (ltrN j)) t5 a20 (.tmp 14) ∧ At (Ty.nat j) t5 a20 (.tmp 12) ∧ At (Ty.val x8_1) t5 a20 (.tmp 8) ∧ At (Ty.val x9_1) t5 a20 (.tmp 9) ∧ At (Ty.nat i) t5 a20 (.tmp 11) ∧ At (Ty.lst Ty.ints gens) t5 a20 (.tmp 1) ∧ At (Ty.nat most) t5 a20 (.tmp 2) ∧ At (Ty.val x3) t5 a20 (.tmp 10) ∧ Own t5 20 22 1 x8_1 (List.length L2) (List.map Ty.ints L2) ∧ Own t5 21 22 1 x9_1 (List.length W2) (List.map Ty.ints W2) ∧ OwnM Ty.bool kI t5 22 x3 f2 ∧ True) ?_ ?_
     ·
      refine cond_p (p := ((((j % 2) : Nat) : Int) = (1 : Int))) (D11.dn 2 rfl rfl) (fun c3 => ?_) (fun c3 => ?_)
      ·
       refine wp_seq ?_
       refine gI a19 s16 ok17 (gM q104 (gS rfl (fun A B E G H d0 => rP (y_call _ Try.func23 rfl rfl my1 (rUndo_fn ((gens.getD (j / 2) [])) _ _ (ed d0 rfl rfl rfl) (by assumption)))) (gB 0 (gE ok17 fun a21 s17 ok18 D12 => ?_)))); have o46 := Own.k0 o43 D12.stp; have o47 := Own.k0 o44 D12.stp; have o48 := OwnM.k0 o45 D12.stp; refine tn ?_
       refine gI a21 s17 ok18 (gM (D12.kt q105 rfl) (gT (Ty.int (-((((j / 2) + 1) : Nat) : Int))) rfl (fun A B E G H d0 => rP (y_neg (ed d0 rfl rfl rfl) (w64 (by omega) (by omega)))) (gB 0 (gE ok18 fun a22 s18 ok19 D13 => ?_)))); have o49 := Own.k0 o46 D13.stp; have o50 := Own.k0 o47 D13.stp; have o51 := OwnM.k0 o48 D13.stp
       exact tn ⟨s18, rfl, ((F18.step0 D12.stp).step0 D13.stp), ok19, (cvt (by (unfold ltr; rw [if_pos (by omega)])) (D13.kt (D12.dn 2 rfl rfl) rfl)), (cvi (by (unfold ltrN; rw [if_pos (by omega)])) (D13.dn 2 rfl rfl)), (D13.kt (D12.kt q97 rfl) rfl), (D13.kt (D12.kt q98 rfl) rfl), (D13.kt (D12.kt q99 rfl) rfl), (D13.kt (D12.kt q100 rfl) rfl), (D13.kt (D12.kt q101 rfl) rfl), (D13.kt (D12.kt q102 rfl) rfl), (D13.kt (D12.kt q103 rfl) rfl), o49, o50, o51, trivial⟩
      ·
       refine wp_skip ?_
       exact tn ⟨s16, rfl, F18, ok17, (cvt (by (unfold ltr; rw [if_neg (by omega)])) q104), (cvi (by (unfold ltrN; rw [if_neg (by omega)])) q105), q97, q98, q99, q100, q101, q102, q103, o43, o44, o45, trivial⟩
     ·
      rintro a23 w6 ⟨t6, rfl, F21, ok20, q125, q126, q127, q128, q129, q130, q131, q132, q133, o52, o53, o54, -⟩
      refine wp_seq ?_
      refine gI a23 t6 ok20 (gM q128 (gM q130 (gT (Ty.val (cellPtr x8_1 i)) rfl (fun A B E G H d0 d1 => rP (own_index1 (i := ((i : Nat) : Int)) Try.underlying24 Try.inf22 (Own.k0 o52 E) (ed d0 rfl rfl rfl) (ed d1 rfl rfl rfl) (by omega) (by omega))) (gS rfl (fun A B E G H d0 => rP (own_load Try.underlying22 rfl (Own.k0 o52 E) (ed d0 rfl rfl rfl) (lst_get Ty.ints L2 [] i (by omega)))) (gM q125 (gS rfl (fun A B E G H d0 d1 => rP (y_call _ Try.func22 rfl rfl my2 (rBy_fn ((L2.getD i [])) ((ltr gens j)) _ _ _ (ed d0 rfl rfl rfl) (ed d1 rfl rfl rfl) (by first | assumption | omega) (by first | assumption | omega)))) (gB 0 (gE ok20 fun a24 s19 ok21 D14 => ?_)))))))); have o55 := Own.k0 o52 D14.stp; have o56 := Own.k0 o53 D14.stp; have o57 := OwnM.k0 o54 D14.stp; have q142 := D14.dn 6 rfl rfl; refine tn (wp_seq ?_)
      refine gI a24 s19 ok21 (gM q142 (gS rfl (fun A B E G H d0 => rP (y_call _ Try.func21 rfl rfl my1 (rRank_fn ((byL ((L2.getD i [])) ((ltr gens j)))) _ _ (ed d0 rfl rfl rfl) (by first | omega | assumption)))) (gB 0 (gE ok21 fun a25 s20 ok22 D15 => ?_)))); have q150 := D15.kt (D14.kt q133 rfl) rfl; have o58 := Own.k0 o55 D15.stp; have o59 := Own.k0 o56 D15.stp; have o60 := OwnM.k0 o57 D15.stp; have q152 := D15.dn 2 rfl rfl; refine tn (wp_seq (wp_seq ?_))
      refine gI a25 s20 ok22 (gM q150 (gM q152 (gT (Ty.bool ((f2 (((rankL ((byL ((L2.getD i [])) ((ltr gens j))))) : Nat) : Int)).getD false)) rfl (fun A B E G H d0 d1 => rP (y_lookup (i := (((rankL ((byL ((L2.getD i [])) ((ltr gens j))))) : Nat) : Int)) (z := false) Try.underlying35 (keyInt Try.underlying3) Try.inf4 (fun _ => rfl) (OwnM.k0 o60 E) (ed d0 rfl rfl rfl) (ed d1 rfl rfl rfl))) (gE ok22 fun a26 s21 ok23 D16 => ?_)))); have F24 := ((F21.step0 D14.stp).step0 D15.stp).step0 D16.stp; have q154 := D16.kt (D15.kt (D14.kt q127 rfl) rfl) rfl; have q155 := D16.kt (D15.kt (D14.kt q128 rfl) rfl) rfl; have q156 := D16.kt (D15.kt (D14.kt q129 rfl) rfl) rfl; have q157 := D16.kt (D15.kt (D14.kt q130 rfl) rfl) rfl; have q158 := D16.kt (D15.kt (D14.kt q131 rfl) rfl) rfl; have q159 := D16.kt (D15.kt (D14.kt q132 rfl) rfl) rfl; have q160 := D16.kt q150 rfl; have o61 := Own.k0 o58 D16.stp; have o62 := Own.k0 o59 D16.stp; have o63 := OwnM.k0 o60 D16.stp; refine tn ?_
      refine cond_t (D16.dn 2 rfl rfl) (fun c4 => ?_) (fun c4 => ?_)
      ·
       have hm : (byL (L2.getD i []) (ltr gens j)) ∈ L2 := (by have h_ := hsn2 _ hf4 hf5; rw [c4] at h_; exact of_decide_eq_true h_.symm)
       refine wp_exit (tx (bx (tn ?_)))
       refine gI a26 s21 ok23 (gM q154 (gT (Ty.nat (j + 1)) rfl (fun A B E G H d0 => rP ((y_add (ed d0 rfl rfl rfl) rfl (w64 (by omega) (by omega))).mono (fun τ _ h => cvi (σ := τ) (by first | omega | exact (Int.natCast_mul _ _).symm) h))) (gB 0 (gE ok23 fun a27 s22 ok24 D17 => ?_)))); have o64 := Own.k0 o61 D17.stp; have o65 := Own.k0 o62 D17.stp; have o66 := OwnM.k0 o63 D17.stp
       exact tn ⟨2 * gens.length - ((j+1)), by omega, s22, (j+1), L2, W2, f2, x8_1, x9_1, rfl, (F24.step0 D17.stp), ok24, (cvi (by (first | rfl | omega | (simp_all; done) | (simp_all; omega))) (D17.dn 2 rfl rfl)), (D17.kt q155 rfl), (D17.kt q156 rfl), (D17.kt q157 rfl), (D17.kt q158 rfl), (D17.kt q159 rfl), (D17.kt q160 rfl), o64, o65, o66, by omega, hil, hl2, hC2.old hm, hsn2, hwb2, rfl⟩
      ·
       have hm : (byL (L2.getD i []) (ltr gens j)) ∉ L2 := (by have h_ := hsn2 _ hf4 hf5; rw [c4] at h_; exact of_decide_eq_false h_.symm); have hC5 := hC2.new (w := (W2.getD i [] ++ [ltrN j])) hn hg hil (by omega) hm; have hsn5 := hsn2.put hf4 hf5; have hwi := hwb2 i (by omega)
       refine wp_skip (tn (wp_seq ?_))
       refine gI a26 s21 ok23 (gM q160 (gM (D16.kt q152 rfl) (gE2 ok23 fun a28 s23 ok25 D18 => ?_))); have o67 := Own.k0 o61 D18.stp; have o68 := Own.k0 o62 D18.stp; have o69 := OwnM.k0 o63 D18.stp
       have q180 : At (Ty.val x3) s23 a28 (.tmp 62) := D18.done 0 (by decide)
       refine tailL0 (L := [22]) (R := (fun _ τ => OwnM Ty.bool kI τ 22 x3 (fun x_ => if x_ = (((rankL ((byL ((L2.getD i [])) ((ltr gens j))))) : Nat) : Int) then some true else f2 x_))) rfl rfl (YldM.toL (m_mapset (i := (((rankL ((byL ((L2.getD i [])) ((ltr gens j))))) : Nat) : Int)) Try.underlying35 (keyInt Try.underlying3) (by decide) o69 q180 (D18.dn 1 (by decide) rfl rfl) rfl)) (fun v2 s24 hs6 r6 => ?_)
       have F27 := (F24.step0 D18.stp).stepL hs6 (by decide); have q182 := kpL hs6 (by decide) rfl (D18.kt (D16.kt (D15.kt (D14.kt q126 rfl) rfl) rfl) rfl); have q183 := kpL hs6 (by decide) rfl (D18.kt q154 rfl); have q184 := kpL hs6 (by decide) rfl (D18.kt q155 rfl); have q185 := kpL hs6 (by decide) rfl (D18.kt q156 rfl); have q186 := kpL hs6 (by decide) rfl (D18.kt q157 rfl); have q187 := kpL hs6 (by decide) rfl (D18.kt q158 rfl); have q188 := kpL hs6 (by decide) rfl (D18.kt q159 rfl); have q189 := kpL hs6 (by decide) rfl (D18.kt q160 rfl); have q190 := kpL hs6 (by decide) rfl (D18.kt (D16.kt (D15.kt q142 rfl) rfl) rfl); have o71 := Own.keepL o67 hs6 (by decide) (by decide); have o72 := Own.keepL o68 hs6 (by decide) (by decide)
       have o70 : OwnM Ty.bool kI s24 22 x3 (fun x_ => if x_ = (((rankL ((byL ((L2.getD i [])) ((ltr gens j))))) : Nat) : Int) then some true else f2 x_) := r6
       clear r6; refine wpList_nil (tn (wp_seq ?_))
       refine gI a28 s24 ok25 (gM q184 (gM q190 (gT (Ty.sl 1 1 [(Ty.lst Ty.int (byL ((L2.getD i [])) ((ltr gens j))))]) rfl (fun A B E G H d0 => rP (y_build1o Try.underlying24 Try.inf22 rfl (one_sl) (ed d0 rfl rfl rfl))) (gE2 ok25 fun a29 s25 ok26 D19 => ?_)))); have o73 := Own.k0 o71 D19.stp; have o74 := Own.k0 o72 D19.stp; have o75 := OwnM.k0 o70 D19.stp
       have q200 : At (Ty.val x8_1) s25 a29 (.tmp 64) := D19.done 0 (by decide)
       have q201 := D19.dn 2 (by decide) rfl rfl
       have b2 := sl_le q201
       refine tL ok26 (YldM.toL (m_append Try.underlying24 Try.inf22 (by decide) rfl (by decide) (al (R := (Pr.own 20 22 1 (List.length L2) (List.map Ty.ints L2))) q200 o73) q201 (by intro U hU; simp at hU; subst hU; exact one_sl) (by omega) (by omega))) fun a30 s26 hs7 ok27 r7 sm5 => ?_
       have F29 := (F27.step0 D19.stp).stepL hs7 (by decide); have q202 := kpL hs7 (by decide) (sm5 14 (by decide)) (D19.kt q182 rfl); have q203 := kpL hs7 (by decide) (sm5 12 (by decide)) (D19.kt q183 rfl); have q204 := kpL hs7 (by decide) (sm5 8 (by decide)) (D19.kt q184 rfl); have q205 := kpL hs7 (by decide) (sm5 9 (by decide)) (D19.kt q185 rfl); have q206 := kpL hs7 (by decide) (sm5 11 (by decide)) (D19.kt q186 rfl); have q207 := kpL hs7 (by decide) (sm5 1 (by decide)) (D19.kt q187 rfl); have q208 := kpL hs7 (by decide) (sm5 2 (by decide)) (D19.kt q188 rfl); have q209 := kpL hs7 (by decide) (sm5 10 (by decide)) (D19.kt q189 rfl); have o77 := Own.keepL o74 hs7 (by decide) (by decide); have o78 := OwnM.keepL o75 hs7 (by decide) (by decide)
       obtain ⟨x4, hx4⟩ : ∃ x, a30.eval (.tmp 67) = x := ⟨_, rfl⟩
       have q210 : At (Ty.val x4) s26 a30 (.tmp 67) := hx4
       have o76 := al2 (R := (Pr.own 20 22 1 (List.length (L2 ++ [(byL ((L2.getD i [])) ((ltr gens j)))])) (List.map Ty.ints (L2 ++ [(byL ((L2.getD i [])) ((ltr gens j)))])))) hx4 (cvo (by simp) (by first | (rw [List.map_append]; rfl) | simp) r7)
       clear r7
       refine tL ok27 (Yld.toL (y_as q210)) fun a31 s27 hs8 ok28 r8 sm6 => ?_
       have F30 := F29.stepL hs8 (by decide); have q211 := kpL hs8 (by decide) (sm6 14 (by decide)) q202; have q212 := kpL hs8 (by decide) (sm6 12 (by decide)) q203; have q213 := kpL hs8 (by decide) (sm6 9 (by decide)) q205; have q214 := kpL hs8 (by decide) (sm6 11 (by decide)) q206; have q215 := kpL hs8 (by decide) (sm6 1 (by decide)) q207; have q216 := kpL hs8 (by decide) (sm6 2 (by decide)) q208; have q217 := kpL hs8 (by decide) (sm6 10 (by decide)) q209; have o79 := Own.keepL o77 hs8 (by decide) (by decide); have o80 := OwnM.keepL o78 hs8 (by decide) (by decide); have o81 := Own.keepL o76 hs8 (by decide) (by decide)
       have q218 : At (Ty.val x4) s27 a31 (.tmp 8) := r8
       clear r8; refine wpList_nil (tn (wp_seq ?_))
       refine gI a31 s27 ok28 (gM q213 (gR (Pr.own 24 3 1 0 (List.map Ty.int ([] : List Int))) rfl (by intro A B E G H; exact rP ((y_lit0 (k := 24) Try.underlying22 Try.inf3).mono (fun _ _ h => cvo (by simp) (by simp) h))) (gM q213 (gM q214 (gT (Ty.val (cellPtr x9_1 i)) rfl (fun A B E G H d0 d1 => rP (own_index1 (i := ((i : Nat) : Int)) Try.underlying24 Try.inf22 (Own.k0 o79 E) (ed d0 rfl rfl rfl) (ed d1 rfl rfl rfl) (by omega) (by omega))) (gS rfl (fun A B E G H d0 => rP (own_load Try.underlying22 rfl (Own.k0 o79 E) (ed d0 rfl rfl rfl) (lst_get Ty.ints W2 [] i (by omega)))) (gE2 ok28 fun a32 s28 ok29 D20 => ?_))))))); have o82 := Own.k0 o79 D20.stp; have o83 := OwnM.k0 o80 D20.stp; have o84 := Own.k0 o81 D20.stp
       have q227 : At (Ty.val x9_1) s28 a32 (.tmp 68) := D20.done 0 (by decide)
       obtain ⟨x5, hx5⟩ : ∃ x, a32.eval (.tmp 69) = x := ⟨_, rfl⟩
       have q228 : At (Ty.val x5) s28 a32 (.tmp 69) := hx5
       have o85 := al2 (R := (Pr.own 24 3 1 0 (List.map Ty.int ([] : List Int)))) hx5 (D20.done 1 (by decide))
       have q229 := D20.dn 5 (by decide) rfl rfl
       have b3 := sl_le q229
       refine tL ok29 (YldM.toL (m_append Try.underlying22 Try.inf3 (by decide) rfl (by decide) (al (R := (Pr.own 24 3 1 0 (List.map Ty.int ([] : List Int)))) q228 o85) q229 (one_map (fun _ => one_val rfl)) (by omega) (by omega))) fun a33 s29 hs9 ok30 r9 sm7 => ?_
       have F32 := (F30.step0 D20.stp).stepL hs9 (by decide); have q230 := kpL hs9 (by decide) (sm7 14 (by decide)) (D20.kt q211 rfl); have q231 := kpL hs9 (by decide) (sm7 12 (by decide)) (D20.kt q212 rfl); have q232 := kpL hs9 (by decide) (sm7 9 (by decide)) (D20.kt q213 rfl); have q233 := kpL hs9 (by decide) (sm7 11 (by decide)) (D20.kt q214 rfl); have q234 := kpL hs9 (by decide) (sm7 1 (by decide)) (D20.kt q215 rfl); have q235 := kpL hs9 (by decide) (sm7 2 (by decide)) (D20.kt q216 rfl); have q236 := kpL hs9 (by decide) (sm7 10 (by decide)) (D20.kt q217 rfl); have q237 := kpL hs9 (by decide) (sm7 8 (by decide)) (D20.kt q218 rfl); have q238 := kpL hs9 (by decide) (sm7 68 (by decide)) q227; have o87 := Own.keepL o82 hs9 (by decide) (by decide); have o88 := OwnM.keepL o83 hs9 (by decide) (by decide); have o89 := Own.keepL o84 hs9 (by decide) (by decide)
       obtain ⟨x6, hx6⟩ : ∃ x, a33.eval (.tmp 74) = x := ⟨_, rfl⟩
       have q239 : At (Ty.val x6) s29 a33 (.tmp 74) := hx6
       have o86 := al2 (R := (Pr.own 24 3 1 (List.length (W2.getD i [])) (List.map Ty.int (W2.getD i [])))) hx6 (cvo (by simp) (by first | (rw [List.map_append]; rfl) | simp) r9)
       clear r9
       refine tL ok30 (Yld.toL (y_mv q230)) fun a34 s30 hs10 ok31 r10 sm8 => ?_
       have F33 := F32.stepL hs10 (by decide); have q240 := kpL hs10 (by decide) (sm8 12 (by decide)) q231; have q241 := kpL hs10 (by decide) (sm8 9 (by decide)) q232; have q242 := kpL hs10 (by decide) (sm8 11 (by decide)) q233; have q243 := kpL hs10 (by decide) (sm8 1 (by decide)) q234; have q244 := kpL hs10 (by decide) (sm8 2 (by decide)) q235; have q245 := kpL hs10 (by decide) (sm8 10 (by decide)) q236; have q246 := kpL hs10 (by decide) (sm8 8 (by decide)) q237; have q247 := kpL hs10 (by decide) (sm8 68 (by decide)) q238; have q248 := kpL hs10 (by decide) (sm8 74 (by decide)) q239; have o90 := Own.keepL o87 hs10 (by decide) (by decide); have o91 := OwnM.keepL o88 hs10 (by decide) (by decide); have o92 := Own.keepL o89 hs10 (by decide) (by decide); have o93 := Own.keepL o86 hs10 (by decide) (by decide)
       have q249 : At (Ty.int (ltrN j)) s30 a34 (.tmp 75) := r10
       clear r10
       refine tL (R := (fun v τ => Pr.has (Ty.pr (Ty.sl 1 1 [(Ty.int (ltrN j))])) τ v)) ok31 (Yld.toL (y_build1o Try.underlying22 Try.inf3 rfl (one_val rfl) q249)) fun a35 s31 hs11 ok32 r11 sm9 => ?_
       have F34 := F33.stepL hs11 (by decide); have q250 := kpL hs11 (by decide) (sm9 12 (by decide)) q240; have q251 := kpL hs11 (by decide) (sm9 9 (by decide)) q241; have q252 := kpL hs11 (by decide) (sm9 11 (by decide)) q242; have q253 := kpL hs11 (by decide) (sm9 1 (by decide)) q243; have q254 := kpL hs11 (by decide) (sm9 2 (by decide)) q244; have q255 := kpL hs11 (by decide) (sm9 10 (by decide)) q245; have q256 := kpL hs11 (by decide) (sm9 8 (by decide)) q246; have q257 := kpL hs11 (by decide) (sm9 68 (by decide)) q247; have q258 := kpL hs11 (by decide) (sm9 74 (by decide)) q248; have o94 := Own.keepL o90 hs11 (by decide) (by decide); have o95 := OwnM.keepL o91 hs11 (by decide) (by decide); have o96 := Own.keepL o92 hs11 (by decide) (by decide); have o97 := Own.keepL o93 hs11 (by decide) (by decide)
       have q259 : At (Ty.sl 1 1 [(Ty.int (ltrN j))]) s31 a35 (.tmp 76) := r11
       clear r11
       refine tL ok32 (YldM.toL (m_append Try.underlying22 Try.inf3 (by decide) rfl (by decide) (al (R := (Pr.own 24 3 1 (List.length (W2.getD i [])) (List.map Ty.int (W2.getD i [])))) q258 o97) q259 (by intro U hU; simp at hU; subst hU; exact one_val rfl) (by omega) (by omega))) fun a36 s32 hs12 ok33 r12 sm10 => ?_
       have F35 := F34.stepL hs12 (by decide); have q260 := kpL hs12 (by decide) (sm10 12 (by decide)) q250; have q261 := kpL hs12 (by decide) (sm10 9 (by decide)) q251; have q262 := kpL hs12 (by decide) (sm10 11 (by decide)) q252; have q263 := kpL hs12 (by decide) (sm10 1 (by decide)) q253; have q264 := kpL hs12 (by decide) (sm10 2 (by decide)) q254; have q265 := kpL hs12 (by decide) (sm10 10 (by decide)) q255; have q266 := kpL hs12 (by decide) (sm10 8 (by decide)) q256; have q267 := kpL hs12 (by decide) (sm10 68 (by decide)) q257; have o99 := Own.keepL o94 hs12 (by decide) (by decide); have o100 := OwnM.keepL o95 hs12 (by decide) (by decide); have o101 := Own.keepL o96 hs12 (by decide) (by decide)
       obtain ⟨x7, hx7⟩ : ∃ x, a36.eval (.tmp 77) = x := ⟨_, rfl⟩
       have q268 : At (Ty.val x7) s32 a36 (.tmp 77) := hx7
       have o98 := al2 (R := (Pr.own 24 3 1 (List.length ((W2.getD i []) ++ [(ltrN j)])) (List.map Ty.int ((W2.getD i []) ++ [(ltrN j)])))) hx7 (cvo (by simp) (by first | (rw [List.map_append]; rfl) | simp) r12)
       clear r12
       obtain ⟨t7, e1, h1, q269⟩ := Own.seal o98 (by decide)
       rw [← e1]
       have F36 := F35.step h1 (by decide); have o102 := Own.keepL o99 (h1.toL (L := [24]) (by simp)) (by decide) (by decide); have o103 := OwnM.keepL o100 (h1.toL (L := [24]) (by simp)) (by decide) (by decide); have o104 := Own.keepL o101 (h1.toL (L := [24]) (by simp)) (by decide) (by decide); have q270 := Ty.up (Ty.nat j) (h1.le (by decide)) q260; have q271 := Ty.up (Ty.val x9_1) (h1.le (by decide)) q261; have q272 := Ty.up (Ty.nat i) (h1.le (by decide)) q262; have q273 := Ty.up (Ty.lst Ty.ints gens) (h1.le (by decide)) q263; have q274 := Ty.up (Ty.nat most) (h1.le (by decide)) q264; have q275 := Ty.up (Ty.val x3) (h1.le (by decide)) q265; have q276 := Ty.up (Ty.val x4) (h1.le (by decide)) q266; have q277 := Ty.up (Ty.val x9_1) (h1.le (by decide)) q267
       have q278 : At (Ty.lst Ty.int ((W2.getD i []) ++ [(ltrN j)])) t7 a36 (.tmp 77) := by have e : a36.eval (.tmp 77) = x7 := q268; show Ty.has _ _ _; rw [e]; exact q269
       refine tL (R := (fun v τ => Pr.has (Ty.pr (Ty.sl 1 1 [(Ty.lst Ty.int ((W2.getD i []) ++ [(ltrN j)]))])) τ v)) ok33 (Yld.toL (y_build1o Try.underlying24 Try.inf22 rfl (one_sl) q278)) fun a37 s33 hs13 ok34 r13 sm11 => ?_
       have F37 := F36.stepL hs13 (by decide); have q279 := kpL hs13 (by decide) (sm11 12 (by decide)) q270; have q280 := kpL hs13 (by decide) (sm11 9 (by decide)) q271; have q281 := kpL hs13 (by decide) (sm11 11 (by decide)) q272; have q282 := kpL hs13 (by decide) (sm11 1 (by decide)) q273; have q283 := kpL hs13 (by decide) (sm11 2 (by decide)) q274; have q284 := kpL hs13 (by decide) (sm11 10 (by decide)) q275; have q285 := kpL hs13 (by decide) (sm11 8 (by decide)) q276; have q286 := kpL hs13 (by decide) (sm11 68 (by decide)) q277; have o105 := Own.keepL o102 hs13 (by decide) (by decide); have o106 := OwnM.keepL o103 hs13 (by decide) (by decide); have o107 := Own.keepL o104 hs13 (by decide) (by decide)
       have q287 : At (Ty.sl 1 1 [(Ty.lst Ty.int ((W2.getD i []) ++ [(ltrN j)]))]) s33 a37 (.tmp 78) := r13
       clear r13
       refine tL ok34 (YldM.toL (m_append Try.underlying24 Try.inf22 (by decide) rfl (by decide) (al (R := (Pr.own 21 22 1 (List.length W2) (List.map Ty.ints W2))) q286 o105) q287 (by intro U hU; simp at hU; subst hU; exact one_sl) (by omega) (by omega))) fun a38 s34 hs14 ok35 r14 sm12 => ?_
       have F38 := F37.stepL hs14 (by decide); have q288 := kpL hs14 (by decide) (sm12 12 (by decide)) q279; have q289 := kpL hs14 (by decide) (sm12 9 (by decide)) q280; have q290 := kpL hs14 (by decide) (sm12 11 (by decide)) q281; have q291 := kpL hs14 (by decide) (sm12 1 (by decide)) q282; have q292 := kpL hs14 (by decide) (sm12 2 (by decide)) q283; have q293 := kpL hs14 (by decide) (sm12 10 (by decide)) q284; have q294 := kpL hs14 (by decide) (sm12 8 (by decide)) q285; have o109 := OwnM.keepL o106 hs14 (by decide) (by decide); have o110 := Own.keepL o107 hs14 (by decide) (by decide)
       obtain ⟨x8, hx8⟩ : ∃ x, a38.eval (.tmp 79) = x := ⟨_, rfl⟩
       have q295 : At (Ty.val x8) s34 a38 (.tmp 79) := hx8
       have o108 := al2 (R := (Pr.own 21 22 1 (List.length (W2 ++ [((W2.getD i []) ++ [(ltrN j)])])) (List.map Ty.ints (W2 ++ [((W2.getD i []) ++ [(ltrN j)])])))) hx8 (cvo (by simp) (by first | (rw [List.map_append]; rfl) | simp) r14)
       clear r14
       refine tL ok35 (Yld.toL (y_as q295)) fun a39 s35 hs15 ok36 r15 sm13 => ?_
       have F39 := F38.stepL hs15 (by decide); have q296 := kpL hs15 (by decide) (sm13 12 (by decide)) q288; have q297 := kpL hs15 (by decide) (sm13 11 (by decide)) q290; have q298 := kpL hs15 (by decide) (sm13 1 (by decide)) q291; have q299 := kpL hs15 (by decide) (sm13 2 (by decide)) q292; have q300 := kpL hs15 (by decide) (sm13 10 (by decide)) q293; have q301 := kpL hs15 (by decide) (sm13 8 (by decide)) q294; have o111 := OwnM.keepL o109 hs15 (by decide) (by decide); have o112 := Own.keepL o110 hs15 (by decide) (by decide); have o113 := Own.keepL o108 hs15 (by decide) (by decide)
       have q302 : At (Ty.val x8) s35 a39 (.tmp 9) := r15
       clear r15; refine wpList_nil (tn (wp_seq ?_))
       refine gI a39 s35 ok36 (gM q301 (gT (Ty.nat (List.length (L2 ++ [(byL ((L2.getD i [])) ((ltr gens j)))]))) rfl (fun A B E G H d0 => rP (own_len Try.underlying24 (al (R := (Pr.own 20 22 1 (List.length (L2 ++ [(byL ((L2.getD i [])) ((ltr gens j)))])) (List.map Ty.ints (L2 ++ [(byL ((L2.getD i [])) ((ltr gens j)))])))) (ed d0 rfl rfl rfl) (Own.k0 o112 E)))) (gM q299 (gS rfl (fun A B E G H d0 d1 => rP (y_gtr (ed d0 rfl rfl rfl) (ed d1 rfl rfl rfl))) (gE ok36 fun a40 s36 ok37 D21 => ?_))))); have F40 := F39.step0 D21.stp; have o114 := OwnM.k0 o111 D21.stp; have o115 := Own.k0 o112 D21.stp; have o116 := Own.k0 o113 D21.stp; refine tn ?_
       refine cond_p (p := (((most : Nat) : Int) < (((List.length (L2 ++ [(byL ((L2.getD i [])) ((ltr gens j)))])) : Nat) : Int))) (D21.dn 3 rfl rfl) (fun c5 => ?_) (fun c5 => ?_)
       ·
        refine wp_seq ?_
        refine gI a40 s36 ok37 (gC (Ty.val (Value.slice none 0 0)) (gC (Ty.val (Value.slice none 0 0)) (gE ok37 fun a41 s37 ok38 D22 => ?_))); have o117 := OwnM.k0 o114 D22.stp; have o118 := Own.k0 o115 D22.stp; have o119 := Own.k0 o116 D22.stp; refine tn (wp_ret (br (tr (tr (br (br (tr (tr (br (tr ?_))))))))))
        exact retL2 rfl ok38 (F40.step0 D22.stp) ⟨([] : List (List Int)), ([] : List (List Int)), (hasT2 (nil_lst (by (first | rfl | omega | (simp_all; done) | (simp_all; omega))) (D22.dn 0 rfl rfl)) (nil_lst (by (first | rfl | omega | (simp_all; done) | (simp_all; omega))) (D22.dn 1 rfl rfl))), (by exact ClI.many hC5 (by omega))⟩
       ·
        refine wp_skip (bn (tn ?_))
        refine gI a40 s36 ok37 (gM (D21.kt q296 rfl) (gT (Ty.nat (j + 1)) rfl (fun A B E G H d0 => rP ((y_add (ed d0 rfl rfl rfl) rfl (w64 (by omega) (by omega))).mono (fun τ _ h => cvi (σ := τ) (by first | omega | exact (Int.natCast_mul _ _).symm) h))) (gB 0 (gE ok37 fun a42 s38 ok39 D23 => ?_)))); have o120 := OwnM.k0 o114 D23.stp; have o121 := Own.k0 o115 D23.stp; have o122 := Own.k0 o116 D23.stp
        exact tn ⟨2 * gens.length - ((j+1)), by omega, s38, (j+1), (L2 ++ [(byL (L2.getD i []) (ltr gens j))]), (W2 ++ [(W2.getD i [] ++ [ltrN j])]), (fun p => if p = ((rankL (byL (L2.getD i []) (ltr gens j)) : Nat) : Int) then some true else f2 p), x4, x8, rfl, (F40.step0 D23.stp), ok39, (cvi (by (first | rfl | omega | (simp_all; done) | (simp_all; omega))) (D23.dn 2 rfl rfl)), (D23.kt (D21.kt q301 rfl) rfl), (D23.kt (D21.kt q302 rfl) rfl), (D23.kt (D21.kt q297 rfl) rfl), (D23.kt (D21.kt q298 rfl) rfl), (D23.kt (D21.kt q299 rfl) rfl), (D23.kt (D21.kt q300 rfl) rfl), (cvo (by (simp)) (by (simp)) o121), (cvo (by (simp)) (by (simp)) o122), (cvm (by (rfl)) o120), by omega, by (rw [List.length_append]; omega), by omega, hC5, hsn5, hwb2.new (by omega), rfl⟩
    ·
     have ej : j = 2 * gens.length := (by omega); have hC4 := (ej ▸ hC2 : ClI n gens L2 W2 i (2 * gens.length)).next
     refine wp_exit (tx (tx (bx (bn (tn ?_)))))
     refine gI a16 s13 ok14 (gM q75 (gT (Ty.nat (i + 1)) rfl (fun A B E G H d0 => rP ((y_add (ed d0 rfl rfl rfl) rfl (w64 (by omega) (by omega))).mono (fun τ _ h => cvi (σ := τ) (by first | omega | exact (Int.natCast_mul _ _).symm) h))) (gB 0 (gE ok14 fun a43 s39 ok40 D24 => ?_)))); have o123 := Own.k0 o34 D24.stp; have o124 := Own.k0 o35 D24.stp; have o125 := OwnM.k0 o36 D24.stp
     exact tn ⟨most - ((i + 1)), by omega, s39, (i + 1), L2, W2, f2, x8_1, x9_1, rfl, (F15.step0 D24.stp), ok40, (cvi (by (first | rfl | omega | (simp_all; done) | (simp_all; omega))) (D24.dn 2 rfl rfl)), (D24.kt q73 rfl), (D24.kt q74 rfl), (D24.kt q76 rfl), (D24.kt q77 rfl), (D24.kt q78 rfl), (cvo (by (simp)) (by (simp)) o123), (cvo (by (simp)) (by (simp)) o124), (cvm (by (rfl)) o125), by omega, hl2, hC4, hsn2, hwb2, rfl⟩
  ·
   have ei : i = L.length := (by omega); have hC9 : ClosedP n gens most L W := ClI.closed hn hg (ei ▸ hC) hl
   refine wp_exit (tx (tx (bx (tn (wp_seq ?_)))))
   refine gI a12 s11 ok11 (gM q52 (gM q53 (gB 0 (gB 0 (gE ok11 fun a44 s40 ok41 D25 => ?_))))); have o126 := Own.k0 o25 D25.stp; have o127 := Own.k0 o26 D25.stp; have o128 := OwnM.k0 o27 D25.stp
   have q326 : At (Ty.val x8_0) s40 a44 (.tmp 6) := D25.done 2
   have q327 : At (Ty.val x9_0) s40 a44 (.tmp 7) := D25.done 3
   refine tn (wp_ret ?_)
   obtain ⟨t8, e2, h2, q328⟩ := Own.seal o126 (by decide)
   rw [← e2]
   have F45 := (F12.step0 D25.stp).step h2 (by decide); have o129 := Own.keepL o127 (h2.toL (L := [20]) (by simp)) (by decide) (by decide)
   have q329 : At (Ty.lst Ty.ints L) t8 a44 (.tmp 6) := by have e : a44.eval (.tmp 6) = x8_0 := q326; show Ty.has _ _ _; rw [e]; exact q328
   have q330 := Ty.up (Ty.val x9_0) (h2.le (by decide)) q327
   obtain ⟨t9, e3, h3, q331⟩ := Own.seal o129 (by decide)
   rw [← e3]
   have F46 := F45.step h3 (by decide); have q332 := Ty.up (Ty.lst Ty.ints L) (h3.le (by decide)) q329
   have q333 : At (Ty.lst Ty.ints W) t9 a44 (.tmp 7) := by have e : a44.eval (.tmp 7) = x9_0 := q330; show Ty.has _ _ _; rw [e]; exact q331
   exact retL2 rfl ok41 F46 ⟨L, W, (hasT2 (cvt (by (first | rfl | omega | (simp_all; done) | (simp_all; omega))) q332) q333), (by exact hC9)⟩


end Go.Proofs.Ytkjifbgofckfeaa
