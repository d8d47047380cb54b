/- The functions that the law CosetSays reaches, each by its contract. Part 10. -/
import Derived.Test.YtkjifbgofckfeaaCosetSaysW9
namespace Go.Proofs.Ytkjifbgofckfeaa
open Go.KL

set_option maxHeartbeats 4000000 in
set_option maxRecDepth 100000 in
theorem cSaysC_fn (n : Nat) (G : List (List Int)) (S : List (List Int)) (r : List Int) (σ : GW)  (v0 v1 v2 v3 : Value) (hv0 : Ty.has (Ty.nat n) σ v0) (hv1 : Ty.has (Ty.lst Ty.ints G) σ v1) (hv2 : Ty.has (Ty.lst Ty.ints S) σ v2) (hv3 : Ty.has (Ty.lst Ty.int r) σ v3)  (hok : mkC (n : Int) G S = 0) :
    FnC Try.prog 6 #[v0, v1, v2, v3] σ (Ty.bool true) := by
 obtain ⟨hG0, hS0, hsub, hl1, hl2⟩ := mkC_ok hok
 obtain ⟨hn, hGl, hG⟩ := may_nat hG0
 obtain ⟨_, hSl, hS⟩ := may_nat hS0
 have hsb := fun S_ => szTo_bd (n := n) (S := S_) (k := n) hn.2
 have hsG := hsb (fun y => y ∈ G)
 have hsS := hsb (fun y => y ∈ S)
 have hpS : 0 < szTo n (fun y => y ∈ S) n := szTo_pos hn n (Nat.le_refl _)
 have hdv : szTo n (fun y => y ∈ G) n / szTo n (fun y => y ∈ S) n ≤ szTo n (fun y => y ∈ G) n := Nat.div_le_self _ _
 have hGS : ∀ x ∈ G ++ S, RowN n x := (fun x hx => (List.mem_append.1 hx).elim (hG x) (hS x))
 have hGSl : (G ++ S).length ≤ 1000 := (by rw [List.length_append]; omega)
 have hsA := hsb (fun y => y ∈ G ++ S)
 have hszA := (sz_app hn hG hS).2 hsub
 have hmul : szTo n (fun y => y ∈ S) n * szTo n (fun y => y ∈ G) n ≤ 1000 * 8916100448256 := Nat.mul_le_mul hl1 (hsG hn.2)
 have hmd : szTo n (fun y => y ∈ S) n * szTo n (fun y => y ∈ G) n / szTo n (fun y => y ∈ S) n ≤ szTo n (fun y => y ∈ S) n * szTo n (fun y => y ∈ G) n := Nat.div_le_self _ _
 refine fn_intro0 Try.func6 rfl Try.ntmps6 (Nat.le_of_ble_eq_true rfl) (fun s0 a0 hle F0 ok0 hargs => ?_)
 have p0 := pA hle (hargs 0 _ rfl) hv0
 have p1 := pA hle (hargs 1 _ rfl) hv1
 have b1 := sl_le p1
 have p2 := pA hle (hargs 2 _ rfl) hv2
 have b2 := sl_le p2
 have p3 := pA hle (hargs 3 _ rfl) hv3
 have b3 := sl_le p3
 clear hargs; refine wp_seq ?_
 refine gI a0 s0 ok0 (gC (Ty.bool false) (gE ok0 fun a1 s1 ok1 D1 => ?_)); have q1 := D1.kt p0 rfl; have q2 := D1.kt p1 rfl; have q3 := D1.kt p2 rfl; refine tn (wp_seq ?_)
 refine gI a1 s1 ok1 (gM q1 (gM q2 (gM q3 (gE2 ok1 fun a2 s2 ok2 D2 => ?_))))
 refine tL ok2 (y_callL (L := []) [] [(41, 61), (42, 62), (43, 63), (44, 64)] _ rfl (by decide) Try.func33 rfl rfl my3 (cMake_fn (n) (G) (S) _ (GW.low_lend _ (by decide)) _ _ _ (Ty.up _ (GW.le_lend _ _) (D2.dn 0 (by decide) rfl rfl)) (Ty.up _ (GW.le_lend _ _) (D2.dn 1 (by decide) rfl rfl)) (Ty.up _ (GW.le_lend _ _) (D2.dn 2 (by decide) rfl rfl))  (by first | omega | assumption) (by first | omega | assumption) (by first | omega | assumption) (by first | omega | assumption) (by first | omega | assumption) (by first | omega | assumption) (by first | omega | assumption) (by first | omega | assumption))) fun a3 s3 hs1 ok3 r1 sm1 => ?_
 have F3 := ((F0.step0 D1.stp).step0 D2.stp).sl hs1; have q12 := kq hs1 sm1 0 (D2.kt q1 rfl); have q13 := kq hs1 sm1 1 (D2.kt q2 rfl); have q14 := kq hs1 sm1 2 (D2.kt q3 rfl); have q15 := kq hs1 sm1 3 (D2.kt (D1.kt p3 rfl) rfl)
 obtain ⟨t1, ⟨g1, g2, g3, g4, g5, g6, g7, x1, x2, x3, x4, hT1, o1, o2, o3, o4, hp1, hp2, hp3, hp4, hp5, hp6⟩, B1⟩ := r1
 have q16 : At (Ty.tup2 (Ty.val x1) (Ty.int (0 : Int))) s3 a3 (.tmp 31) := Ty.up _ B1.le hT1
 have o5 : OwnP s3 61 x1 [(Ty.val x2), (Ty.val x3), (Ty.lst Ty.ints (g1)), (Ty.val x4)] := OwnP.ren o1 (B1.ren (by decide) rfl)
 have o6 : Own s3 62 22 1 x2 (List.length (g7)) (List.map Ty.ints (g7)) := Own.ren o2 (B1.ren (by decide) rfl)
 have o7 : Own s3 63 22 1 x3 (List.length (g6)) (List.map Ty.ints (g6)) := Own.ren o3 (B1.ren (by decide) rfl)
 have o8 : OwnM Ty.int kI s3 64 x4 (g4) := OwnM.ren o4 (B1.ren (by decide) rfl)
 refine tL ok3 (Yld.toL (y_mv q16)) fun a4 s4 hs2 ok4 r2 sm2 => ?_
 have F4 := F3.sl hs2; have q17 := kq hs2 sm2 0 q12; have q18 := kq hs2 sm2 1 q13; have q19 := kq hs2 sm2 2 q14; have q20 := kq hs2 sm2 3 q15; have o9 := OwnP.kl o5 hs2; have o10 := Own.kl o6 hs2; have o11 := Own.kl o7 hs2; have o12 := OwnM.kl o8 hs2
 have q21 : At (Ty.tup2 (Ty.val x1) (Ty.int (0 : Int))) s4 a4 (.tmp 27) := r2
 clear r2
 refine tL (R := (fun v τ => Pr.has (Ty.pr (Ty.val x1)) τ v)) ok4 (Yld.toL (y_ext2_0 q21)) fun a5 s5 hs3 ok5 r3 sm3 => ?_
 have F5 := F4.sl hs3; have q22 := kq hs3 sm3 0 q17; have q23 := kq hs3 sm3 1 q18; have q24 := kq hs3 sm3 2 q19; have q25 := kq hs3 sm3 3 q20; have q26 := kq hs3 sm3 27 q21; have o13 := OwnP.kl o9 hs3; have o14 := Own.kl o10 hs3; have o15 := Own.kl o11 hs3; have o16 := OwnM.kl o12 hs3
 have q27 : At (Ty.val x1) s5 a5 (.tmp 32) := r3
 clear r3
 refine tL (R := (fun v τ => Pr.has (Ty.pr (Ty.int (0 : Int))) τ v)) ok5 (Yld.toL (y_ext2_1 q26)) fun a6 s6 hs4 ok6 r4 sm4 => ?_
 have F6 := F5.sl hs4; have q28 := kq hs4 sm4 0 q22; have q29 := kq hs4 sm4 1 q23; have q30 := kq hs4 sm4 2 q24; have q31 := kq hs4 sm4 3 q25; have q32 := kq hs4 sm4 32 q27; have o17 := OwnP.kl o13 hs4; have o18 := Own.kl o14 hs4; have o19 := Own.kl o15 hs4; have o20 := OwnM.kl o16 hs4
 have q33 : At (Ty.int (0 : Int)) s6 a6 (.tmp 33) := r4
 clear r4
 refine tL ok6 (Yld.toL (y_as q32)) fun a7 s7 hs5 ok7 r5 sm5 => ?_
 have F7 := F6.sl hs5; have q34 := kq hs5 sm5 0 q28; have q35 := kq hs5 sm5 1 q29; have q36 := kq hs5 sm5 2 q30; have q37 := kq hs5 sm5 3 q31; have q38 := kq hs5 sm5 33 q33; have o21 := OwnP.kl o17 hs5; have o22 := Own.kl o18 hs5; have o23 := Own.kl o19 hs5; have o24 := OwnM.kl o20 hs5
 have q39 : At (Ty.val x1) s7 a7 (.tmp 9) := r5
 clear r5
 refine tL ok7 (Yld.toL (y_as q38)) fun a8 s8 hs6 ok8 r6 sm6 => ?_
 have F8 := F7.sl hs6; have q40 := kq hs6 sm6 0 q34; have q41 := kq hs6 sm6 1 q35; have q42 := kq hs6 sm6 2 q36; have q43 := kq hs6 sm6 3 q37; have q44 := kq hs6 sm6 9 q39; have o25 := OwnP.kl o21 hs6; have o26 := Own.kl o22 hs6; have o27 := Own.kl o23 hs6; have o28 := OwnM.kl o24 hs6
 have q45 : At (Ty.int (0 : Int)) s8 a8 (.tmp 10) := r6
 clear r6; refine wpList_nil (tn (wp_seq ?_))
 refine gI a8 s8 ok8 (gM q40 (gM q41 (gS rfl (fun A B E I J d0 d1 => rP (y_call _ Try.func24 rfl rfl my2 (rGensMay_fn (((n : Nat) : Int)) (G) _ _ _ (cvi (σ := B) (by omega) (ed d0 rfl rfl rfl)) (ed d1 rfl rfl rfl) ))) (gB 0 (gE ok8 fun a9 s9 ok9 D3 => ?_))))); have o29 := OwnP.k0 o25 D3.stp; have o30 := Own.k0 o26 D3.stp; have o31 := Own.k0 o27 D3.stp; have o32 := OwnM.k0 o28 D3.stp; refine tn (wp_seq (wp_seq ?_))
 refine gI a9 s9 ok9 (gM (D3.dn 3 rfl rfl) (gS rfl (fun A B E I J d0 => rP (y_eql (ed d0 rfl rfl rfl) rfl)) (gE ok9 fun a10 s10 ok10 D4 => ?_))); have q53 := D4.kt (D3.kt q40 rfl) rfl; have q55 := D4.kt (D3.kt q42 rfl) rfl; have o33 := OwnP.k0 o29 D4.stp; have o34 := Own.k0 o30 D4.stp; have o35 := Own.k0 o31 D4.stp; have o36 := OwnM.k0 o32 D4.stp; refine tn ?_
 refine cond_p (p := ((gensMay (((n : Nat) : Int)) (G)) = (0 : Int))) (D4.dn 1 rfl rfl) (fun c1 => ?_) (fun c1 => ?_)
 ·
  refine gI a10 s10 ok10 (gM q53 (gM q55 (gS rfl (fun A B E I J d0 d1 => rP (y_call _ Try.func24 rfl rfl my2 (rGensMay_fn (((n : Nat) : Int)) (S) _ _ _ (cvi (σ := B) (by omega) (ed d0 rfl rfl rfl)) (ed d1 rfl rfl rfl) ))) (gB 0 (gE ok10 fun a11 s11 ok11 D5 => ?_))))); have o37 := OwnP.k0 o33 D5.stp; have o38 := Own.k0 o34 D5.stp; have o39 := Own.k0 o35 D5.stp; have o40 := OwnM.k0 o36 D5.stp; refine tn (wp_seq ?_)
  refine gI a11 s11 ok11 (gC (Ty.int (0 : Int)) (gE ok11 fun a12 s12 ok12 D6 => ?_)); have o41 := OwnP.k0 o37 D6.stp; have o42 := Own.k0 o38 D6.stp; have o43 := Own.k0 o39 D6.stp; have o44 := OwnM.k0 o40 D6.stp; refine tn (wp_seq ?_)
  refine gI a12 s12 ok12 (gC (Ty.int (0 : Int)) (gE ok12 fun a13 s13 ok13 D7 => ?_)); have q82 := D7.kt (D6.kt (D5.dn 3 rfl rfl) rfl) rfl; have o45 := OwnP.k0 o41 D7.stp; have o46 := Own.k0 o42 D7.stp; have o47 := Own.k0 o43 D7.stp; have o48 := OwnM.k0 o44 D7.stp; refine tn (wp_seq (wp_seq ?_))
  refine gI a13 s13 ok13 (gM q82 (gS rfl (fun A B E I J d0 => rP (y_eql (ed d0 rfl rfl rfl) rfl)) (gE ok13 fun a14 s14 ok14 D8 => ?_))); have q85 := D8.kt (D7.kt (D6.kt (D5.kt q53 rfl) rfl) rfl) rfl; have q86 := D8.kt (D7.kt (D6.kt (D5.kt (D4.kt (D3.kt q41 rfl) rfl) rfl) rfl) rfl) rfl; have o49 := OwnP.k0 o45 D8.stp; have o50 := Own.k0 o46 D8.stp; have o51 := Own.k0 o47 D8.stp; have o52 := OwnM.k0 o48 D8.stp; refine tn ?_
  refine cond_p (p := ((gensMay (((n : Nat) : Int)) (S)) = (0 : Int))) (D8.dn 1 rfl rfl) (fun c2 => ?_) (fun c2 => ?_)
  ·
   refine wp_seq ?_
   refine gI a14 s14 ok14 (gM q85 (gM q86 (gS rfl (fun A B E I J d0 d1 => rP (y_call _ Try.func20 rfl rfl my2 (rSizes_fn (n) (G) _ _ _ (ed d0 rfl rfl rfl) (ed d1 rfl rfl rfl) (by first | omega | assumption | exact hst1) (by first | omega | assumption | exact hst1) (by first | omega | assumption | exact hst1)))) (gB 0 (gE ok14 fun a15 s15 ok15 D9 => ?_))))); have q95 := D9.kt q85 rfl; have q97 := D9.kt (D8.kt (D7.kt (D6.kt (D5.kt q55 rfl) rfl) rfl) rfl) rfl; have o53 := OwnP.k0 o49 D9.stp; have o54 := Own.k0 o50 D9.stp; have o55 := Own.k0 o51 D9.stp; have o56 := OwnM.k0 o52 D9.stp; refine tn (wp_seq ?_)
   refine gI a15 s15 ok15 (gM q95 (gM q97 (gS rfl (fun A B E I J d0 d1 => rP (y_call _ Try.func20 rfl rfl my2 (rSizes_fn (n) (S) _ _ _ (ed d0 rfl rfl rfl) (ed d1 rfl rfl rfl) (by first | omega | assumption | exact hst1) (by first | omega | assumption | exact hst1) (by first | omega | assumption | exact hst1)))) (gB 0 (gE ok15 fun a16 s16 ok16 D10 => ?_))))); have q103 := D10.kt q95 rfl; have q104 := D10.kt (D9.kt q86 rfl) rfl; have o57 := OwnP.k0 o53 D10.stp; have o58 := Own.k0 o54 D10.stp; have o59 := Own.k0 o55 D10.stp; have o60 := OwnM.k0 o56 D10.stp; refine tn (wp_seq ?_)
   refine gI a16 s16 ok16 (gM q103 (gR (Pr.own 20 22 1 0 (List.map Ty.ints ([] : List (List Int)))) rfl (by intro A B E I J; exact rP ((y_lit0 (k := 20) Try.underlying24 Try.inf22).mono (fun _ _ h => cvo (by simp) (by simp) h))) (gM q104 (gE2 ok16 fun a17 s17 ok17 D11 => ?_)))); have o61 := OwnP.k0 o57 D11.stp; have o62 := Own.k0 o58 D11.stp; have o63 := Own.k0 o59 D11.stp; have o64 := OwnM.k0 o60 D11.stp
   obtain ⟨x5, hx1⟩ : ∃ x, a17.eval (.tmp 51) = x := ⟨_, rfl⟩
   have q122 : At (Ty.val x5) s17 a17 (.tmp 51) := hx1
   have o65 := al2 (R := (Pr.own 20 22 1 0 (List.map Ty.ints ([] : List (List Int))))) hx1 (D11.done 1 (by decide))
   refine tL ok17 (YldM.toL (m_append Try.underlying24 Try.inf22 (by decide) rfl (by decide) (al (R := (Pr.own 20 22 1 0 (List.map Ty.ints ([] : List (List Int))))) q122 o65) (D11.dn 2 (by decide) rfl rfl) (one_map (fun _ => one_sl)) (by omega) (by omega))) fun a18 s18 hs7 ok18 r7 sm7 => ?_
   have F18 := (((((((((F8.step0 D3.stp).step0 D4.stp).step0 D5.stp).step0 D6.stp).step0 D7.stp).step0 D8.stp).step0 D9.stp).step0 D10.stp).step0 D11.stp).sl hs7; have q124 := kq hs7 sm7 0 (D11.kt q103 rfl); have q125 := kq hs7 sm7 1 (D11.kt q104 rfl); have q126 := kq hs7 sm7 2 (D11.kt (D10.kt q97 rfl) rfl); have q127 := kq hs7 sm7 3 (D11.kt (D10.kt (D9.kt (D8.kt (D7.kt (D6.kt (D5.kt (D4.kt (D3.kt q43 rfl) rfl) rfl) rfl) rfl) rfl) rfl) rfl) rfl); have q128 := kq hs7 sm7 9 (D11.kt (D10.kt (D9.kt (D8.kt (D7.kt (D6.kt (D5.kt (D4.kt (D3.kt q44 rfl) rfl) rfl) rfl) rfl) rfl) rfl) rfl) rfl); have q129 := kq hs7 sm7 10 (D11.kt (D10.kt (D9.kt (D8.kt (D7.kt (D6.kt (D5.kt (D4.kt (D3.kt q45 rfl) rfl) rfl) rfl) rfl) rfl) rfl) rfl) rfl); have q130 := kq hs7 sm7 11 (D11.kt (D10.kt (D9.kt (D8.kt q82 rfl) rfl) rfl) rfl); have q131 := kq hs7 sm7 12 (D11.kt (D10.kt (D9.dn 3 rfl rfl) rfl) rfl); have q132 := kq hs7 sm7 13 (D11.kt (D10.dn 3 rfl rfl) rfl); have q133 := kq hs7 sm7 50 (D11.dn 0 (by decide) rfl rfl); have o67 := OwnP.kl o61 hs7; have o68 := Own.kl o62 hs7; have o69 := Own.kl o63 hs7; have o70 := OwnM.kl o64 hs7
   obtain ⟨x6, hx2⟩ : ∃ x, a18.eval (.tmp 53) = x := ⟨_, rfl⟩
   have q134 : At (Ty.val x6) s18 a18 (.tmp 53) := hx2
   have o66 := al2 (R := (Pr.own 20 22 1 (List.length G) (List.map Ty.ints G))) hx2 (cvo (by first | (simp; done) | (simp; omega)) (by first | (rw [List.map_append]; rfl) | simp) r7)
   clear r7
   refine tL ok18 (Yld.toL (y_mv q126)) fun a19 s19 hs8 ok19 r8 sm8 => ?_
   have F19 := F18.sl hs8; have q135 := kq hs8 sm8 0 q124; have q136 := kq hs8 sm8 1 q125; have q137 := kq hs8 sm8 2 q126; have q138 := kq hs8 sm8 3 q127; have q139 := kq hs8 sm8 9 q128; have q140 := kq hs8 sm8 10 q129; have q141 := kq hs8 sm8 11 q130; have q142 := kq hs8 sm8 12 q131; have q143 := kq hs8 sm8 13 q132; have q144 := kq hs8 sm8 50 q133; have q145 := kq hs8 sm8 53 q134; have o71 := OwnP.kl o67 hs8; have o72 := Own.kl o68 hs8; have o73 := Own.kl o69 hs8
   have o74 := OwnM.kl o70 hs8; have o75 := Own.kl o66 hs8
   have q146 : At (Ty.lst Ty.ints S) s19 a19 (.tmp 54) := r8
   clear r8
   refine tL ok19 (YldM.toL (m_append Try.underlying24 Try.inf22 (by decide) rfl (by decide) (al (R := (Pr.own 20 22 1 (List.length G) (List.map Ty.ints G))) q145 o75) q146 (one_map (fun _ => one_sl)) (by omega) (by omega))) fun a20 s20 hs9 ok20 r9 sm9 => ?_
   have F20 := F19.sl hs9; have q147 := kq hs9 sm9 0 q135; have q148 := kq hs9 sm9 1 q136; have q149 := kq hs9 sm9 2 q137; have q150 := kq hs9 sm9 3 q138; have q151 := kq hs9 sm9 9 q139; have q152 := kq hs9 sm9 10 q140; have q153 := kq hs9 sm9 11 q141; have q154 := kq hs9 sm9 12 q142; have q155 := kq hs9 sm9 13 q143; have q156 := kq hs9 sm9 50 q144; have o77 := OwnP.kl o71 hs9; have o78 := Own.kl o72 hs9; have o79 := Own.kl o73 hs9; have o80 := OwnM.kl o74 hs9
   obtain ⟨x7, hx3⟩ : ∃ x, a20.eval (.tmp 55) = x := ⟨_, rfl⟩
   have q157 : At (Ty.val x7) s20 a20 (.tmp 55) := hx3
   have o76 := al2 (R := (Pr.own 20 22 1 (List.length (G ++ S)) (List.map Ty.ints (G ++ S)))) hx3 (cvo (by simp) (by first | (rw [List.map_append]; rfl) | simp) r9)
   clear r9
   obtain ⟨t2, e1, h1, q158⟩ := Own.seal o76 (by decide)
   rw [← e1]
   have F21 := F20.step h1 (by decide); have o81 := OwnP.keepL o77 (h1.toL (L := [20]) (by simp)) (by decide) (by decide); have o82 := Own.keepL o78 (h1.toL (L := [20]) (by simp)) (by decide) (by decide); have o83 := Own.keepL o79 (h1.toL (L := [20]) (by simp)) (by decide) (by decide); have o84 := OwnM.keepL o80 (h1.toL (L := [20]) (by simp)) (by decide) (by decide); have q159 := Ty.up (Ty.nat n) (h1.le (by decide)) q147; have q160 := Ty.up (Ty.lst Ty.ints G) (h1.le (by decide)) q148; have q161 := Ty.up (Ty.lst Ty.ints S) (h1.le (by decide)) q149; have q162 := Ty.up (Ty.lst Ty.int r) (h1.le (by decide)) q150; have q163 := Ty.up (Ty.val x1) (h1.le (by decide)) q151; have q164 := Ty.up (Ty.int (0 : Int)) (h1.le (by decide)) q152; have q165 := Ty.up (Ty.int (gensMay (((n : Nat) : Int)) (S))) (h1.le (by decide)) q153
   have q166 := Ty.up (Ty.nat (szTo n (fun y => y ∈ (G)) n)) (h1.le (by decide)) q154; have q167 := Ty.up (Ty.nat (szTo n (fun y => y ∈ (S)) n)) (h1.le (by decide)) q155; have q168 := Ty.up (Ty.nat n) (h1.le (by decide)) q156
   have q169 : At (Ty.lst Ty.ints (G ++ S)) t2 a20 (.tmp 55) := by have e : a20.eval (.tmp 55) = x7 := q157; show Ty.has _ _ _; rw [e]; exact q158
   refine tL (R := (fun v τ => Pr.has (Ty.pr (Ty.nat (szTo n (fun y => y ∈ ((G ++ S))) n))) τ v)) ok20 (Yld.toL (y_call _ Try.func20 rfl rfl my2 (rSizes_fn (n) ((G ++ S)) _ _ _ q168 q169 (by first | omega | assumption | exact hst1) (by first | omega | assumption | exact hst1) (by first | omega | assumption | exact hst1)))) fun a21 s21 hs10 ok21 r10 sm10 => ?_
   have F22 := F21.sl hs10; have q170 := kq hs10 sm10 0 q159; have q171 := kq hs10 sm10 1 q160; have q172 := kq hs10 sm10 2 q161; have q173 := kq hs10 sm10 3 q162; have q174 := kq hs10 sm10 9 q163; have q175 := kq hs10 sm10 10 q164; have q176 := kq hs10 sm10 11 q165; have q177 := kq hs10 sm10 12 q166; have q178 := kq hs10 sm10 13 q167; have o85 := OwnP.kl o81 hs10; have o86 := Own.kl o82 hs10; have o87 := Own.kl o83 hs10; have o88 := OwnM.kl o84 hs10
   have q179 : At (Ty.nat (szTo n (fun y => y ∈ ((G ++ S))) n)) s21 a21 (.tmp 56) := r10
   clear r10
   refine tL ok21 (Yld.toL (y_mv q177)) fun a22 s22 hs11 ok22 r11 sm11 => ?_
   have F23 := F22.sl hs11; have q180 := kq hs11 sm11 0 q170; have q181 := kq hs11 sm11 1 q171; have q182 := kq hs11 sm11 2 q172; have q183 := kq hs11 sm11 3 q173; have q184 := kq hs11 sm11 9 q174; have q185 := kq hs11 sm11 10 q175; have q186 := kq hs11 sm11 11 q176; have q187 := kq hs11 sm11 12 q177; have q188 := kq hs11 sm11 13 q178; have q189 := kq hs11 sm11 56 q179; have o89 := OwnP.kl o85 hs11; have o90 := Own.kl o86 hs11; have o91 := Own.kl o87 hs11; have o92 := OwnM.kl o88 hs11
   have q190 : At (Ty.nat (szTo n (fun y => y ∈ (G)) n)) s22 a22 (.tmp 57) := r11
   clear r11
   refine tL (R := (fun v τ => Pr.has (Ty.pr (Ty.bool (decide ((((szTo n (fun y => y ∈ ((G ++ S))) n) : Nat) : Int) ≠ (((szTo n (fun y => y ∈ (G)) n) : Nat) : Int))))) τ v)) ok22 (Yld.toL (y_neq q189 q190)) fun a23 s23 hs12 ok23 r12 sm12 => ?_
   have F24 := F23.sl hs12; have q191 := kq hs12 sm12 0 q180; have q192 := kq hs12 sm12 1 q181; have q193 := kq hs12 sm12 2 q182; have q194 := kq hs12 sm12 3 q183; have q195 := kq hs12 sm12 9 q184; have q196 := kq hs12 sm12 10 q185; have q197 := kq hs12 sm12 11 q186; have q198 := kq hs12 sm12 12 q187; have q199 := kq hs12 sm12 13 q188; have o93 := OwnP.kl o89 hs12; have o94 := Own.kl o90 hs12; have o95 := Own.kl o91 hs12; have o96 := OwnM.kl o92 hs12
   have q200 : At (Ty.bool (decide ((((szTo n (fun y => y ∈ ((G ++ S))) n) : Nat) : Int) ≠ (((szTo n (fun y => y ∈ (G)) n) : Nat) : Int)))) s23 a23 (.tmp 58) := r12
   clear r12; refine wpList_nil (tn ?_)
   refine cond_p (p := ((((szTo n (fun y => y ∈ ((G ++ S))) n) : Nat) : Int) ≠ (((szTo n (fun y => y ∈ (G)) n) : Nat) : Int))) q200 (fun c3 => ?_) (fun c3 => ?_)
   ·
    exfalso
    omega
   ·
    refine wp_seq ?_
    refine gI a23 s23 ok23 (gM q199 (gS rfl (fun A B E I J d0 => rP (y_gtr (ed d0 rfl rfl rfl) rfl)) (gS rfl (fun A B E I J d0 => rP (y_move (ed d0 rfl rfl rfl))) (gS rfl (fun A B E I J d0 => gu I (ed d0 rfl rfl rfl) fun hg => y_move (kp (J 12 rfl) E q198)) (gS rfl (fun A B E I J d0 => gu I (ed d0 rfl rfl rfl) fun hg => y_move (kp (J 13 rfl) E q199)) (gT (Ty.grd ((decide ((1000 : Int) < (((szTo n (fun y => y ∈ (S)) n) : Nat) : Int))) = false) (Ty.nat ((szTo n (fun y => y ∈ (G)) n) / (szTo n (fun y => y ∈ (S)) n)))) rfl (fun A B E I J d0 d1 d2 => guf I (ed d2 rfl rfl rfl) fun hg hp => y_quoN ((ed d0 rfl rfl rfl).1 hg) ((ed d1 rfl rfl rfl).1 hg) (by omega) (by omega)) (gS rfl (fun A B E I J d0 d1 => gu I (ed d1 rfl rfl rfl) fun hg => y_gtr ((ed d0 rfl rfl rfl).1 hg) rfl) (gS rfl (fun A B E I J d0 d1 => rP (y_pick_or (ed d0 rfl rfl rfl) rfl (ed d1 rfl rfl rfl))) (gE ok23 fun a24 s24 ok24 D12 => ?_))))))))); have o97 := OwnP.k0 o93 D12.stp; have o98 := Own.k0 o94 D12.stp; have o99 := Own.k0 o95 D12.stp; have o100 := OwnM.k0 o96 D12.stp; refine tn ?_
    refine cond_t (D12.dn 7 rfl rfl) (fun c4 => ?_) (fun c4 => ?_)
    ·
     exfalso
     (simp only [Bool.or_eq_true, decide_eq_true_eq] at c4; omega)
    ·
     obtain ⟨d1, d2⟩ := Bool.or_eq_false_iff.mp c4
     replace d1 := of_decide_eq_false d1
     replace d2 := of_decide_eq_false d2
     refine wp_skip (tn (wp_seq (wp_seq ?_)))
     refine gI a24 s24 ok24 (gM (D12.kt q197 rfl) (gS rfl (fun A B E I J d0 => rP (y_neq (ed d0 rfl rfl rfl) rfl)) (gE ok24 fun a25 s25 ok25 D13 => ?_))); have q215 := D13.kt (D12.kt q195 rfl) rfl; have o101 := OwnP.k0 o97 D13.stp; have o102 := Own.k0 o98 D13.stp; have o103 := Own.k0 o99 D13.stp; have o104 := OwnM.k0 o100 D13.stp; refine tn ?_
     refine cond_p (p := ((gensMay (((n : Nat) : Int)) (S)) ≠ (0 : Int))) (D13.dn 1 rfl rfl) (fun c5 => ?_) (fun c5 => ?_)
     ·
      exfalso
      exact c5 hS0
     ·
      refine wp_skip (tn (wp_seq (wp_seq ?_)))
      refine gI a25 s25 ok25 (gM (D13.kt (D12.kt q196 rfl) rfl) (gT (Ty.bool false) rfl (fun A B E I J d0 => rP ((y_neq (ed d0 rfl rfl rfl) rfl).mono (fun τ _ h => cvb (σ := τ) (by decide) h))) (gS rfl (fun A B E I J d0 => rP (y_move (ed d0 rfl rfl rfl))) (gS rfl (fun A B E I J d0 => gu I (ed d0 rfl rfl rfl) fun hg => y_move (kp (J 9 rfl) E q215)) (gT (Ty.grd (false = false) (Ty.bool false)) rfl (fun A B E I J d0 d1 => gu I (ed d1 rfl rfl rfl) fun hg => y_pnil Try.underlying53 (OwnP.k0 o101 E) ((ed d0 rfl rfl rfl).1 hg) rfl) (gS rfl (fun A B E I J d0 d1 => rP (y_pick_or (ed d0 rfl rfl rfl) rfl (ed d1 rfl rfl rfl))) (gE ok25 fun a26 s26 ok26 D14 => ?_))))))); have q227 := D14.kt (D13.kt (D12.kt q199 rfl) rfl) rfl; have o105 := OwnP.k0 o101 D14.stp; have o106 := Own.k0 o102 D14.stp; have o107 := Own.k0 o103 D14.stp; have o108 := OwnM.k0 o104 D14.stp; refine tn ?_
      refine cond_t (D14.dn 5 rfl rfl) (fun c6 => ?_) (fun c6 => ?_)
      ·
       exfalso
       simp at c6
      ·
       obtain ⟨d3, d4⟩ := Bool.or_eq_false_iff.mp c6
       refine wp_skip (tn (wp_seq (wp_seq ?_)))
       refine gI a26 s26 ok26 (gM q227 (gM (D14.kt (D13.kt (D12.kt q198 rfl) rfl) rfl) (gT (Ty.nat ((szTo n (fun y => y ∈ (S)) n) * (szTo n (fun y => y ∈ (G)) n))) rfl (fun A B E I J d0 d1 => rP ((y_mul (ed d0 rfl rfl rfl) (ed d1 rfl rfl rfl) (w64 (by omega) (by omega))).mono (fun τ _ h => cvi (σ := τ) (by first | omega | exact (Int.natCast_mul _ _).symm) h))) (gM q227 (gT (Ty.nat (((szTo n (fun y => y ∈ (S)) n) * (szTo n (fun y => y ∈ (G)) n)) / (szTo n (fun y => y ∈ (S)) n))) rfl (fun A B E I J d0 d1 => rP (y_quoN (ed d0 rfl rfl rfl) (ed d1 rfl rfl rfl) (by omega) (by omega))) (gS rfl (fun A B E I J d0 => rP (y_gtr (ed d0 rfl rfl rfl) rfl)) (gE ok26 fun a27 s27 ok27 D15 => ?_))))))); have F28 := (((F24.step0 D12.stp).step0 D13.stp).step0 D14.stp).step0 D15.stp; have q229 := D15.kt (D14.kt (D13.kt (D12.kt q191 rfl) rfl) rfl) rfl; have o109 := OwnP.k0 o105 D15.stp; have o110 := Own.k0 o106 D15.stp; have o111 := Own.k0 o107 D15.stp; have o112 := OwnM.k0 o108 D15.stp; refine tn ?_
       refine cond_p (p := ((5040 : Int) < (((((szTo n (fun y => y ∈ (S)) n) * (szTo n (fun y => y ∈ (G)) n)) / (szTo n (fun y => y ∈ (S)) n)) : Nat) : Int))) (D15.dn 5 rfl rfl) (fun c7 => ?_) (fun c7 => ?_)
       ·
        refine wp_seq ?_
        refine gI a27 s27 ok27 (gC (Ty.bool true) (gE ok27 fun a28 s28 ok28 D16 => ?_)); have o113 := OwnP.k0 o109 D16.stp; have o114 := Own.k0 o110 D16.stp; have o115 := Own.k0 o111 D16.stp; have o116 := OwnM.k0 o112 D16.stp; refine tn (wp_ret (tr ?_))
        exact retL1 rfl ok28 (F28.step0 D16.stp) (D16.dn 0 rfl rfl)
       ·
        refine wp_skip (tn (wp_seq ?_))
        refine gI a27 s27 ok27 (gM q229 (gM (D15.kt (D14.kt (D13.kt (D12.kt q193 rfl) rfl) rfl) rfl) (gE2 ok27 fun a29 s29 ok29 D17 => ?_))); have o117 := OwnP.k0 o109 D17.stp; have o118 := Own.k0 o110 D17.stp; have o119 := Own.k0 o111 D17.stp; have o120 := OwnM.k0 o112 D17.stp
        refine tL ok29 (y_callL (L := []) [] [] #[a29.eval (.tmp 89), a29.eval (.tmp 90), a29.eval ((Operand.const (Value.int IntKind.i64 1000)))] rfl (by decide) Try.func19 rfl rfl my3 (rClosed_fn (n) (S) (1000) _ (GW.low_lend _ (by decide)) _ _ _ (Ty.up _ (GW.le_lend _ _) (D17.dn 0 (by decide) rfl rfl)) (Ty.up _ (GW.le_lend _ _) (D17.dn 1 (by decide) rfl rfl)) (Ty.up _ (GW.le_lend _ _) (cvi (σ := s29) (by first | omega | assumption) rfl))  (by first | omega | assumption) (by first | omega | assumption) (by first | omega | assumption) (by first | omega | assumption))) fun a30 s30 hs13 ok30 r13 sm13 => ?_
        have F31 := (F28.step0 D17.stp).sl hs13; have q242 := kq hs13 sm13 0 (D17.kt q229 rfl); have q243 := kq hs13 sm13 1 (D17.kt (D15.kt (D14.kt (D13.kt (D12.kt q192 rfl) rfl) rfl) rfl) rfl); have q244 := kq hs13 sm13 3 (D17.kt (D15.kt (D14.kt (D13.kt (D12.kt q194 rfl) rfl) rfl) rfl) rfl); have q245 := kq hs13 sm13 9 (D17.kt (D15.kt (D14.kt q215 rfl) rfl) rfl); have o121 := OwnP.kl o117 hs13; have o122 := Own.kl o118 hs13; have o123 := Own.kl o119 hs13; have o124 := OwnM.kl o120 hs13
        obtain ⟨t3, ⟨g8, g9, hT2, hp7⟩, B2⟩ := r13
        have q246 : At (Ty.tup2 (Ty.lst Ty.ints (g8)) (Ty.lst Ty.ints (g9))) s30 a30 (.tmp 91) := Ty.up _ B2.le hT2
        refine tL ok30 (Yld.toL (y_mv q246)) fun a31 s31 hs14 ok31 r14 sm14 => ?_
        have F32 := F31.sl hs14; have q247 := kq hs14 sm14 0 q242; have q248 := kq hs14 sm14 1 q243; have q249 := kq hs14 sm14 3 q244; have q250 := kq hs14 sm14 9 q245; have o125 := OwnP.kl o121 hs14; have o126 := Own.kl o122 hs14; have o127 := Own.kl o123 hs14; have o128 := OwnM.kl o124 hs14
        have q251 : At (Ty.tup2 (Ty.lst Ty.ints (g8)) (Ty.lst Ty.ints (g9))) s31 a31 (.tmp 88) := r14
        clear r14
        refine tL (R := (fun v τ => Pr.has (Ty.pr (Ty.lst Ty.ints (g8))) τ v)) ok31 (Yld.toL (y_ext2_0 q251)) fun a32 s32 hs15 ok32 r15 sm15 => ?_
        have F33 := F32.sl hs15; have q252 := kq hs15 sm15 0 q247; have q253 := kq hs15 sm15 1 q248; have q254 := kq hs15 sm15 3 q249; have q255 := kq hs15 sm15 9 q250; have q256 := kq hs15 sm15 88 q251; have o129 := OwnP.kl o125 hs15; have o130 := Own.kl o126 hs15; have o131 := Own.kl o127 hs15; have o132 := OwnM.kl o128 hs15
        have q257 : At (Ty.lst Ty.ints (g8)) s32 a32 (.tmp 92) := r15
        clear r15
        refine tL (R := (fun v τ => Pr.has (Ty.pr (Ty.lst Ty.ints (g9))) τ v)) ok32 (Yld.toL (y_ext2_1 q256)) fun a33 s33 hs16 ok33 r16 sm16 => ?_
        have F34 := F33.sl hs16; have q258 := kq hs16 sm16 0 q252; have q259 := kq hs16 sm16 1 q253; have q260 := kq hs16 sm16 3 q254; have q261 := kq hs16 sm16 9 q255; have q262 := kq hs16 sm16 92 q257; have o133 := OwnP.kl o129 hs16; have o134 := Own.kl o130 hs16; have o135 := Own.kl o131 hs16; have o136 := OwnM.kl o132 hs16
        have q263 : At (Ty.lst Ty.ints (g9)) s33 a33 (.tmp 93) := r16
        clear r16
        refine tL ok33 (Yld.toL (y_as q262)) fun a34 s34 hs17 ok34 r17 sm17 => ?_
        have F35 := F34.sl hs17; have q264 := kq hs17 sm17 0 q258; have q265 := kq hs17 sm17 1 q259; have q266 := kq hs17 sm17 3 q260; have q267 := kq hs17 sm17 9 q261; have q268 := kq hs17 sm17 93 q263; have o137 := OwnP.kl o133 hs17; have o138 := Own.kl o134 hs17; have o139 := Own.kl o135 hs17; have o140 := OwnM.kl o136 hs17
        have q269 : At (Ty.lst Ty.ints (g8)) s34 a34 (.tmp 14) := r17
        clear r17
        refine tL ok34 (Yld.toL (y_as q268)) fun a35 s35 hs18 ok35 r18 sm18 => ?_
        have F36 := F35.sl hs18; have q270 := kq hs18 sm18 0 q264; have q271 := kq hs18 sm18 1 q265; have q272 := kq hs18 sm18 3 q266; have q273 := kq hs18 sm18 9 q267; have q274 := kq hs18 sm18 14 q269; have o141 := OwnP.kl o137 hs18; have o142 := Own.kl o138 hs18; have o143 := Own.kl o139 hs18; have o144 := OwnM.kl o140 hs18
        have q275 : At (Ty.lst Ty.ints (g9)) s35 a35 (.tmp 15) := r18
        clear r18; refine wpList_nil (tn (wp_seq ?_))
        obtain ⟨hDn, hDm, hDl⟩ := ClosedP.full hp1 (by rw [hp1.len]; exact hl1) hp7
        have hP := PrtP.of hn hG hS hsub hp1
        have hPD := hP.congr hDm
        have hH1 := hp1.len
        have hlmD : g2.length < 1001 * g8.length := (by rw [hDl]; exact hp3)
        have hGl2 : G.length ≤ 1000 := (by omega)
        refine gI a35 s35 ok35 (gM q270 (gM q271 (gM q274 (gE2 ok35 fun a36 s36 ok36 D18 => ?_)))); have o145 := OwnP.k0 o141 D18.stp; have o146 := Own.k0 o142 D18.stp; have o147 := Own.k0 o143 D18.stp; have o148 := OwnM.k0 o144 D18.stp
        refine tL ok36 (y_callL (L := []) [] [] _ rfl (by decide) Try.func34 rfl rfl my3 (rParts_fn (n) (G) ((g8)) (g2) _ (GW.low_lend _ (by decide)) _ _ _ (Ty.up _ (GW.le_lend _ _) (D18.dn 0 (by decide) rfl rfl)) (Ty.up _ (GW.le_lend _ _) (D18.dn 1 (by decide) rfl rfl)) (Ty.up _ (GW.le_lend _ _) (D18.dn 2 (by decide) rfl rfl))  (by first | omega | assumption) (by first | omega | assumption) (by first | omega | assumption) (by first | omega | assumption) (by first | omega | assumption) (by first | omega | assumption))) fun a37 s37 hs19 ok37 r19 sm19 => ?_
        have F38 := (F36.step0 D18.stp).sl hs19; have q283 := kq hs19 sm19 0 (D18.kt q270 rfl); have q284 := kq hs19 sm19 3 (D18.kt q272 rfl); have q285 := kq hs19 sm19 9 (D18.kt q273 rfl); have q286 := kq hs19 sm19 14 (D18.kt q274 rfl); have o149 := OwnP.kl o145 hs19; have o150 := Own.kl o146 hs19; have o151 := Own.kl o147 hs19; have o152 := OwnM.kl o148 hs19
        obtain ⟨t4, ⟨g10, g11, g12, g13, hT3, hp8, hp9⟩, B3⟩ := r19
        have q287 : At (Ty.tup3 (Ty.lst Ty.ints (g13)) (Ty.lst Ty.ints (g12)) (Ty.lst Ty.ints (g11))) s37 a37 (.tmp 98) := Ty.up _ B3.le hT3
        refine tL ok37 (Yld.toL (y_mv q287)) fun a38 s38 hs20 ok38 r20 sm20 => ?_
        have F39 := F38.sl hs20; have q288 := kq hs20 sm20 0 q283; have q289 := kq hs20 sm20 3 q284; have q290 := kq hs20 sm20 9 q285; have q291 := kq hs20 sm20 14 q286; have o153 := OwnP.kl o149 hs20; have o154 := Own.kl o150 hs20; have o155 := Own.kl o151 hs20; have o156 := OwnM.kl o152 hs20
        have q292 : At (Ty.tup3 (Ty.lst Ty.ints (g13)) (Ty.lst Ty.ints (g12)) (Ty.lst Ty.ints (g11))) s38 a38 (.tmp 94) := r20
        clear r20
        refine tL (R := (fun v τ => Pr.has (Ty.pr (Ty.lst Ty.ints (g13))) τ v)) ok38 (Yld.toL (y_ext3_0 q292)) fun a39 s39 hs21 ok39 r21 sm21 => ?_
        have F40 := F39.sl hs21; have q293 := kq hs21 sm21 0 q288; have q294 := kq hs21 sm21 3 q289; have q295 := kq hs21 sm21 9 q290; have q296 := kq hs21 sm21 14 q291; have q297 := kq hs21 sm21 94 q292; have o157 := OwnP.kl o153 hs21; have o158 := Own.kl o154 hs21; have o159 := Own.kl o155 hs21; have o160 := OwnM.kl o156 hs21
        have q298 : At (Ty.lst Ty.ints (g13)) s39 a39 (.tmp 99) := r21
        clear r21
        refine tL (R := (fun v τ => Pr.has (Ty.pr (Ty.lst Ty.ints (g12))) τ v)) ok39 (Yld.toL (y_ext3_1 q297)) fun a40 s40 hs22 ok40 r22 sm22 => ?_
        have F41 := F40.sl hs22; have q299 := kq hs22 sm22 0 q293; have q300 := kq hs22 sm22 3 q294; have q301 := kq hs22 sm22 9 q295; have q302 := kq hs22 sm22 14 q296; have q303 := kq hs22 sm22 94 q297; have q304 := kq hs22 sm22 99 q298; have o161 := OwnP.kl o157 hs22; have o162 := Own.kl o158 hs22; have o163 := Own.kl o159 hs22; have o164 := OwnM.kl o160 hs22
        have q305 : At (Ty.lst Ty.ints (g12)) s40 a40 (.tmp 100) := r22
        clear r22
        refine tL (R := (fun v τ => Pr.has (Ty.pr (Ty.lst Ty.ints (g11))) τ v)) ok40 (Yld.toL (y_ext3_2 q303)) fun a41 s41 hs23 ok41 r23 sm23 => ?_
        have F42 := F41.sl hs23; have q306 := kq hs23 sm23 0 q299; have q307 := kq hs23 sm23 3 q300; have q308 := kq hs23 sm23 9 q301; have q309 := kq hs23 sm23 14 q302; have q310 := kq hs23 sm23 99 q304; have q311 := kq hs23 sm23 100 q305; have o165 := OwnP.kl o161 hs23; have o166 := Own.kl o162 hs23; have o167 := Own.kl o163 hs23; have o168 := OwnM.kl o164 hs23
        have q312 : At (Ty.lst Ty.ints (g11)) s41 a41 (.tmp 101) := r23
        clear r23
        refine tL ok41 (Yld.toL (y_as q310)) fun a42 s42 hs24 ok42 r24 sm24 => ?_
        have F43 := F42.sl hs24; have q313 := kq hs24 sm24 0 q306; have q314 := kq hs24 sm24 3 q307; have q315 := kq hs24 sm24 9 q308; have q316 := kq hs24 sm24 14 q309; have q317 := kq hs24 sm24 100 q311; have q318 := kq hs24 sm24 101 q312; have o169 := OwnP.kl o165 hs24; have o170 := Own.kl o166 hs24; have o171 := Own.kl o167 hs24; have o172 := OwnM.kl o168 hs24
        have q319 : At (Ty.lst Ty.ints (g13)) s42 a42 (.tmp 16) := r24
        clear r24
        refine tL ok42 (Yld.toL (y_as q317)) fun a43 s43 hs25 ok43 r25 sm25 => ?_
        have F44 := F43.sl hs25; have q320 := kq hs25 sm25 0 q313; have q321 := kq hs25 sm25 3 q314; have q322 := kq hs25 sm25 9 q315; have q323 := kq hs25 sm25 14 q316; have q324 := kq hs25 sm25 101 q318; have q325 := kq hs25 sm25 16 q319; have o173 := OwnP.kl o169 hs25; have o174 := Own.kl o170 hs25; have o175 := Own.kl o171 hs25; have o176 := OwnM.kl o172 hs25
        have q326 : At (Ty.lst Ty.ints (g12)) s43 a43 (.tmp 17) := r25
        clear r25
        refine tL ok43 (Yld.toL (y_as q324)) fun a44 s44 hs26 ok44 r26 sm26 => ?_
        have F45 := F44.sl hs26; have q327 := kq hs26 sm26 0 q320; have q328 := kq hs26 sm26 3 q321; have q329 := kq hs26 sm26 9 q322; have q330 := kq hs26 sm26 14 q323; have q331 := kq hs26 sm26 16 q325; have q332 := kq hs26 sm26 17 q326; have o177 := OwnP.kl o173 hs26; have o178 := Own.kl o174 hs26; have o179 := Own.kl o175 hs26; have o180 := OwnM.kl o176 hs26
        have q333 : At (Ty.lst Ty.ints (g11)) s44 a44 (.tmp 18) := r26
        clear r26; refine wpList_nil (tn (wp_seq ?_))
        have hSH := hp8.congr hDm
        obtain ⟨hRR, hWW, hNN⟩ := hp4.same hp5 hSH hp9
        obtain ⟨hR, hwl, hnl⟩ := hp4.ok hP
        obtain ⟨hwb, hnb⟩ := hp4.words hP
        have hRl := hR.lim hP hp1.nd hp2 hp3
        have hwm := wordsB_mem hwb
        have hNb : ∀ x ∈ g7, x.length ≤ 1000000 := fun x hx => (by rw [hnb x hx]; omega)
        have hWb : ∀ x ∈ g6, x.length ≤ 1000000 := fun x hx => (by have h_ := hwm x hx; omega)
        obtain ⟨hRD, _, _⟩ := hp8.ok hPD
        have hRDl : g11.length ≤ 1000 := (by rw [← hRR]; exact hRl)
        refine gI a44 s44 ok44 (gM q329 (gE2 ok44 fun a45 s45 ok45 D19 => ?_)); have o181 := OwnP.k0 o177 D19.stp; have o182 := Own.k0 o178 D19.stp; have o183 := Own.k0 o179 D19.stp; have o184 := OwnM.k0 o180 D19.stp
        have q341 : At (Ty.val x1) s45 a45 (.tmp 103) := D19.done 0 (by decide)
        refine tL ok45 (y_callL (L := [41, 42, 43]) [(61, 41), (62, 42), (63, 43)] [(41, 61), (42, 62), (43, 63)] #[a45.eval (.tmp 103)] rfl (by decide) Try.func35 rfl rfl my1 (cAll_fn (x1) (x2) (x3) (x4) ((g1)) ((g7)) ((g6)) _ (GW.low_lend _ (by decide)) _ (Ty.up _ (GW.le_lend _ _) q341) (OwnP.ren (ownp_cell 2 (Ty.lst Ty.ints ((g1))) o181 rfl (fun _ _ h => (cvt (by (first | rfl | omega | (simp_all; done) | (simp_all; omega))) h))) (GW.ren_lend _ _ (by decide) rfl)) (Own.ren (cvo (by (simp)) (by (simp)) o182) (GW.ren_lend _ _ (by decide) rfl)) (Own.ren (cvo (by (simp)) (by (simp)) o183) (GW.ren_lend _ _ (by decide) rfl)) (by first | omega | assumption) (by first | omega | assumption) (by first | omega | assumption) (by first | omega | assumption))) fun a46 s46 hs27 ok46 r27 sm27 => ?_
        have F47 := (F45.step0 D19.stp).sl hs27; have q342 := kq hs27 sm27 0 (D19.kt q327 rfl); have q343 := kq hs27 sm27 3 (D19.kt q328 rfl); have q344 := kq hs27 sm27 9 (D19.kt q329 rfl); have q345 := kq hs27 sm27 14 (D19.kt q330 rfl); have q346 := kq hs27 sm27 16 (D19.kt q331 rfl); have q347 := kq hs27 sm27 17 (D19.kt q332 rfl); have q348 := kq hs27 sm27 18 (D19.kt q333 rfl); have o191 := OwnM.kl o184 hs27
        obtain ⟨t5, ⟨hT4, o185, o186, o187⟩, B4⟩ := r27
        have q349 : At (Ty.tup2 (Ty.lst Ty.ints ((g7))) (Ty.lst Ty.ints ((g6)))) s46 a46 (.tmp 104) := Ty.up _ B4.le hT4
        have o188 : OwnP s46 61 x1 [(Ty.val x2), (Ty.val x3), (Ty.lst Ty.ints ((g1))), (Ty.val x4)] := OwnP.ren o185 (B4.ren (by decide) rfl)
        have o189 : Own s46 62 22 1 x2 (List.length ((g7))) (List.map Ty.ints ((g7))) := Own.ren o186 (B4.ren (by decide) rfl)
        have o190 : Own s46 63 22 1 x3 (List.length ((g6))) (List.map Ty.ints ((g6))) := Own.ren o187 (B4.ren (by decide) rfl)
        refine tL ok46 (Yld.toL (y_mv q349)) fun a47 s47 hs28 ok47 r28 sm28 => ?_
        have F48 := F47.sl hs28; have q350 := kq hs28 sm28 0 q342; have q351 := kq hs28 sm28 3 q343; have q352 := kq hs28 sm28 9 q344; have q353 := kq hs28 sm28 14 q345; have q354 := kq hs28 sm28 16 q346; have q355 := kq hs28 sm28 17 q347; have q356 := kq hs28 sm28 18 q348; have o192 := OwnM.kl o191 hs28; have o193 := OwnP.kl o188 hs28; have o194 := Own.kl o189 hs28; have o195 := Own.kl o190 hs28
        have q357 : At (Ty.tup2 (Ty.lst Ty.ints ((g7))) (Ty.lst Ty.ints ((g6)))) s47 a47 (.tmp 102) := r28
        clear r28
        refine tL (R := (fun v τ => Pr.has (Ty.pr (Ty.lst Ty.ints ((g7)))) τ v)) ok47 (Yld.toL (y_ext2_0 q357)) fun a48 s48 hs29 ok48 r29 sm29 => ?_
        have F49 := F48.sl hs29; have q358 := kq hs29 sm29 0 q350; have q359 := kq hs29 sm29 3 q351; have q360 := kq hs29 sm29 9 q352; have q361 := kq hs29 sm29 14 q353; have q362 := kq hs29 sm29 16 q354; have q363 := kq hs29 sm29 17 q355; have q364 := kq hs29 sm29 18 q356; have q365 := kq hs29 sm29 102 q357; have o196 := OwnM.kl o192 hs29; have o197 := OwnP.kl o193 hs29; have o198 := Own.kl o194 hs29; have o199 := Own.kl o195 hs29
        have q366 : At (Ty.lst Ty.ints ((g7))) s48 a48 (.tmp 105) := r29
        clear r29
        refine tL (R := (fun v τ => Pr.has (Ty.pr (Ty.lst Ty.ints ((g6)))) τ v)) ok48 (Yld.toL (y_ext2_1 q365)) fun a49 s49 hs30 ok49 r30 sm30 => ?_
        have F50 := F49.sl hs30; have q367 := kq hs30 sm30 0 q358; have q368 := kq hs30 sm30 3 q359; have q369 := kq hs30 sm30 9 q360; have q370 := kq hs30 sm30 14 q361; have q371 := kq hs30 sm30 16 q362; have q372 := kq hs30 sm30 17 q363; have q373 := kq hs30 sm30 18 q364; have q374 := kq hs30 sm30 105 q366; have o200 := OwnM.kl o196 hs30; have o201 := OwnP.kl o197 hs30; have o202 := Own.kl o198 hs30; have o203 := Own.kl o199 hs30
        have q375 : At (Ty.lst Ty.ints ((g6))) s49 a49 (.tmp 106) := r30
        clear r30
        refine tL ok49 (Yld.toL (y_as q374)) fun a50 s50 hs31 ok50 r31 sm31 => ?_
        have F51 := F50.sl hs31; have q376 := kq hs31 sm31 0 q367; have q377 := kq hs31 sm31 3 q368; have q378 := kq hs31 sm31 9 q369; have q379 := kq hs31 sm31 14 q370; have q380 := kq hs31 sm31 16 q371; have q381 := kq hs31 sm31 17 q372; have q382 := kq hs31 sm31 18 q373; have q383 := kq hs31 sm31 106 q375; have o204 := OwnM.kl o200 hs31; have o205 := OwnP.kl o201 hs31; have o206 := Own.kl o202 hs31; have o207 := Own.kl o203 hs31
        have q384 : At (Ty.lst Ty.ints ((g7))) s50 a50 (.tmp 19) := r31
        clear r31
        refine tL ok50 (Yld.toL (y_as q383)) fun a51 s51 hs32 ok51 r32 sm32 => ?_
        have F52 := F51.sl hs32; have q385 := kq hs32 sm32 0 q376; have q386 := kq hs32 sm32 3 q377; have q387 := kq hs32 sm32 9 q378; have q388 := kq hs32 sm32 14 q379; have q389 := kq hs32 sm32 16 q380; have q390 := kq hs32 sm32 17 q381; have q391 := kq hs32 sm32 18 q382; have q392 := kq hs32 sm32 19 q384; have o208 := OwnM.kl o204 hs32; have o209 := OwnP.kl o205 hs32; have o210 := Own.kl o206 hs32; have o211 := Own.kl o207 hs32
        have q393 : At (Ty.lst Ty.ints ((g6))) s51 a51 (.tmp 20) := r32
        clear r32; refine wpList_nil (tn (wp_seq (wp_seq ?_)))
        refine gI a51 s51 ok51 (gM q392 (gM q389 (gS rfl (fun A B E I J d0 d1 => rP (y_call _ Try.func29 rfl rfl my2 (rSameAll_fn (((g7))) ((g13)) _ _ _ (ed d0 rfl rfl rfl) (ed d1 rfl rfl rfl) ))) (gS rfl (fun A B E I J d0 => rP (y_not (ed d0 rfl rfl rfl))) (gS rfl (fun A B E I J d0 d1 => rP (y_move (ed d0 rfl rfl rfl))) (gS rfl (fun A B E I J d0 => gu I (ed d0 rfl rfl rfl) fun hg => y_move (kp (J 20 rfl) E q393)) (gS rfl (fun A B E I J d0 => gu I (ed d0 rfl rfl rfl) fun hg => y_move (kp (J 17 rfl) E q390)) (gS rfl (fun A B E I J d0 d1 d2 d3 => gu I (ed d2 rfl rfl rfl) fun hg => y_call _ Try.func29 rfl rfl my2 (rSameAll_fn (((g6))) ((g12)) _ _ _ ((ed d0 rfl rfl rfl).1 hg) ((ed d1 rfl rfl rfl).1 hg) )) (gS rfl (fun A B E I J d0 d1 => gu I (ed d1 rfl rfl rfl) fun hg => y_not ((ed d0 rfl rfl rfl).1 hg)) (gS rfl (fun A B E I J d0 d1 => rP (y_pick_or (ed d0 rfl rfl rfl) rfl (ed d1 rfl rfl rfl))) (gE ok51 fun a52 s52 ok52 D20 => ?_))))))))))); have q395 := D20.kt q386 rfl; have o212 := OwnM.k0 o208 D20.stp; have o213 := OwnP.k0 o209 D20.stp; have o214 := Own.k0 o210 D20.stp; have o215 := Own.k0 o211 D20.stp; refine tn ?_
        refine cond_t (D20.dn 9 rfl rfl) (fun c8 => ?_) (fun c8 => ?_)
        ·
         exfalso
         (rw [hNN, hWW] at c8; simp at c8)
        ·
         obtain ⟨d5, d6⟩ := Bool.or_eq_false_iff.mp c8
         refine wp_skip (tn (wp_seq ?_))
         refine gI a52 s52 ok52 (gM q395 (gS rfl (fun A B E I J d0 => rP (y_call _ Try.func36 rfl rfl my1 (rRowMay_fn (r) _ _ (ed d0 rfl rfl rfl) ))) (gB 0 (gE ok52 fun a53 s53 ok53 D21 => ?_)))); have q401 := D21.kt q395 rfl; have o216 := OwnM.k0 o212 D21.stp; have o217 := OwnP.k0 o213 D21.stp; have o218 := Own.k0 o214 D21.stp; have o219 := Own.k0 o215 D21.stp; have q405 := D21.dn 2 rfl rfl; refine tn (wp_seq (wp_seq ?_))
         refine gI a53 s53 ok53 (gM q405 (gS rfl (fun A B E I J d0 => rP (y_eql (ed d0 rfl rfl rfl) rfl)) (gS rfl (fun A B E I J d0 => rP (y_move (ed d0 rfl rfl rfl))) (gS rfl (fun A B E I J d0 => gu I (ed d0 rfl rfl rfl) fun hg => y_move (kp (J 3 rfl) E q401)) (gS rfl (fun A B E I J d0 d1 => gu I (ed d1 rfl rfl rfl) fun hg => y_len Try.underlying22 ((ed d0 rfl rfl rfl).1 hg)) (gS rfl (fun A B E I J d0 => gu I (ed d0 rfl rfl rfl) fun hg => y_move (kp (J 0 rfl) E (D21.kt (D20.kt q385 rfl) rfl))) (gS rfl (fun A B E I J d0 d1 d2 => gu I (ed d2 rfl rfl rfl) fun hg => y_neq ((ed d0 rfl rfl rfl).1 hg) ((ed d1 rfl rfl rfl).1 hg)) (gS rfl (fun A B E I J d0 d1 => rP (y_pick_and (ed d0 rfl rfl rfl) (ed d1 rfl rfl rfl) rfl)) (gE ok53 fun a54 s54 ok54 D22 => ?_))))))))); have F55 := ((F52.step0 D20.stp).step0 D21.stp).step0 D22.stp; have q406 := D22.kt q401 rfl; have q407 := D22.kt (D21.kt (D20.kt q387 rfl) rfl) rfl; have q408 := D22.kt (D21.kt (D20.kt q388 rfl) rfl) rfl; have q409 := D22.kt (D21.kt (D20.kt q391 rfl) rfl) rfl; have o220 := OwnM.k0 o216 D22.stp; have o221 := OwnP.k0 o217 D22.stp; have o222 := Own.k0 o218 D22.stp; have o223 := Own.k0 o219 D22.stp; refine tn ?_
         refine Go.KL.join_then (Q' := fun a55 w1 => ∃ (t6 : GW), t6.w = w1 ∧ FromL [] s0 t6 ∧ Ok 170 [] a55 ∧ At (Ty.int (fitsE n r)) t6 a55 (.tmp 11) ∧ At (Ty.lst Ty.int r) t6 a55 (.tmp 3) ∧ At (Ty.val x1) t6 a55 (.tmp 9) ∧ At (Ty.lst Ty.ints (g8)) t6 a55 (.tmp 14) ∧ At (Ty.lst Ty.ints (g11)) t6 a55 (.tmp 18) ∧ OwnM Ty.int kI t6 64 x4 (g4) ∧ OwnP t6 61 x1 [(Ty.val x2), (Ty.val x3), (Ty.lst Ty.ints ((g1))), (Ty.val x4)] ∧ Own t6 62 22 1 x2 (List.length ((g7))) (List.map Ty.ints ((g7))) ∧ Own t6 63 22 1 x3 (List.length ((g6))) (List.map Ty.ints ((g6))) ∧ True) ?_ ?_
         ·
          refine cond_t (D22.dn 7 rfl rfl) (fun c9 => ?_) (fun c9 => ?_)
          ·
           obtain ⟨d7, d8⟩ := Bool.and_eq_true_iff.mp c9
           replace d7 := of_decide_eq_true d7
           replace d8 := of_decide_eq_true d8
           refine gI a54 s54 ok54 (gC (Ty.int (1 : Int)) (gE ok54 fun a56 s55 ok55 D23 => ?_)); have o224 := OwnM.k0 o220 D23.stp; have o225 := OwnP.k0 o221 D23.stp; have o226 := Own.k0 o222 D23.stp; have o227 := Own.k0 o223 D23.stp
           exact tn ⟨s55, rfl, (F55.step0 D23.stp), ok55, (cvi (by (simp only [Bool.and_eq_true, decide_eq_true_eq] at c9; unfold fitsE; rw [if_neg (fun h_ => h_ c9.1), if_pos (by omega)])) (D23.dn 0 rfl rfl)), (D23.kt q406 rfl), (D23.kt q407 rfl), (D23.kt q408 rfl), (D23.kt q409 rfl), o224, o225, o226, o227, trivial⟩
          ·
           refine wp_skip ?_
           exact tn ⟨s54, rfl, F55, ok54, (cvi (by (simp only [Bool.and_eq_false_iff, decide_eq_false_iff_not] at c9; unfold fitsE; (by_cases h_ : rowMay r = 0; (rw [if_neg (fun h2_ => h2_ h_), if_neg (by omega)]; exact h_); (rw [if_pos h_])))) (D22.kt q405 rfl)), q406, q407, q408, q409, o220, o221, o222, o223, trivial⟩
         ·
          rintro a57 w2 ⟨t7, rfl, F57, ok56, q417, q418, q419, q420, q421, o228, o229, o230, o231, -⟩
          refine wp_seq ?_
          refine gI a57 t7 ok56 (gC (Ty.int (0 : Int)) (gE ok56 fun a58 s56 ok57 D24 => ?_)); have q422 := D24.kt q417 rfl; have o232 := OwnM.k0 o228 D24.stp; have o233 := OwnP.k0 o229 D24.stp; have o234 := Own.k0 o230 D24.stp; have o235 := Own.k0 o231 D24.stp; refine tn (wp_seq (wp_seq ?_))
          refine gI a58 s56 ok57 (gM q422 (gS rfl (fun A B E I J d0 => rP (y_eql (ed d0 rfl rfl rfl) rfl)) (gE ok57 fun a59 s57 ok58 D25 => ?_))); have F59 := (F57.step0 D24.stp).step0 D25.stp; have q429 := D25.kt (D24.kt q418 rfl) rfl; have q430 := D25.kt (D24.kt q419 rfl) rfl; have q433 := D25.kt (D24.dn 0 rfl rfl) rfl; have o236 := OwnM.k0 o232 D25.stp; have o237 := OwnP.k0 o233 D25.stp; have o238 := Own.k0 o234 D25.stp; have o239 := Own.k0 o235 D25.stp; refine tn ?_
          refine Go.KL.join_then (Q' := fun a60 w3 => ∃ (t8 : GW), t8.w = w3 ∧ FromL [] s0 t8 ∧ Ok 170 [] a60 ∧ At (Ty.int (ofE n g8 g11 r)) t8 a60 (.tmp 11) ∧ At (Ty.nat (ofK n g8 g11 r)) t8 a60 (.tmp 21) ∧ At (Ty.lst Ty.int r) t8 a60 (.tmp 3) ∧ At (Ty.val x1) t8 a60 (.tmp 9) ∧ OwnM Ty.int kI t8 64 x4 (g4) ∧ OwnP t8 61 x1 [(Ty.val x2), (Ty.val x3), (Ty.lst Ty.ints ((g1))), (Ty.val x4)] ∧ Own t8 62 22 1 x2 (List.length ((g7))) (List.map Ty.ints ((g7))) ∧ Own t8 63 22 1 x3 (List.length ((g6))) (List.map Ty.ints ((g6))) ∧ True) ?_ ?_
          ·
           refine cond_p (p := ((fitsE n r) = (0 : Int))) (D25.dn 1 rfl rfl) (fun c10 => ?_) (fun c10 => ?_)
           ·
            have hr : RowN n r := fits_ok.1 c10; have hrr := hr.row; have hrl := hr.len
            refine wp_seq ?_
            refine gI a59 s57 ok58 (gC (Ty.int (14 : Int)) (gE ok58 fun a61 s58 ok59 D26 => ?_)); have o240 := OwnM.k0 o236 D26.stp; have o241 := OwnP.k0 o237 D26.stp; have o242 := Own.k0 o238 D26.stp; have o243 := Own.k0 o239 D26.stp; refine tn (wp_seq ?_)
            refine gI a61 s58 ok59 (gC (Ty.int (0 : Int)) (gE ok59 fun a62 s59 ok60 D27 => ?_)); have o244 := OwnM.k0 o240 D27.stp; have o245 := OwnP.k0 o241 D27.stp; have o246 := Own.k0 o242 D27.stp; have o247 := Own.k0 o243 D27.stp; refine tn (wp_block ?_)
            refine loop (fun n1 a63 w4 => ∃ (t9 : GW) (k : Nat), t9.w = w4 ∧ FromL [] s0 t9 ∧ Ok 170 [] a63 ∧ At (Ty.nat k) t9 a63 (.tmp 22) ∧ At (Ty.int (if (fndN g8 g11 r k).isSome = true then (0 : Int) else 14)) t9 a63 (.tmp 11) ∧ At (Ty.nat ((fndN g8 g11 r k).getD 0)) t9 a63 (.tmp 21) ∧ At (Ty.lst Ty.int r) t9 a63 (.tmp 3) ∧ At (Ty.val x1) t9 a63 (.tmp 9) ∧ At (Ty.lst Ty.ints (g8)) t9 a63 (.tmp 14) ∧ At (Ty.lst Ty.ints (g11)) t9 a63 (.tmp 18) ∧ OwnM Ty.int kI t9 64 x4 (g4) ∧ OwnP t9 61 x1 [(Ty.val x2), (Ty.val x3), (Ty.lst Ty.ints ((g1))), (Ty.val x4)] ∧ Own t9 62 22 1 x2 (List.length ((g7))) (List.map Ty.ints ((g7))) ∧ Own t9 63 22 1 x3 (List.length ((g6))) (List.map Ty.ints ((g6))) ∧ (k ≤ g11.length) ∧ n1 = g11.length - k) (g11.length - (0)) ?_ ?_
            ·
             exact ⟨s59, 0, rfl, ((F59.step0 D26.stp).step0 D27.stp), ok60, (cvi (by (first | rfl | omega | (simp_all; done) | (simp_all; omega))) (D27.dn 0 rfl rfl)), (cvi (by (rfl)) (D27.kt (D26.dn 0 rfl rfl) rfl)), (cvi (by (rfl)) (D27.kt (D26.kt q433 rfl) rfl)), (D27.kt (D26.kt q429 rfl) rfl), (D27.kt (D26.kt q430 rfl) rfl), (D27.kt (D26.kt (D25.kt (D24.kt q420 rfl) rfl) rfl) rfl), (D27.kt (D26.kt (D25.kt (D24.kt q421 rfl) rfl) rfl) rfl), o244, o245, o246, o247, by omega, rfl⟩
            ·
             rintro n2 a64 w5 ⟨t10, k, rfl, F62, ok61, q448, q449, q450, q451, q452, q453, q454, o248, o249, o250, o251, hk, rfl⟩
             refine wp_seq (wp_seq ?_)
             refine gI a64 t10 ok61 (gM q448 (gM q454 (gS rfl (fun A B E I J d0 => rP (y_len Try.underlying24 (ed d0 rfl rfl rfl))) (gS rfl (fun A B E I J d0 d1 => rP (y_lss (ed d0 rfl rfl rfl) (ed d1 rfl rfl rfl))) (gE ok61 fun a65 s60 ok62 D28 => ?_))))); have F63 := F62.step0 D28.stp; have q455 := D28.kt q448 rfl; have q456 := D28.kt q449 rfl; have q457 := D28.kt q450 rfl; have q458 := D28.kt q451 rfl; have q459 := D28.kt q452 rfl; have q461 := D28.kt q454 rfl; have o252 := OwnM.k0 o248 D28.stp; have o253 := OwnP.k0 o249 D28.stp; have o254 := Own.k0 o250 D28.stp; have o255 := Own.k0 o251 D28.stp; refine tn ?_
             refine cond_p (p := (((k : Nat) : Int) < (((List.length (g11)) : Nat) : Int))) (D28.dn 3 rfl rfl) (fun c11 => ?_) (fun c11 => ?_)
             ·
              have hkr := hRD.rows hPD (show k < g11.length by omega); have hkrr := hkr.row; have hku := hkr.undo; have hkb := hku.bds hrl; have hkul := hku.len; have hkl := hkr.len
              refine wp_skip (tn (wp_seq (wp_block (wp_seq ?_))))
              refine gI a65 s60 ok62 (gM q458 (gM q461 (gM q455 (gT (Ty.ref [(Ty.lst Ty.int ((g11).getD k []))]) rfl (fun A B E I J d0 d1 => rP (y_index1 Try.underlying24 Try.inf22 (ed d0 rfl rfl rfl) (ed d1 rfl rfl rfl) (by omega) (lst_get Ty.ints (g11) [] k (by omega)))) (gS rfl (fun A B E I J d0 => rP (y_load Try.underlying22 rfl (ed d0 rfl rfl rfl) rfl)) (gS rfl (fun A B E I J d0 => rP (y_call _ Try.func23 rfl rfl my1 (rUndo_fn (((g11).getD k [])) _ _ (ed d0 rfl rfl rfl) (by assumption)))) (gS rfl (fun A B E I J d0 d1 d2 => rP (y_call _ Try.func22 rfl rfl my2 (rBy_fn (r) ((undoL (((g11).getD k [])))) _ _ _ (ed d0 rfl rfl rfl) (ed d1 rfl rfl rfl) (by first | assumption | omega) (by first | assumption | omega)))) (gB 0 (gE ok62 fun a66 s61 ok63 D29 => ?_))))))))); have o256 := OwnM.k0 o252 D29.stp; have o257 := OwnP.k0 o253 D29.stp; have o258 := Own.k0 o254 D29.stp; have o259 := Own.k0 o255 D29.stp; refine tn (wp_seq ?_)
              refine gI a66 s61 ok63 (gC (Ty.int (0 : Int)) (gE ok63 fun a67 s62 ok64 D30 => ?_)); have o260 := OwnM.k0 o256 D30.stp; have o261 := OwnP.k0 o257 D30.stp; have o262 := Own.k0 o258 D30.stp; have o263 := Own.k0 o259 D30.stp; refine tn (wp_block ?_)
              refine loop (fun n3 a68 w6 => ∃ (t11 : GW) (m : Nat), t11.w = w6 ∧ FromL [] s0 t11 ∧ Ok 170 [] a68 ∧ At (Ty.nat m) t11 a68 (.tmp 24) ∧ At (Ty.int (if (fndN g8 g11 r k).isSome = true ∨ (byL r (undoL (g11.getD k []))) ∈ g8.take m then (0 : Int) else 14)) t11 a68 (.tmp 11) ∧ At (Ty.nat (if (byL r (undoL (g11.getD k []))) ∈ g8.take m then k else (fndN g8 g11 r k).getD 0)) t11 a68 (.tmp 21) ∧ At (Ty.nat k) t11 a68 (.tmp 22) ∧ At (Ty.lst Ty.int r) t11 a68 (.tmp 3) ∧ At (Ty.val x1) t11 a68 (.tmp 9) ∧ At (Ty.lst Ty.ints (g8)) t11 a68 (.tmp 14) ∧ At (Ty.lst Ty.ints (g11)) t11 a68 (.tmp 18) ∧ At (Ty.lst Ty.int (byL (r) ((undoL (((g11).getD k [])))))) t11 a68 (.tmp 23) ∧ OwnM Ty.int kI t11 64 x4 (g4) ∧ OwnP t11 61 x1 [(Ty.val x2), (Ty.val x3), (Ty.lst Ty.ints ((g1))), (Ty.val x4)] ∧ Own t11 62 22 1 x2 (List.length ((g7))) (List.map Ty.ints ((g7))) ∧ Own t11 63 22 1 x3 (List.length ((g6))) (List.map Ty.ints ((g6))) ∧ (m ≤ g8.length) ∧ n3 = g8.length - m) (g8.length - (0)) ?_ ?_
              ·
               exact ⟨s62, 0, rfl, ((F63.step0 D29.stp).step0 D30.stp), ok64, (cvi (by (first | rfl | omega | (simp_all; done) | (simp_all; omega))) (D30.dn 0 rfl rfl)), (cvi (by (simp)) (D30.kt (D29.kt q456 rfl) rfl)), (cvi (by (simp)) (D30.kt (D29.kt q457 rfl) rfl)), (D30.kt (D29.kt q455 rfl) rfl), (D30.kt (D29.kt q458 rfl) rfl), (D30.kt (D29.kt q459 rfl) rfl), (D30.kt (D29.kt (D28.kt q453 rfl) rfl) rfl), (D30.kt (D29.kt q461 rfl) rfl), (D30.kt (D29.dn 7 rfl rfl) rfl), o260, o261, o262, o263, by omega, rfl⟩
              ·
               rintro n4 a69 w7 ⟨t12, m, rfl, F66, ok65, q480, q481, q482, q483, q484, q485, q486, q487, q488, o264, o265, o266, o267, hm, rfl⟩
               refine wp_seq (wp_seq ?_)
               refine gI a69 t12 ok65 (gM q480 (gM q486 (gS rfl (fun A B E I J d0 => rP (y_len Try.underlying24 (ed d0 rfl rfl rfl))) (gS rfl (fun A B E I J d0 d1 => rP (y_lss (ed d0 rfl rfl rfl) (ed d1 rfl rfl rfl))) (gE ok65 fun a70 s63 ok66 D31 => ?_))))); have F67 := F66.step0 D31.stp; have q489 := D31.kt q480 rfl; have q490 := D31.kt q481 rfl; have q491 := D31.kt q482 rfl; have q492 := D31.kt q483 rfl; have q493 := D31.kt q484 rfl; have q494 := D31.kt q485 rfl; have q495 := D31.kt q486 rfl; have q496 := D31.kt q487 rfl; have q497 := D31.kt q488 rfl; have o268 := OwnM.k0 o264 D31.stp; have o269 := OwnP.k0 o265 D31.stp; have o270 := Own.k0 o266 D31.stp; have o271 := Own.k0 o267 D31.stp; refine tn ?_
               refine cond_p (p := (((m : Nat) : Int) < (((List.length (g8)) : Nat) : Int))) (D31.dn 3 rfl rfl) (fun c12 => ?_) (fun c12 => ?_)
               ·
                refine wp_skip (tn (wp_seq (wp_block (wp_seq ?_))))
                refine gI a70 s63 ok66 (gM q495 (gM q489 (gT (Ty.ref [(Ty.lst Ty.int ((g8).getD m []))]) rfl (fun A B E I J d0 d1 => rP (y_index1 Try.underlying24 Try.inf22 (ed d0 rfl rfl rfl) (ed d1 rfl rfl rfl) (by omega) (lst_get Ty.ints (g8) [] m (by omega)))) (gS rfl (fun A B E I J d0 => rP (y_load Try.underlying22 rfl (ed d0 rfl rfl rfl) rfl)) (gM q497 (gS rfl (fun A B E I J d0 d1 => rP (y_call _ Try.func37 rfl rfl my2 (rsame_fn (((g8).getD m [])) ((byL (r) ((undoL (((g11).getD k [])))))) _ _ _ (ed d0 rfl rfl rfl) (ed d1 rfl rfl rfl) ))) (gB 0 (gE ok66 fun a71 s64 ok67 D32 => ?_)))))))); have o272 := OwnM.k0 o268 D32.stp; have o273 := OwnP.k0 o269 D32.stp; have o274 := Own.k0 o270 D32.stp; have o275 := Own.k0 o271 D32.stp; refine tn (wp_seq ?_)
                refine gI a71 s64 ok67 (gM (D32.dn 6 rfl rfl) (gE ok67 fun a72 s65 ok68 D33 => ?_)); have F69 := (F67.step0 D32.stp).step0 D33.stp; have q509 := D33.kt (D32.kt q489 rfl) rfl; have q512 := D33.kt (D32.kt q492 rfl) rfl; have q513 := D33.kt (D32.kt q493 rfl) rfl; have q514 := D33.kt (D32.kt q494 rfl) rfl; have q515 := D33.kt (D32.kt q495 rfl) rfl; have q516 := D33.kt (D32.kt q496 rfl) rfl; have q517 := D33.kt (D32.kt q497 rfl) rfl; have o276 := OwnM.k0 o272 D33.stp; have o277 := OwnP.k0 o273 D33.stp; have o278 := Own.k0 o274 D33.stp; have o279 := Own.k0 o275 D33.stp; refine tn ?_
                refine cond_t (D33.dn 0 rfl rfl) (fun c13 => ?_) (fun c13 => ?_)
                ·
                 have hin : (byL r (undoL (g11.getD k []))) ∈ g8.take (m + 1) := (by rw [take_snoc g8 [] m (by omega), ← of_decide_eq_true c13]; simp)
                 refine wp_seq ?_
                 refine gI a72 s65 ok68 (gC (Ty.int (0 : Int)) (gE ok68 fun a73 s66 ok69 D34 => ?_)); have q520 := D34.kt q512 rfl; have o280 := OwnM.k0 o276 D34.stp; have o281 := OwnP.k0 o277 D34.stp; have o282 := Own.k0 o278 D34.stp; have o283 := Own.k0 o279 D34.stp; refine tn ?_
                 refine gI a73 s66 ok69 (gM q520 (gB 0 (gE ok69 fun a74 s67 ok70 D35 => ?_))); have o284 := OwnM.k0 o280 D35.stp; have o285 := OwnP.k0 o281 D35.stp; have o286 := Own.k0 o282 D35.stp; have o287 := Own.k0 o283 D35.stp; refine bn (tn ?_)
                 refine gI a74 s67 ok70 (gM (D35.kt (D34.kt q509 rfl) rfl) (gT (Ty.nat (m + 1)) rfl (fun A B E I J d0 => rP ((y_add (ed d0 rfl rfl rfl) rfl (w64 (by omega) (by omega))).mono (fun τ _ h => cvi (σ := τ) (by first | omega | exact (Int.natCast_mul _ _).symm) h))) (gB 0 (gE ok70 fun a75 s68 ok71 D36 => ?_)))); have o288 := OwnM.k0 o284 D36.stp; have o289 := OwnP.k0 o285 D36.stp; have o290 := Own.k0 o286 D36.stp; have o291 := Own.k0 o287 D36.stp
                 exact tn ⟨g8.length - ((m+1)), by omega, s68, (m+1), rfl, (((F69.step0 D34.stp).step0 D35.stp).step0 D36.stp), ok71, (cvi (by (first | rfl | omega | (simp_all; done) | (simp_all; omega))) (D36.dn 2 rfl rfl)), (cvi (by (rw [if_pos (.inr hin)])) (D36.kt (D35.kt (D34.dn 0 rfl rfl) rfl) rfl)), (cvi (by (rw [if_pos hin])) (D36.kt (D35.dn 1 rfl rfl) rfl)), (D36.kt (D35.kt q520 rfl) rfl), (D36.kt (D35.kt (D34.kt q513 rfl) rfl) rfl), (D36.kt (D35.kt (D34.kt q514 rfl) rfl) rfl), (D36.kt (D35.kt (D34.kt q515 rfl) rfl) rfl), (D36.kt (D35.kt (D34.kt q516 rfl) rfl) rfl), (D36.kt (D35.kt (D34.kt q517 rfl) rfl) rfl), o288, o289, o290, o291, by omega, rfl⟩
                ·
                 have hin : (byL r (undoL (g11.getD k []))) ∈ g8.take (m + 1) ↔ (byL r (undoL (g11.getD k []))) ∈ g8.take m := (by have h_ : ¬ g8.getD m [] = (byL r (undoL (g11.getD k []))) := of_decide_eq_false c13; rw [take_snoc g8 [] m (by omega), List.mem_append, List.mem_singleton]; exact ⟨fun h => h.resolve_right fun e => h_ e.symm, .inl⟩)
                 refine wp_skip (bn (tn ?_))
                 refine gI a72 s65 ok68 (gM q509 (gT (Ty.nat (m + 1)) rfl (fun A B E I J d0 => rP ((y_add (ed d0 rfl rfl rfl) rfl (w64 (by omega) (by omega))).mono (fun τ _ h => cvi (σ := τ) (by first | omega | exact (Int.natCast_mul _ _).symm) h))) (gB 0 (gE ok68 fun a76 s69 ok72 D37 => ?_)))); have o292 := OwnM.k0 o276 D37.stp; have o293 := OwnP.k0 o277 D37.stp; have o294 := Own.k0 o278 D37.stp; have o295 := Own.k0 o279 D37.stp
                 exact tn ⟨g8.length - ((m+1)), by omega, s69, (m+1), rfl, (F69.step0 D37.stp), ok72, (cvi (by (first | rfl | omega | (simp_all; done) | (simp_all; omega))) (D37.dn 2 rfl rfl)), (cvi (by (simp only [hin])) (D37.kt (D33.kt (D32.kt q490 rfl) rfl) rfl)), (cvi (by (simp only [hin])) (D37.kt (D33.kt (D32.kt q491 rfl) rfl) rfl)), (D37.kt q512 rfl), (D37.kt q513 rfl), (D37.kt q514 rfl), (D37.kt q515 rfl), (D37.kt q516 rfl), (D37.kt q517 rfl), o292, o293, o294, o295, by omega, rfl⟩
               ·
                have em : m = g8.length := (by omega)
                refine wp_exit (tx (tx (bx (bn (tn ?_)))))
                refine gI a70 s63 ok66 (gM q492 (gT (Ty.nat (k + 1)) rfl (fun A B E I J d0 => rP ((y_add (ed d0 rfl rfl rfl) rfl (w64 (by omega) (by omega))).mono (fun τ _ h => cvi (σ := τ) (by first | omega | exact (Int.natCast_mul _ _).symm) h))) (gB 0 (gE ok66 fun a77 s70 ok73 D38 => ?_)))); have o296 := OwnM.k0 o268 D38.stp; have o297 := OwnP.k0 o269 D38.stp; have o298 := Own.k0 o270 D38.stp; have o299 := Own.k0 o271 D38.stp
                exact tn ⟨g11.length - ((k+1)), by omega, s70, (k+1), rfl, (F67.step0 D38.stp), ok73, (cvi (by (first | rfl | omega | (simp_all; done) | (simp_all; omega))) (D38.dn 2 rfl rfl)), (cvi (by (rw [em, List.take_length, fndN_succ hPD hRD hr (by omega)]; by_cases hX_ : (byL r (undoL (g11.getD k []))) ∈ g8; (simp only [hX_, or_true, if_true]; rfl); (simp only [hX_, or_false, if_false]))) (D38.kt q490 rfl)), (cvi (by (rw [em, List.take_length, fndN_succ hPD hRD hr (by omega)]; by_cases hX_ : (byL r (undoL (g11.getD k []))) ∈ g8; (simp only [hX_, if_true]; rfl); (simp only [hX_, if_false]))) (D38.kt q491 rfl)), (D38.kt q493 rfl), (D38.kt q494 rfl), (D38.kt q495 rfl), (D38.kt q496 rfl), o296, o297, o298, o299, by omega, rfl⟩
             ·
              have ek : k = g11.length := (by omega); obtain ⟨hE1, hK1⟩ := ofK_yes (D := g8) (R := g11) (n := n) (r := r) c10
              refine wp_exit (tx (tx (bx ?_)))
              exact tn ⟨s60, rfl, F63, ok62, (cvi (by (rw [hE1, ek, fndN_all])) q456), (cvi (by (rw [hK1, ek, fndN_all])) q457), q458, q459, o252, o253, o254, o255, trivial⟩
           ·
            refine wp_skip ?_
            exact tn ⟨s57, rfl, F59, ok58, (cvi (by (exact (ofK_no c10).1.symm)) (D25.kt q422 rfl)), (cvi (by (rw [(ofK_no (D := g8) (R := g11) c10).2]; rfl)) q433), q429, q430, o236, o237, o238, o239, trivial⟩
          ·
           rintro a78 w8 ⟨t13, rfl, F75, ok74, q561, q562, q563, q564, o300, o301, o302, o303, -⟩
           refine wp_seq ?_
           refine gI a78 t13 ok74 (gM q564 (gM q563 (gE2 ok74 fun a79 s71 ok75 D39 => ?_))); have o304 := OwnM.k0 o300 D39.stp; have o305 := OwnP.k0 o301 D39.stp; have o306 := Own.k0 o302 D39.stp; have o307 := Own.k0 o303 D39.stp
           have q567 : At (Ty.val x1) s71 a79 (.tmp 157) := D39.done 0 (by decide)
           refine tL ok75 (y_callL (L := [41, 44]) [(61, 41), (64, 44)] [(41, 61), (44, 64)] #[a79.eval (.tmp 157), a79.eval (.tmp 158)] rfl (by decide) Try.func38 rfl rfl my2 (cOf_fn (x1) (x2) (x3) (x4) (((g1))) (n) (G) (g5) ((g4)) (r) _ (GW.low_lend _ (by decide)) _ _ (Ty.up _ (GW.le_lend _ _) q567) (Ty.up _ (GW.le_lend _ _) (D39.dn 1 (by decide) rfl rfl)) (OwnP.ren (ownp_cell 2 (Ty.lst Ty.ints (((g1)))) o305 rfl (fun _ _ h => (cvt (by (first | rfl | omega | (simp_all; done) | (simp_all; omega))) h))) (GW.ren_lend _ _ (by decide) rfl)) (OwnM.ren (cvm (by (rfl)) o304) (GW.ren_lend _ _ (by decide) rfl)) (by first | omega | assumption) (by first | omega | assumption) (by first | omega | assumption))) fun a80 s72 hs33 ok76 r33 sm33 => ?_
           have F77 := (F75.step0 D39.stp).sl hs33; have q569 := kq hs33 sm33 11 (D39.kt q561 rfl); have q570 := kq hs33 sm33 21 (D39.kt q562 rfl); have o312 := Own.kl o306 hs33; have o313 := Own.kl o307 hs33
           obtain ⟨t14, ⟨hT5, o308, o309⟩, B5⟩ := r33
           have q571 : At (Ty.tup2 (Ty.nat (ofK n (((g1))) (g5) r)) (Ty.int (ofE n (((g1))) (g5) r))) s72 a80 (.tmp 159) := Ty.up _ B5.le hT5
           have o310 : OwnP s72 61 x1 [(Ty.val x2), (Ty.val x3), (Ty.lst Ty.ints (((g1)))), (Ty.val x4)] := OwnP.ren o308 (B5.ren (by decide) rfl)
           have o311 : OwnM Ty.int kI s72 64 x4 ((g4)) := OwnM.ren o309 (B5.ren (by decide) rfl)
           refine tL ok76 (Yld.toL (y_mv q571)) fun a81 s73 hs34 ok77 r34 sm34 => ?_
           have F78 := F77.sl hs34; have q572 := kq hs34 sm34 11 q569; have q573 := kq hs34 sm34 21 q570; have o314 := Own.kl o312 hs34; have o315 := Own.kl o313 hs34; have o316 := OwnP.kl o310 hs34; have o317 := OwnM.kl o311 hs34
           have q574 : At (Ty.tup2 (Ty.nat (ofK n (((g1))) (g5) r)) (Ty.int (ofE n (((g1))) (g5) r))) s73 a81 (.tmp 156) := r34
           clear r34
           refine tL (R := (fun v τ => Pr.has (Ty.pr (Ty.nat (ofK n (((g1))) (g5) r))) τ v)) ok77 (Yld.toL (y_ext2_0 q574)) fun a82 s74 hs35 ok78 r35 sm35 => ?_
           have F79 := F78.sl hs35; have q575 := kq hs35 sm35 11 q572; have q576 := kq hs35 sm35 21 q573; have q577 := kq hs35 sm35 156 q574; have o318 := Own.kl o314 hs35; have o319 := Own.kl o315 hs35; have o320 := OwnP.kl o316 hs35; have o321 := OwnM.kl o317 hs35
           have q578 : At (Ty.nat (ofK n (((g1))) (g5) r)) s74 a82 (.tmp 160) := r35
           clear r35
           refine tL (R := (fun v τ => Pr.has (Ty.pr (Ty.int (ofE n (((g1))) (g5) r))) τ v)) ok78 (Yld.toL (y_ext2_1 q577)) fun a83 s75 hs36 ok79 r36 sm36 => ?_
           have F80 := F79.sl hs36; have q579 := kq hs36 sm36 11 q575; have q580 := kq hs36 sm36 21 q576; have q581 := kq hs36 sm36 160 q578; have o322 := Own.kl o318 hs36; have o323 := Own.kl o319 hs36; have o324 := OwnP.kl o320 hs36; have o325 := OwnM.kl o321 hs36
           have q582 : At (Ty.int (ofE n (((g1))) (g5) r)) s75 a83 (.tmp 161) := r36
           clear r36
           refine tL ok79 (Yld.toL (y_as q581)) fun a84 s76 hs37 ok80 r37 sm37 => ?_
           have F81 := F80.sl hs37; have q583 := kq hs37 sm37 11 q579; have q584 := kq hs37 sm37 21 q580; have q585 := kq hs37 sm37 161 q582; have o326 := Own.kl o322 hs37; have o327 := Own.kl o323 hs37; have o328 := OwnP.kl o324 hs37; have o329 := OwnM.kl o325 hs37
           have q586 : At (Ty.nat (ofK n (((g1))) (g5) r)) s76 a84 (.tmp 26) := r37
           clear r37
           refine tL ok80 (Yld.toL (y_as q585)) fun a85 s77 hs38 ok81 r38 sm38 => ?_
           have F82 := F81.sl hs38; have q587 := kq hs38 sm38 11 q583; have q588 := kq hs38 sm38 21 q584; have q589 := kq hs38 sm38 26 q586; have o330 := Own.kl o326 hs38; have o331 := Own.kl o327 hs38; have o332 := OwnP.kl o328 hs38; have o333 := OwnM.kl o329 hs38
           have q590 : At (Ty.int (ofE n (((g1))) (g5) r)) s77 a85 (.tmp 10) := r38
           clear r38; refine wpList_nil (tn (wp_seq ?_))
           refine gI a85 s77 ok81 (gM q590 (gM q587 (gS rfl (fun A B E I J d0 d1 => rP (y_eql (ed d0 rfl rfl rfl) (ed d1 rfl rfl rfl))) (gS rfl (fun A B E I J d0 => rP (y_move (ed d0 rfl rfl rfl))) (gS rfl (fun A B E I J d0 => gu I (ed d0 rfl rfl rfl) fun hg => y_move (kp (J 26 rfl) E q589)) (gS rfl (fun A B E I J d0 => gu I (ed d0 rfl rfl rfl) fun hg => y_move (kp (J 21 rfl) E q588)) (gS rfl (fun A B E I J d0 d1 d2 => gu I (ed d2 rfl rfl rfl) fun hg => y_eql ((ed d0 rfl rfl rfl).1 hg) ((ed d1 rfl rfl rfl).1 hg)) (gS rfl (fun A B E I J d0 d1 => rP (y_pick_and (ed d0 rfl rfl rfl) (ed d1 rfl rfl rfl) rfl)) (gB 0 (gE ok81 fun a86 s78 ok82 D40 => ?_)))))))))); have o334 := Own.k0 o330 D40.stp; have o335 := Own.k0 o331 D40.stp; have o336 := OwnP.k0 o332 D40.stp; have o337 := OwnM.k0 o333 D40.stp; refine tn (wp_ret ?_)
           exact retL1 rfl ok82 (F82.step0 D40.stp) (cvb (by (obtain ⟨h1_, h2_⟩ := of_congr (n := n) (R := g11) (r := r) hDm; rw [hRR, h1_, h2_]; simp)) (D40.dn 8 rfl rfl))
  ·
   exfalso
   exact c2 hS0
 ·
  exfalso
  exact c1 hG0


theorem cosetSays_fn (n : Int) (G S : List (List Int)) (r : List Int) (σ : GW) (v0 v1 v2 v3 : Value) (hv0 : Ty.has (Ty.int n) σ v0) (hv1 : Ty.has (Ty.lst Ty.ints G) σ v1) (hv2 : Ty.has (Ty.lst Ty.ints S) σ v2) (hv3 : Ty.has (Ty.lst Ty.int r) σ v3) : FnC Try.prog 6 #[v0, v1, v2, v3] σ (Ty.bool true) := by
  by_cases h : gensMay n G = 0
  · obtain ⟨m, rfl⟩ := may_int h
    by_cases h2 : mkC (m : Int) G S = 0
    · exact cSaysC_fn m G S r σ v0 v1 v2 v3 hv0 hv1 hv2 hv3 h2
    · exact cSaysB_fn m G S r σ v0 v1 v2 v3 hv0 hv1 hv2 hv3 h h2
  · exact cSaysA_fn n G S r σ v0 v1 v2 v3 hv0 hv1 hv2 hv3 h


end Go.Proofs.Ytkjifbgofckfeaa
