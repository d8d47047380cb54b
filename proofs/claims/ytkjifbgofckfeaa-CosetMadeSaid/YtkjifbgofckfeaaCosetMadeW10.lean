/- The functions that the law CosetMade reaches, each by its contract. Part 10. -/
import Derived.Test.YtkjifbgofckfeaaCosetMadeW9
namespace Go.Proofs.Ytkjifbgofckfeaa
open Go.KL

set_option maxHeartbeats 4000000 in
set_option maxRecDepth 100000 in
theorem cSaysC_fn (n : Nat) (G : List (List Int)) (S : List (List Int)) (r : List Int) (σ : GW)  (v0 v1 v2 v3 : Value) (hv0 : Ty.has (Ty.nat n) σ v0) (hv1 : Ty.has (Ty.lst Ty.ints G) σ v1) (hv2 : Ty.has (Ty.lst Ty.ints S) σ v2) (hv3 : Ty.has (Ty.lst Ty.int r) σ v3)  (hok : mkC (n : Int) G S = 0) :
    FnC Try.prog 6 #[v0, v1, v2, v3] σ (Ty.bool true) := by
 obtain ⟨hG0, hS0, hsub, hl1, hl2⟩ := mkC_ok hok
 obtain ⟨hn, hGl, hG⟩ := may_nat hG0
 obtain ⟨_, hSl, hS⟩ := may_nat hS0
 have hsb := fun S_ => szTo_bd (n := n) (S := S_) (k := n) hn.2
 have hsG := hsb (fun y => y ∈ G)
 have hsS := hsb (fun y => y ∈ S)
 have hpS : 0 < szTo n (fun y => y ∈ S) n := szTo_pos hn n (Nat.le_refl _)
 have hdv : szTo n (fun y => y ∈ G) n / szTo n (fun y => y ∈ S) n ≤ szTo n (fun y => y ∈ G) n := Nat.div_le_self _ _
 have hGS : ∀ x ∈ G ++ S, RowN n x := (fun x hx => (List.mem_append.1 hx).elim (hG x) (hS x))
 have hGSl : (G ++ S).length ≤ 1000 := (by rw [List.length_append]; omega)
 have hsA := hsb (fun y => y ∈ G ++ S)
 have hszA := (sz_app hn hG hS).2 hsub
 have hmul : szTo n (fun y => y ∈ S) n * szTo n (fun y => y ∈ G) n ≤ 1000 * 8916100448256 := Nat.mul_le_mul hl1 (hsG hn.2)
 have hmd : szTo n (fun y => y ∈ S) n * szTo n (fun y => y ∈ G) n / szTo n (fun y => y ∈ S) n ≤ szTo n (fun y => y ∈ S) n * szTo n (fun y => y ∈ G) n := Nat.div_le_self _ _
 refine fn_intro0 Try.func6 rfl Try.ntmps6 (Nat.le_of_ble_eq_true rfl) (fun s0 a0 hle F0 ok0 hargs => ?_)
 have p0 := pA hle (hargs 0 _ rfl) hv0
 have p1 := pA hle (hargs 1 _ rfl) hv1
 have b1 := sl_le p1
 have p2 := pA hle (hargs 2 _ rfl) hv2
 have b2 := sl_le p2
 have p3 := pA hle (hargs 3 _ rfl) hv3
 have b3 := sl_le p3
 clear hargs; refine wp_seq ?_
 refine gI a0 s0 ok0 (gC (Ty.bool false) (gE ok0 fun a1 s1 ok1 D1 => ?_)); have q1 := D1.k p0; have q2 := D1.k p1; have q3 := D1.k p2; refine tn (wp_seq ?_)
 refine gI a1 s1 ok1 (gM q1 (gM q2 (gM q3 (gE2 ok1 fun a2 s2 ok2 D2 => ?_))))
 refine tL ok2 (y_callL (L := []) [] [(41, 61), (42, 62), (43, 63), (44, 64)] _ rfl (by decide) Try.func33 rfl rfl my3 (cMake_fn (n) (G) (S) _ (GW.low_lend _ (by decide)) _ _ _ (Ty.up _ (GW.le_lend _ _) (D2.m 0 rfl)) (Ty.up _ (GW.le_lend _ _) (D2.m 1 rfl)) (Ty.up _ (GW.le_lend _ _) (D2.m 2 rfl))  (by first | omega | assumption) (by first | omega | assumption) (by first | omega | assumption) (by first | omega | assumption) (by first | omega | assumption) (by first | omega | assumption) (by first | omega | assumption) (by first | omega | assumption))) fun a3 s3 hs1 ok3 r1 sm1 => ?_
 have F3 := ((F0.step0 D1.stp).step0 D2.stp).sl hs1
 obtain ⟨t1, ⟨g1, g2, g3, g4, g5, g6, g7, x1, x2, x3, x4, hT1, o1, o2, o3, o4, hp1, hp2, hp3, hp4, hp5, hp6⟩, B1⟩ := r1
 have q16 : At (Ty.tup2 (Ty.val x1) (Ty.int (0 : Int))) s3 a3 (.tmp 31) := Ty.up _ B1.le hT1
 have o5 : OwnP s3 61 x1 [(Ty.val x2), (Ty.val x3), (Ty.lst Ty.ints (g1)), (Ty.val x4)] := OwnP.ren o1 (B1.ren (by decide) rfl)
 have o6 : Own s3 62 22 1 x2 (List.length (g7)) (List.map Ty.ints (g7)) := Own.ren o2 (B1.ren (by decide) rfl)
 have o7 : Own s3 63 22 1 x3 (List.length (g6)) (List.map Ty.ints (g6)) := Own.ren o3 (B1.ren (by decide) rfl)
 have o8 : OwnM Ty.int kI s3 64 x4 (g4) := OwnM.ren o4 (B1.ren (by decide) rfl)
 refine tL ok3 (Yld.toL (y_mv q16)) fun a4 s4 hs2 ok4 r2 sm2 => ?_
 have F4 := F3.sl hs2
 have q21 : At (Ty.tup2 (Ty.val x1) (Ty.int (0 : Int))) s4 a4 (.tmp 27) := r2
 clear r2
 refine tL (R := (fun v τ => Pr.has (Ty.pr (Ty.val x1)) τ v)) ok4 (Yld.toL (y_ext2_0 q21)) fun a5 s5 hs3 ok5 r3 sm3 => ?_
 have F5 := F4.sl hs3
 have q27 : At (Ty.val x1) s5 a5 (.tmp 32) := r3
 clear r3
 refine tL (R := (fun v τ => Pr.has (Ty.pr (Ty.int (0 : Int))) τ v)) ok5 (Yld.toL (y_ext2_1 (kq hs3 sm3 27 q21))) fun a6 s6 hs4 ok6 r4 sm4 => ?_
 have F6 := F5.sl hs4
 have q33 : At (Ty.int (0 : Int)) s6 a6 (.tmp 33) := r4
 clear r4
 refine tL ok6 (Yld.toL (y_as (kq hs4 sm4 32 q27))) fun a7 s7 hs5 ok7 r5 sm5 => ?_
 have F7 := F6.sl hs5
 have q39 : At (Ty.val x1) s7 a7 (.tmp 9) := r5
 clear r5
 refine tL ok7 (Yld.toL (y_as (kq hs5 sm5 33 q33))) fun a8 s8 hs6 ok8 r6 sm6 => ?_
 have F8 := F7.sl hs6; have q40 := kq hs6 sm6 0 (kq hs5 sm5 0 (kq hs4 sm4 0 (kq hs3 sm3 0 (kq hs2 sm2 0 (kq hs1 sm1 0 (D2.k q1)))))); have q41 := kq hs6 sm6 1 (kq hs5 sm5 1 (kq hs4 sm4 1 (kq hs3 sm3 1 (kq hs2 sm2 1 (kq hs1 sm1 1 (D2.k q2))))))
 have q45 : At (Ty.int (0 : Int)) s8 a8 (.tmp 10) := r6
 clear r6; refine wpList_nil (tn (wp_seq ?_))
 refine gI a8 s8 ok8 (gM q40 (gM q41 (gS rfl (fun A B E I J d0 d1 => rP (y_call _ Try.func24 rfl rfl my2 (rGensMay_fn (((n : Nat) : Int)) (G) _ _ _ (cvi (σ := B) (by omega) (ef d0 rfl)) (ef d1 rfl) ))) (gB 0 (gE ok8 fun a9 s9 ok9 D3 => ?_))))); have o29 := OwnP.k0 (OwnP.kl (OwnP.kl (OwnP.kl (OwnP.kl (OwnP.kl o5 hs2) hs3) hs4) hs5) hs6) D3.stp; have o30 := Own.k0 (Own.kl (Own.kl (Own.kl (Own.kl (Own.kl o6 hs2) hs3) hs4) hs5) hs6) D3.stp; have o31 := Own.k0 (Own.kl (Own.kl (Own.kl (Own.kl (Own.kl o7 hs2) hs3) hs4) hs5) hs6) D3.stp; have o32 := OwnM.k0 (OwnM.kl (OwnM.kl (OwnM.kl (OwnM.kl (OwnM.kl o8 hs2) hs3) hs4) hs5) hs6) D3.stp; refine tn (wp_seq (wp_seq ?_))
 refine gI a9 s9 ok9 (gM (D3.m 3 rfl) (gS rfl (fun A B E I J d0 => rP (y_eql (ef d0 rfl) rfl)) (gE ok9 fun a10 s10 ok10 D4 => ?_))); have q53 := D4.k (D3.k q40); have q55 := D4.k (D3.k (kq hs6 sm6 2 (kq hs5 sm5 2 (kq hs4 sm4 2 (kq hs3 sm3 2 (kq hs2 sm2 2 (kq hs1 sm1 2 (D2.k q3)))))))); have o33 := OwnP.k0 o29 D4.stp; have o34 := Own.k0 o30 D4.stp; have o35 := Own.k0 o31 D4.stp; have o36 := OwnM.k0 o32 D4.stp; refine tn ?_
 refine cond_p (p := ((gensMay (((n : Nat) : Int)) (G)) = (0 : Int))) (D4.m 1 rfl) (fun c1 => ?_) (fun c1 => ?_)
 ·
  refine gI a10 s10 ok10 (gM q53 (gM q55 (gS rfl (fun A B E I J d0 d1 => rP (y_call _ Try.func24 rfl rfl my2 (rGensMay_fn (((n : Nat) : Int)) (S) _ _ _ (cvi (σ := B) (by omega) (ef d0 rfl)) (ef d1 rfl) ))) (gB 0 (gE ok10 fun a11 s11 ok11 D5 => ?_))))); have o37 := OwnP.k0 o33 D5.stp; have o38 := Own.k0 o34 D5.stp; have o39 := Own.k0 o35 D5.stp; have o40 := OwnM.k0 o36 D5.stp; refine tn (wp_seq ?_)
  refine gI a11 s11 ok11 (gC (Ty.int (0 : Int)) (gE ok11 fun a12 s12 ok12 D6 => ?_)); have o41 := OwnP.k0 o37 D6.stp; have o42 := Own.k0 o38 D6.stp; have o43 := Own.k0 o39 D6.stp; have o44 := OwnM.k0 o40 D6.stp; refine tn (wp_seq ?_)
  refine gI a12 s12 ok12 (gC (Ty.int (0 : Int)) (gE ok12 fun a13 s13 ok13 D7 => ?_)); have q82 := D7.k (D6.k (D5.m 3 rfl)); have o45 := OwnP.k0 o41 D7.stp; have o46 := Own.k0 o42 D7.stp; have o47 := Own.k0 o43 D7.stp; have o48 := OwnM.k0 o44 D7.stp; refine tn (wp_seq (wp_seq ?_))
  refine gI a13 s13 ok13 (gM q82 (gS rfl (fun A B E I J d0 => rP (y_eql (ef d0 rfl) rfl)) (gE ok13 fun a14 s14 ok14 D8 => ?_))); have q85 := D8.k (D7.k (D6.k (D5.k q53))); have q86 := D8.k (D7.k (D6.k (D5.k (D4.k (D3.k q41))))); have o49 := OwnP.k0 o45 D8.stp; have o50 := Own.k0 o46 D8.stp; have o51 := Own.k0 o47 D8.stp; have o52 := OwnM.k0 o48 D8.stp; refine tn ?_
  refine cond_p (p := ((gensMay (((n : Nat) : Int)) (S)) = (0 : Int))) (D8.m 1 rfl) (fun c2 => ?_) (fun c2 => ?_)
  ·
   refine wp_seq ?_
   refine gI a14 s14 ok14 (gM q85 (gM q86 (gS rfl (fun A B E I J d0 d1 => rP (y_call _ Try.func20 rfl rfl my2 (rSizes_fn (n) (G) _ _ _ (ef d0 rfl) (ef d1 rfl) (by first | omega | assumption | exact hst1) (by first | omega | assumption | exact hst1) (by first | omega | assumption | exact hst1)))) (gB 0 (gE ok14 fun a15 s15 ok15 D9 => ?_))))); have q95 := D9.k q85; have q97 := D9.k (D8.k (D7.k (D6.k (D5.k q55)))); have o53 := OwnP.k0 o49 D9.stp; have o54 := Own.k0 o50 D9.stp; have o55 := Own.k0 o51 D9.stp; have o56 := OwnM.k0 o52 D9.stp; refine tn (wp_seq ?_)
   refine gI a15 s15 ok15 (gM q95 (gM q97 (gS rfl (fun A B E I J d0 d1 => rP (y_call _ Try.func20 rfl rfl my2 (rSizes_fn (n) (S) _ _ _ (ef d0 rfl) (ef d1 rfl) (by first | omega | assumption | exact hst1) (by first | omega | assumption | exact hst1) (by first | omega | assumption | exact hst1)))) (gB 0 (gE ok15 fun a16 s16 ok16 D10 => ?_))))); have q103 := D10.k q95; have q104 := D10.k (D9.k q86); have o57 := OwnP.k0 o53 D10.stp; have o58 := Own.k0 o54 D10.stp; have o59 := Own.k0 o55 D10.stp; have o60 := OwnM.k0 o56 D10.stp; refine tn (wp_seq ?_)
   refine gI a16 s16 ok16 (gM q103 (gR (Pr.own 20 22 1 0 (List.map Ty.ints ([] : List (List Int)))) rfl (by intro A B E I J; exact rP ((y_lit0 (k := 20) Try.underlying24 Try.inf22).mono (fun _ _ h => cvo (by simp) (by simp) h))) (gM q104 (gE2 ok16 fun a17 s17 ok17 D11 => ?_)))); have o61 := OwnP.k0 o57 D11.stp; have o62 := Own.k0 o58 D11.stp; have o63 := Own.k0 o59 D11.stp; have o64 := OwnM.k0 o60 D11.stp
   obtain ⟨x5, hx1⟩ : ∃ x, a17.eval (.tmp 51) = x := ⟨_, rfl⟩
   have q122 : At (Ty.val x5) s17 a17 (.tmp 51) := hx1
   have o65 := al2 (R := (Pr.own 20 22 1 0 (List.map Ty.ints ([] : List (List Int))))) hx1 (D11.done 1 (by decide))
   refine tL ok17 (YldM.toL (m_append Try.underlying24 Try.inf22 (by decide) rfl (by decide) (al (R := (Pr.own 20 22 1 0 (List.map Ty.ints ([] : List (List Int))))) q122 o65) (D11.m 2 rfl) (one_map (fun _ => one_sl)) (by omega) (by omega))) fun a18 s18 hs7 ok18 r7 sm7 => ?_
   have F18 := (((((((((F8.step0 D3.stp).step0 D4.stp).step0 D5.stp).step0 D6.stp).step0 D7.stp).step0 D8.stp).step0 D9.stp).step0 D10.stp).step0 D11.stp).sl hs7; have q126 := kq hs7 sm7 2 (D11.k (D10.k q97))
   obtain ⟨x6, hx2⟩ : ∃ x, a18.eval (.tmp 53) = x := ⟨_, rfl⟩
   have q134 : At (Ty.val x6) s18 a18 (.tmp 53) := hx2
   have o66 := al2 (R := (Pr.own 20 22 1 (List.length G) (List.map Ty.ints G))) hx2 (cvo (by first | (simp; done) | (simp; omega)) (by first | (rw [List.map_append]; rfl) | simp) r7)
   clear r7
   refine tL ok18 (Yld.toL (y_mv q126)) fun a19 s19 hs8 ok19 r8 sm8 => ?_
   have F19 := F18.sl hs8
   have q146 : At (Ty.lst Ty.ints S) s19 a19 (.tmp 54) := r8
   clear r8
   refine tL ok19 (YldM.toL (m_append Try.underlying24 Try.inf22 (by decide) rfl (by decide) (al (R := (Pr.own 20 22 1 (List.length G) (List.map Ty.ints G))) (kq hs8 sm8 53 q134) (Own.kl o66 hs8)) q146 (one_map (fun _ => one_sl)) (by omega) (by omega))) fun a20 s20 hs9 ok20 r9 sm9 => ?_
   have F20 := F19.sl hs9
   obtain ⟨x7, hx3⟩ : ∃ x, a20.eval (.tmp 55) = x := ⟨_, rfl⟩
   have q157 : At (Ty.val x7) s20 a20 (.tmp 55) := hx3
   have o76 := al2 (R := (Pr.own 20 22 1 (List.length (G ++ S)) (List.map Ty.ints (G ++ S)))) hx3 (cvo (by simp) (by first | (rw [List.map_append]; rfl) | simp) r9)
   clear r9
   obtain ⟨t2, e1, h1, q158⟩ := Own.seal o76 (by decide)
   rw [← e1]
   have F21 := F20.step h1 (by decide); have o81 := OwnP.keepL (OwnP.kl (OwnP.kl (OwnP.kl o61 hs7) hs8) hs9) (h1.toL (L := [20]) (by simp)) (by decide) (by decide); have o82 := Own.keepL (Own.kl (Own.kl (Own.kl o62 hs7) hs8) hs9) (h1.toL (L := [20]) (by simp)) (by decide) (by decide); have o83 := Own.keepL (Own.kl (Own.kl (Own.kl o63 hs7) hs8) hs9) (h1.toL (L := [20]) (by simp)) (by decide) (by decide); have o84 := OwnM.keepL (OwnM.kl (OwnM.kl (OwnM.kl o64 hs7) hs8) hs9) (h1.toL (L := [20]) (by simp)) (by decide) (by decide); have q159 := Ty.up (Ty.nat n) (h1.le (by decide)) (kq hs9 sm9 0 (kq hs8 sm8 0 (kq hs7 sm7 0 (D11.k q103)))); have q160 := Ty.up (Ty.lst Ty.ints G) (h1.le (by decide)) (kq hs9 sm9 1 (kq hs8 sm8 1 (kq hs7 sm7 1 (D11.k q104)))); have q161 := Ty.up (Ty.lst Ty.ints S) (h1.le (by decide)) (kq hs9 sm9 2 (kq hs8 sm8 2 q126)); have q162 := Ty.up (Ty.lst Ty.int r) (h1.le (by decide)) (kq hs9 sm9 3 (kq hs8 sm8 3 (kq hs7 sm7 3 (D11.k (D10.k (D9.k (D8.k (D7.k (D6.k (D5.k (D4.k (D3.k (kq hs6 sm6 3 (kq hs5 sm5 3 (kq hs4 sm4 3 (kq hs3 sm3 3 (kq hs2 sm2 3 (kq hs1 sm1 3 (D2.k (D1.k p3)))))))))))))))))))); have q163 := Ty.up (Ty.val x1) (h1.le (by decide)) (kq hs9 sm9 9 (kq hs8 sm8 9 (kq hs7 sm7 9 (D11.k (D10.k (D9.k (D8.k (D7.k (D6.k (D5.k (D4.k (D3.k (kq hs6 sm6 9 q39))))))))))))); have q164 := Ty.up (Ty.int (0 : Int)) (h1.le (by decide)) (kq hs9 sm9 10 (kq hs8 sm8 10 (kq hs7 sm7 10 (D11.k (D10.k (D9.k (D8.k (D7.k (D6.k (D5.k (D4.k (D3.k q45)))))))))))); have q165 := Ty.up (Ty.int (gensMay (((n : Nat) : Int)) (S))) (h1.le (by decide)) (kq hs9 sm9 11 (kq hs8 sm8 11 (kq hs7 sm7 11 (D11.k (D10.k (D9.k (D8.k q82)))))))
   have q166 := Ty.up (Ty.nat (szTo n (fun y => y ∈ (G)) n)) (h1.le (by decide)) (kq hs9 sm9 12 (kq hs8 sm8 12 (kq hs7 sm7 12 (D11.k (D10.k (D9.m 3 rfl)))))); have q167 := Ty.up (Ty.nat (szTo n (fun y => y ∈ (S)) n)) (h1.le (by decide)) (kq hs9 sm9 13 (kq hs8 sm8 13 (kq hs7 sm7 13 (D11.k (D10.m 3 rfl))))); have q168 := Ty.up (Ty.nat n) (h1.le (by decide)) (kq hs9 sm9 50 (kq hs8 sm8 50 (kq hs7 sm7 50 (D11.m 0 rfl))))
   have q169 : At (Ty.lst Ty.ints (G ++ S)) t2 a20 (.tmp 55) := by have e : a20.eval (.tmp 55) = x7 := q157; show Ty.has _ _ _; rw [e]; exact q158
   refine tL (R := (fun v τ => Pr.has (Ty.pr (Ty.nat (szTo n (fun y => y ∈ ((G ++ S))) n))) τ v)) ok20 (Yld.toL (y_call _ Try.func20 rfl rfl my2 (rSizes_fn (n) ((G ++ S)) _ _ _ q168 q169 (by first | omega | assumption | exact hst1) (by first | omega | assumption | exact hst1) (by first | omega | assumption | exact hst1)))) fun a21 s21 hs10 ok21 r10 sm10 => ?_
   have F22 := F21.sl hs10; have q177 := kq hs10 sm10 12 q166
   have q179 : At (Ty.nat (szTo n (fun y => y ∈ ((G ++ S))) n)) s21 a21 (.tmp 56) := r10
   clear r10
   refine tL ok21 (Yld.toL (y_mv q177)) fun a22 s22 hs11 ok22 r11 sm11 => ?_
   have F23 := F22.sl hs11
   have q190 : At (Ty.nat (szTo n (fun y => y ∈ (G)) n)) s22 a22 (.tmp 57) := r11
   clear r11
   refine tL (R := (fun v τ => Pr.has (Ty.pr (Ty.bool (decide ((((szTo n (fun y => y ∈ ((G ++ S))) n) : Nat) : Int) ≠ (((szTo n (fun y => y ∈ (G)) n) : Nat) : Int))))) τ v)) ok22 (Yld.toL (y_neq (kq hs11 sm11 56 q179) q190)) fun a23 s23 hs12 ok23 r12 sm12 => ?_
   have F24 := F23.sl hs12; have q198 := kq hs12 sm12 12 (kq hs11 sm11 12 q177); have q199 := kq hs12 sm12 13 (kq hs11 sm11 13 (kq hs10 sm10 13 q167))
   have q200 : At (Ty.bool (decide ((((szTo n (fun y => y ∈ ((G ++ S))) n) : Nat) : Int) ≠ (((szTo n (fun y => y ∈ (G)) n) : Nat) : Int)))) s23 a23 (.tmp 58) := r12
   clear r12; refine wpList_nil (tn ?_)
   refine cond_p (p := ((((szTo n (fun y => y ∈ ((G ++ S))) n) : Nat) : Int) ≠ (((szTo n (fun y => y ∈ (G)) n) : Nat) : Int))) q200 (fun c3 => ?_) (fun c3 => ?_)
   ·
    exfalso
    omega
   ·
    refine wp_seq ?_
    refine gI a23 s23 ok23 (gM q199 (gS rfl (fun A B E I J d0 => rP (y_gtr (ef d0 rfl) rfl)) (gS rfl (fun A B E I J d0 => rP (y_move (ef d0 rfl))) (gS rfl (fun A B E I J d0 => gu I (ef d0 rfl) fun hg => y_move (kp (J 12 rfl) E q198)) (gS rfl (fun A B E I J d0 => gu I (ef d0 rfl) fun hg => y_move (kp (J 13 rfl) E q199)) (gT (Ty.grd ((decide ((1000 : Int) < (((szTo n (fun y => y ∈ (S)) n) : Nat) : Int))) = false) (Ty.nat ((szTo n (fun y => y ∈ (G)) n) / (szTo n (fun y => y ∈ (S)) n)))) rfl (fun A B E I J d0 d1 d2 => guf I (ef d2 rfl) fun hg hp => y_quoN ((ef d0 rfl).1 hg) ((ef d1 rfl).1 hg) (by omega) (by omega)) (gS rfl (fun A B E I J d0 d1 => gu I (ef d1 rfl) fun hg => y_gtr ((ef d0 rfl).1 hg) rfl) (gS rfl (fun A B E I J d0 d1 => rP (y_pick_or (ef d0 rfl) rfl (ef d1 rfl))) (gE ok23 fun a24 s24 ok24 D12 => ?_))))))))); have o97 := OwnP.k0 (OwnP.kl (OwnP.kl (OwnP.kl o81 hs10) hs11) hs12) D12.stp; have o98 := Own.k0 (Own.kl (Own.kl (Own.kl o82 hs10) hs11) hs12) D12.stp; have o99 := Own.k0 (Own.kl (Own.kl (Own.kl o83 hs10) hs11) hs12) D12.stp; have o100 := OwnM.k0 (OwnM.kl (OwnM.kl (OwnM.kl o84 hs10) hs11) hs12) D12.stp; refine tn ?_
    refine cond_t (D12.m 7 rfl) (fun c4 => ?_) (fun c4 => ?_)
    ·
     exfalso
     (simp only [Bool.or_eq_true, decide_eq_true_eq] at c4; omega)
    ·
     obtain ⟨d1, d2⟩ := Bool.or_eq_false_iff.mp c4
     replace d1 := of_decide_eq_false d1
     replace d2 := of_decide_eq_false d2
     refine wp_skip (tn (wp_seq (wp_seq ?_)))
     refine gI a24 s24 ok24 (gM (D12.k (kq hs12 sm12 11 (kq hs11 sm11 11 (kq hs10 sm10 11 q165)))) (gS rfl (fun A B E I J d0 => rP (y_neq (ef d0 rfl) rfl)) (gE ok24 fun a25 s25 ok25 D13 => ?_))); have q215 := D13.k (D12.k (kq hs12 sm12 9 (kq hs11 sm11 9 (kq hs10 sm10 9 q163)))); have o101 := OwnP.k0 o97 D13.stp; have o102 := Own.k0 o98 D13.stp; have o103 := Own.k0 o99 D13.stp; have o104 := OwnM.k0 o100 D13.stp; refine tn ?_
     refine cond_p (p := ((gensMay (((n : Nat) : Int)) (S)) ≠ (0 : Int))) (D13.m 1 rfl) (fun c5 => ?_) (fun c5 => ?_)
     ·
      exfalso
      exact c5 hS0
     ·
      refine wp_skip (tn (wp_seq (wp_seq ?_)))
      refine gI a25 s25 ok25 (gM (D13.k (D12.k (kq hs12 sm12 10 (kq hs11 sm11 10 (kq hs10 sm10 10 q164))))) (gT (Ty.bool false) rfl (fun A B E I J d0 => rP ((y_neq (ef d0 rfl) rfl).mono (fun τ _ h => cvb (σ := τ) (by decide) h))) (gS rfl (fun A B E I J d0 => rP (y_move (ef d0 rfl))) (gS rfl (fun A B E I J d0 => gu I (ef d0 rfl) fun hg => y_move (kp (J 9 rfl) E q215)) (gT (Ty.grd (false = false) (Ty.bool false)) rfl (fun A B E I J d0 d1 => gu I (ef d1 rfl) fun hg => y_pnil Try.underlying53 (OwnP.k0 o101 E) ((ef d0 rfl).1 hg) rfl) (gS rfl (fun A B E I J d0 d1 => rP (y_pick_or (ef d0 rfl) rfl (ef d1 rfl))) (gE ok25 fun a26 s26 ok26 D14 => ?_))))))); have q227 := D14.k (D13.k (D12.k q199)); have o105 := OwnP.k0 o101 D14.stp; have o106 := Own.k0 o102 D14.stp; have o107 := Own.k0 o103 D14.stp; have o108 := OwnM.k0 o104 D14.stp; refine tn ?_
      refine cond_t (D14.m 5 rfl) (fun c6 => ?_) (fun c6 => ?_)
      ·
       exfalso
       simp at c6
      ·
       obtain ⟨d3, d4⟩ := Bool.or_eq_false_iff.mp c6
       refine wp_skip (tn (wp_seq (wp_seq ?_)))
       refine gI a26 s26 ok26 (gM q227 (gM (D14.k (D13.k (D12.k q198))) (gT (Ty.nat ((szTo n (fun y => y ∈ (S)) n) * (szTo n (fun y => y ∈ (G)) n))) rfl (fun A B E I J d0 d1 => rP ((y_mul (ef d0 rfl) (ef d1 rfl) (w64 (by omega) (by omega))).mono (fun τ _ h => cvi (σ := τ) (by first | omega | exact (Int.natCast_mul _ _).symm) h))) (gM q227 (gT (Ty.nat (((szTo n (fun y => y ∈ (S)) n) * (szTo n (fun y => y ∈ (G)) n)) / (szTo n (fun y => y ∈ (S)) n))) rfl (fun A B E I J d0 d1 => rP (y_quoN (ef d0 rfl) (ef d1 rfl) (by omega) (by omega))) (gS rfl (fun A B E I J d0 => rP (y_gtr (ef d0 rfl) rfl)) (gE ok26 fun a27 s27 ok27 D15 => ?_))))))); have F28 := (((F24.step0 D12.stp).step0 D13.stp).step0 D14.stp).step0 D15.stp; have q229 := D15.k (D14.k (D13.k (D12.k (kq hs12 sm12 0 (kq hs11 sm11 0 (kq hs10 sm10 0 q159)))))); have o109 := OwnP.k0 o105 D15.stp; have o110 := Own.k0 o106 D15.stp; have o111 := Own.k0 o107 D15.stp; have o112 := OwnM.k0 o108 D15.stp; refine tn ?_
       refine cond_p (p := ((5040 : Int) < (((((szTo n (fun y => y ∈ (S)) n) * (szTo n (fun y => y ∈ (G)) n)) / (szTo n (fun y => y ∈ (S)) n)) : Nat) : Int))) (D15.m 5 rfl) (fun c7 => ?_) (fun c7 => ?_)
       ·
        refine wp_seq ?_
        refine gI a27 s27 ok27 (gC (Ty.bool true) (gE ok27 fun a28 s28 ok28 D16 => ?_)); have o113 := OwnP.k0 o109 D16.stp; have o114 := Own.k0 o110 D16.stp; have o115 := Own.k0 o111 D16.stp; have o116 := OwnM.k0 o112 D16.stp; refine tn (wp_ret (tr ?_))
        exact retL1 rfl ok28 (F28.step0 D16.stp) (D16.m 0 rfl)
       ·
        refine wp_skip (tn (wp_seq ?_))
        refine gI a27 s27 ok27 (gM q229 (gM (D15.k (D14.k (D13.k (D12.k (kq hs12 sm12 2 (kq hs11 sm11 2 (kq hs10 sm10 2 q161))))))) (gE2 ok27 fun a29 s29 ok29 D17 => ?_))); have o117 := OwnP.k0 o109 D17.stp; have o118 := Own.k0 o110 D17.stp; have o119 := Own.k0 o111 D17.stp; have o120 := OwnM.k0 o112 D17.stp
        refine tL ok29 (y_callL (L := []) [] [] #[a29.eval (.tmp 89), a29.eval (.tmp 90), a29.eval ((Operand.const (Value.int IntKind.i64 1000)))] rfl (by decide) Try.func19 rfl rfl my3 (rClosed_fn (n) (S) (1000) _ (GW.low_lend _ (by decide)) _ _ _ (Ty.up _ (GW.le_lend _ _) (D17.m 0 rfl)) (Ty.up _ (GW.le_lend _ _) (D17.m 1 rfl)) (Ty.up _ (GW.le_lend _ _) (cvi (σ := s29) (by first | omega | assumption) rfl))  (by first | omega | assumption) (by first | omega | assumption) (by first | omega | assumption) (by first | omega | assumption))) fun a30 s30 hs13 ok30 r13 sm13 => ?_
        have F31 := (F28.step0 D17.stp).sl hs13
        obtain ⟨t3, ⟨g8, g9, hT2, hp7⟩, B2⟩ := r13
        have q246 : At (Ty.tup2 (Ty.lst Ty.ints (g8)) (Ty.lst Ty.ints (g9))) s30 a30 (.tmp 91) := Ty.up _ B2.le hT2
        refine tL ok30 (Yld.toL (y_mv q246)) fun a31 s31 hs14 ok31 r14 sm14 => ?_
        have F32 := F31.sl hs14
        have q251 : At (Ty.tup2 (Ty.lst Ty.ints (g8)) (Ty.lst Ty.ints (g9))) s31 a31 (.tmp 88) := r14
        clear r14
        refine tL (R := (fun v τ => Pr.has (Ty.pr (Ty.lst Ty.ints (g8))) τ v)) ok31 (Yld.toL (y_ext2_0 q251)) fun a32 s32 hs15 ok32 r15 sm15 => ?_
        have F33 := F32.sl hs15
        have q257 : At (Ty.lst Ty.ints (g8)) s32 a32 (.tmp 92) := r15
        clear r15
        refine tL (R := (fun v τ => Pr.has (Ty.pr (Ty.lst Ty.ints (g9))) τ v)) ok32 (Yld.toL (y_ext2_1 (kq hs15 sm15 88 q251))) fun a33 s33 hs16 ok33 r16 sm16 => ?_
        have F34 := F33.sl hs16
        have q263 : At (Ty.lst Ty.ints (g9)) s33 a33 (.tmp 93) := r16
        clear r16
        refine tL ok33 (Yld.toL (y_as (kq hs16 sm16 92 q257))) fun a34 s34 hs17 ok34 r17 sm17 => ?_
        have F35 := F34.sl hs17
        have q269 : At (Ty.lst Ty.ints (g8)) s34 a34 (.tmp 14) := r17
        clear r17
        refine tL ok34 (Yld.toL (y_as (kq hs17 sm17 93 q263))) fun a35 s35 hs18 ok35 r18 sm18 => ?_
        have F36 := F35.sl hs18; have q270 := kq hs18 sm18 0 (kq hs17 sm17 0 (kq hs16 sm16 0 (kq hs15 sm15 0 (kq hs14 sm14 0 (kq hs13 sm13 0 (D17.k q229)))))); have q274 := kq hs18 sm18 14 q269
        have q275 : At (Ty.lst Ty.ints (g9)) s35 a35 (.tmp 15) := r18
        clear r18; refine wpList_nil (tn (wp_seq ?_))
        obtain ⟨hDn, hDm, hDl⟩ := ClosedP.full hp1 (by rw [hp1.len]; exact hl1) hp7
        have hP := PrtP.of hn hG hS hsub hp1
        have hPD := hP.congr hDm
        have hH1 := hp1.len
        have hlmD : g2.length < 1001 * g8.length := (by rw [hDl]; exact hp3)
        have hGl2 : G.length ≤ 1000 := (by omega)
        refine gI a35 s35 ok35 (gM q270 (gM (kq hs18 sm18 1 (kq hs17 sm17 1 (kq hs16 sm16 1 (kq hs15 sm15 1 (kq hs14 sm14 1 (kq hs13 sm13 1 (D17.k (D15.k (D14.k (D13.k (D12.k (kq hs12 sm12 1 (kq hs11 sm11 1 (kq hs10 sm10 1 q160)))))))))))))) (gM q274 (gE2 ok35 fun a36 s36 ok36 D18 => ?_)))); have o145 := OwnP.k0 (OwnP.kl (OwnP.kl (OwnP.kl (OwnP.kl (OwnP.kl (OwnP.kl o117 hs13) hs14) hs15) hs16) hs17) hs18) D18.stp; have o146 := Own.k0 (Own.kl (Own.kl (Own.kl (Own.kl (Own.kl (Own.kl o118 hs13) hs14) hs15) hs16) hs17) hs18) D18.stp; have o147 := Own.k0 (Own.kl (Own.kl (Own.kl (Own.kl (Own.kl (Own.kl o119 hs13) hs14) hs15) hs16) hs17) hs18) D18.stp; have o148 := OwnM.k0 (OwnM.kl (OwnM.kl (OwnM.kl (OwnM.kl (OwnM.kl (OwnM.kl o120 hs13) hs14) hs15) hs16) hs17) hs18) D18.stp
        refine tL ok36 (y_callL (L := []) [] [] _ rfl (by decide) Try.func34 rfl rfl my3 (rParts_fn (n) (G) ((g8)) (g2) _ (GW.low_lend _ (by decide)) _ _ _ (Ty.up _ (GW.le_lend _ _) (D18.m 0 rfl)) (Ty.up _ (GW.le_lend _ _) (D18.m 1 rfl)) (Ty.up _ (GW.le_lend _ _) (D18.m 2 rfl))  (by first | omega | assumption) (by first | omega | assumption) (by first | omega | assumption) (by first | omega | assumption) (by first | omega | assumption) (by first | omega | assumption))) fun a37 s37 hs19 ok37 r19 sm19 => ?_
        have F38 := (F36.step0 D18.stp).sl hs19
        obtain ⟨t4, ⟨g10, g11, g12, g13, hT3, hp8, hp9⟩, B3⟩ := r19
        have q287 : At (Ty.tup3 (Ty.lst Ty.ints (g13)) (Ty.lst Ty.ints (g12)) (Ty.lst Ty.ints (g11))) s37 a37 (.tmp 98) := Ty.up _ B3.le hT3
        refine tL ok37 (Yld.toL (y_mv q287)) fun a38 s38 hs20 ok38 r20 sm20 => ?_
        have F39 := F38.sl hs20
        have q292 : At (Ty.tup3 (Ty.lst Ty.ints (g13)) (Ty.lst Ty.ints (g12)) (Ty.lst Ty.ints (g11))) s38 a38 (.tmp 94) := r20
        clear r20
        refine tL (R := (fun v τ => Pr.has (Ty.pr (Ty.lst Ty.ints (g13))) τ v)) ok38 (Yld.toL (y_ext3_0 q292)) fun a39 s39 hs21 ok39 r21 sm21 => ?_
        have F40 := F39.sl hs21; have q297 := kq hs21 sm21 94 q292
        have q298 : At (Ty.lst Ty.ints (g13)) s39 a39 (.tmp 99) := r21
        clear r21
        refine tL (R := (fun v τ => Pr.has (Ty.pr (Ty.lst Ty.ints (g12))) τ v)) ok39 (Yld.toL (y_ext3_1 q297)) fun a40 s40 hs22 ok40 r22 sm22 => ?_
        have F41 := F40.sl hs22
        have q305 : At (Ty.lst Ty.ints (g12)) s40 a40 (.tmp 100) := r22
        clear r22
        refine tL (R := (fun v τ => Pr.has (Ty.pr (Ty.lst Ty.ints (g11))) τ v)) ok40 (Yld.toL (y_ext3_2 (kq hs22 sm22 94 q297))) fun a41 s41 hs23 ok41 r23 sm23 => ?_
        have F42 := F41.sl hs23
        have q312 : At (Ty.lst Ty.ints (g11)) s41 a41 (.tmp 101) := r23
        clear r23
        refine tL ok41 (Yld.toL (y_as (kq hs23 sm23 99 (kq hs22 sm22 99 q298)))) fun a42 s42 hs24 ok42 r24 sm24 => ?_
        have F43 := F42.sl hs24
        have q319 : At (Ty.lst Ty.ints (g13)) s42 a42 (.tmp 16) := r24
        clear r24
        refine tL ok42 (Yld.toL (y_as (kq hs24 sm24 100 (kq hs23 sm23 100 q305)))) fun a43 s43 hs25 ok43 r25 sm25 => ?_
        have F44 := F43.sl hs25
        have q326 : At (Ty.lst Ty.ints (g12)) s43 a43 (.tmp 17) := r25
        clear r25
        refine tL ok43 (Yld.toL (y_as (kq hs25 sm25 101 (kq hs24 sm24 101 q312)))) fun a44 s44 hs26 ok44 r26 sm26 => ?_
        have F45 := F44.sl hs26; have q329 := kq hs26 sm26 9 (kq hs25 sm25 9 (kq hs24 sm24 9 (kq hs23 sm23 9 (kq hs22 sm22 9 (kq hs21 sm21 9 (kq hs20 sm20 9 (kq hs19 sm19 9 (D18.k (kq hs18 sm18 9 (kq hs17 sm17 9 (kq hs16 sm16 9 (kq hs15 sm15 9 (kq hs14 sm14 9 (kq hs13 sm13 9 (D17.k (D15.k (D14.k q215)))))))))))))))))
        have q333 : At (Ty.lst Ty.ints (g11)) s44 a44 (.tmp 18) := r26
        clear r26; refine wpList_nil (tn (wp_seq ?_))
        have hSH := hp8.congr hDm
        obtain ⟨hRR, hWW, hNN⟩ := hp4.same hp5 hSH hp9
        obtain ⟨hR, hwl, hnl⟩ := hp4.ok hP
        obtain ⟨hwb, hnb⟩ := hp4.words hP
        have hRl := hR.lim hP hp1.nd hp2 hp3
        have hwm := wordsB_mem hwb
        have hNb : ∀ x ∈ g7, x.length ≤ 1000000 := fun x hx => (by rw [hnb x hx]; omega)
        have hWb : ∀ x ∈ g6, x.length ≤ 1000000 := fun x hx => (by have h_ := hwm x hx; omega)
        obtain ⟨hRD, _, _⟩ := hp8.ok hPD
        have hRDl : g11.length ≤ 1000 := (by rw [← hRR]; exact hRl)
        refine gI a44 s44 ok44 (gM q329 (gE2 ok44 fun a45 s45 ok45 D19 => ?_)); have o181 := OwnP.k0 (OwnP.kl (OwnP.kl (OwnP.kl (OwnP.kl (OwnP.kl (OwnP.kl (OwnP.kl (OwnP.kl o145 hs19) hs20) hs21) hs22) hs23) hs24) hs25) hs26) D19.stp; have o182 := Own.k0 (Own.kl (Own.kl (Own.kl (Own.kl (Own.kl (Own.kl (Own.kl (Own.kl o146 hs19) hs20) hs21) hs22) hs23) hs24) hs25) hs26) D19.stp; have o183 := Own.k0 (Own.kl (Own.kl (Own.kl (Own.kl (Own.kl (Own.kl (Own.kl (Own.kl o147 hs19) hs20) hs21) hs22) hs23) hs24) hs25) hs26) D19.stp; have o184 := OwnM.k0 (OwnM.kl (OwnM.kl (OwnM.kl (OwnM.kl (OwnM.kl (OwnM.kl (OwnM.kl (OwnM.kl o148 hs19) hs20) hs21) hs22) hs23) hs24) hs25) hs26) D19.stp
        have q341 : At (Ty.val x1) s45 a45 (.tmp 103) := D19.done 0 (by decide)
        refine tL ok45 (y_callL (L := [41, 42, 43]) [(61, 41), (62, 42), (63, 43)] [(41, 61), (42, 62), (43, 63)] #[a45.eval (.tmp 103)] rfl (by decide) Try.func35 rfl rfl my1 (cAll_fn (x1) (x2) (x3) (x4) ((g1)) ((g7)) ((g6)) _ (GW.low_lend _ (by decide)) _ (Ty.up _ (GW.le_lend _ _) q341) (OwnP.ren (ownp_cell 2 (Ty.lst Ty.ints ((g1))) o181 rfl (fun _ _ h => (cvt (by (first | rfl | omega | (simp_all; done) | (simp_all; omega))) h))) (GW.ren_lend _ _ (by decide) rfl)) (Own.ren (cvo (by (simp)) (by (simp)) o182) (GW.ren_lend _ _ (by decide) rfl)) (Own.ren (cvo (by (simp)) (by (simp)) o183) (GW.ren_lend _ _ (by decide) rfl)) (by first | omega | assumption) (by first | omega | assumption) (by first | omega | assumption) (by first | omega | assumption))) fun a46 s46 hs27 ok46 r27 sm27 => ?_
        have F47 := (F45.step0 D19.stp).sl hs27
        obtain ⟨t5, ⟨hT4, o185, o186, o187⟩, B4⟩ := r27
        have q349 : At (Ty.tup2 (Ty.lst Ty.ints ((g7))) (Ty.lst Ty.ints ((g6)))) s46 a46 (.tmp 104) := Ty.up _ B4.le hT4
        have o188 : OwnP s46 61 x1 [(Ty.val x2), (Ty.val x3), (Ty.lst Ty.ints ((g1))), (Ty.val x4)] := OwnP.ren o185 (B4.ren (by decide) rfl)
        have o189 : Own s46 62 22 1 x2 (List.length ((g7))) (List.map Ty.ints ((g7))) := Own.ren o186 (B4.ren (by decide) rfl)
        have o190 : Own s46 63 22 1 x3 (List.length ((g6))) (List.map Ty.ints ((g6))) := Own.ren o187 (B4.ren (by decide) rfl)
        refine tL ok46 (Yld.toL (y_mv q349)) fun a47 s47 hs28 ok47 r28 sm28 => ?_
        have F48 := F47.sl hs28
        have q357 : At (Ty.tup2 (Ty.lst Ty.ints ((g7))) (Ty.lst Ty.ints ((g6)))) s47 a47 (.tmp 102) := r28
        clear r28
        refine tL (R := (fun v τ => Pr.has (Ty.pr (Ty.lst Ty.ints ((g7)))) τ v)) ok47 (Yld.toL (y_ext2_0 q357)) fun a48 s48 hs29 ok48 r29 sm29 => ?_
        have F49 := F48.sl hs29
        have q366 : At (Ty.lst Ty.ints ((g7))) s48 a48 (.tmp 105) := r29
        clear r29
        refine tL (R := (fun v τ => Pr.has (Ty.pr (Ty.lst Ty.ints ((g6)))) τ v)) ok48 (Yld.toL (y_ext2_1 (kq hs29 sm29 102 q357))) fun a49 s49 hs30 ok49 r30 sm30 => ?_
        have F50 := F49.sl hs30
        have q375 : At (Ty.lst Ty.ints ((g6))) s49 a49 (.tmp 106) := r30
        clear r30
        refine tL ok49 (Yld.toL (y_as (kq hs30 sm30 105 q366))) fun a50 s50 hs31 ok50 r31 sm31 => ?_
        have F51 := F50.sl hs31
        have q384 : At (Ty.lst Ty.ints ((g7))) s50 a50 (.tmp 19) := r31
        clear r31
        refine tL ok50 (Yld.toL (y_as (kq hs31 sm31 106 q375))) fun a51 s51 hs32 ok51 r32 sm32 => ?_
        have F52 := F51.sl hs32
        have q393 : At (Ty.lst Ty.ints ((g6))) s51 a51 (.tmp 20) := r32
        clear r32; refine wpList_nil (tn (wp_seq (wp_seq ?_)))
        refine gI a51 s51 ok51 (gM (kq hs32 sm32 19 q384) (gM (kq hs32 sm32 16 (kq hs31 sm31 16 (kq hs30 sm30 16 (kq hs29 sm29 16 (kq hs28 sm28 16 (kq hs27 sm27 16 (D19.k (kq hs26 sm26 16 (kq hs25 sm25 16 q319))))))))) (gS rfl (fun A B E I J d0 d1 => rP (y_call _ Try.func29 rfl rfl my2 (rSameAll_fn (((g7))) ((g13)) _ _ _ (ef d0 rfl) (ef d1 rfl) ))) (gS rfl (fun A B E I J d0 => rP (y_not (ef d0 rfl))) (gS rfl (fun A B E I J d0 d1 => rP (y_move (ef d0 rfl))) (gS rfl (fun A B E I J d0 => gu I (ef d0 rfl) fun hg => y_move (kp (J 20 rfl) E q393)) (gS rfl (fun A B E I J d0 => gu I (ef d0 rfl) fun hg => y_move (kp (J 17 rfl) E (kq hs32 sm32 17 (kq hs31 sm31 17 (kq hs30 sm30 17 (kq hs29 sm29 17 (kq hs28 sm28 17 (kq hs27 sm27 17 (D19.k (kq hs26 sm26 17 q326)))))))))) (gS rfl (fun A B E I J d0 d1 d2 d3 => gu I (ef d2 rfl) fun hg => y_call _ Try.func29 rfl rfl my2 (rSameAll_fn (((g6))) ((g12)) _ _ _ ((ef d0 rfl).1 hg) ((ef d1 rfl).1 hg) )) (gS rfl (fun A B E I J d0 d1 => gu I (ef d1 rfl) fun hg => y_not ((ef d0 rfl).1 hg)) (gS rfl (fun A B E I J d0 d1 => rP (y_pick_or (ef d0 rfl) rfl (ef d1 rfl))) (gE ok51 fun a52 s52 ok52 D20 => ?_))))))))))); have q395 := D20.k (kq hs32 sm32 3 (kq hs31 sm31 3 (kq hs30 sm30 3 (kq hs29 sm29 3 (kq hs28 sm28 3 (kq hs27 sm27 3 (D19.k (kq hs26 sm26 3 (kq hs25 sm25 3 (kq hs24 sm24 3 (kq hs23 sm23 3 (kq hs22 sm22 3 (kq hs21 sm21 3 (kq hs20 sm20 3 (kq hs19 sm19 3 (D18.k (kq hs18 sm18 3 (kq hs17 sm17 3 (kq hs16 sm16 3 (kq hs15 sm15 3 (kq hs14 sm14 3 (kq hs13 sm13 3 (D17.k (D15.k (D14.k (D13.k (D12.k (kq hs12 sm12 3 (kq hs11 sm11 3 (kq hs10 sm10 3 q162)))))))))))))))))))))))))))))); have o212 := OwnM.k0 (OwnM.kl (OwnM.kl (OwnM.kl (OwnM.kl (OwnM.kl (OwnM.kl o184 hs27) hs28) hs29) hs30) hs31) hs32) D20.stp; have o213 := OwnP.k0 (OwnP.kl (OwnP.kl (OwnP.kl (OwnP.kl (OwnP.kl o188 hs28) hs29) hs30) hs31) hs32) D20.stp; have o214 := Own.k0 (Own.kl (Own.kl (Own.kl (Own.kl (Own.kl o189 hs28) hs29) hs30) hs31) hs32) D20.stp; have o215 := Own.k0 (Own.kl (Own.kl (Own.kl (Own.kl (Own.kl o190 hs28) hs29) hs30) hs31) hs32) D20.stp; refine tn ?_
        refine cond_t (D20.m 9 rfl) (fun c8 => ?_) (fun c8 => ?_)
        ·
         exfalso
         (rw [hNN, hWW] at c8; simp at c8)
        ·
         obtain ⟨d5, d6⟩ := Bool.or_eq_false_iff.mp c8
         refine wp_skip (tn (wp_seq ?_))
         refine gI a52 s52 ok52 (gM q395 (gS rfl (fun A B E I J d0 => rP (y_call _ Try.func36 rfl rfl my1 (rRowMay_fn (r) _ _ (ef d0 rfl) ))) (gB 0 (gE ok52 fun a53 s53 ok53 D21 => ?_)))); have q401 := D21.k q395; have o216 := OwnM.k0 o212 D21.stp; have o217 := OwnP.k0 o213 D21.stp; have o218 := Own.k0 o214 D21.stp; have o219 := Own.k0 o215 D21.stp; have q405 := D21.m 2 rfl; refine tn (wp_seq (wp_seq ?_))
         refine gI a53 s53 ok53 (gM q405 (gS rfl (fun A B E I J d0 => rP (y_eql (ef d0 rfl) rfl)) (gS rfl (fun A B E I J d0 => rP (y_move (ef d0 rfl))) (gS rfl (fun A B E I J d0 => gu I (ef d0 rfl) fun hg => y_move (kp (J 3 rfl) E q401)) (gS rfl (fun A B E I J d0 d1 => gu I (ef d1 rfl) fun hg => y_len Try.underlying22 ((ef d0 rfl).1 hg)) (gS rfl (fun A B E I J d0 => gu I (ef d0 rfl) fun hg => y_move (kp (J 0 rfl) E (D21.k (D20.k (kq hs32 sm32 0 (kq hs31 sm31 0 (kq hs30 sm30 0 (kq hs29 sm29 0 (kq hs28 sm28 0 (kq hs27 sm27 0 (D19.k (kq hs26 sm26 0 (kq hs25 sm25 0 (kq hs24 sm24 0 (kq hs23 sm23 0 (kq hs22 sm22 0 (kq hs21 sm21 0 (kq hs20 sm20 0 (kq hs19 sm19 0 (D18.k q270)))))))))))))))))))) (gS rfl (fun A B E I J d0 d1 d2 => gu I (ef d2 rfl) fun hg => y_neq ((ef d0 rfl).1 hg) ((ef d1 rfl).1 hg)) (gS rfl (fun A B E I J d0 d1 => rP (y_pick_and (ef d0 rfl) (ef d1 rfl) rfl)) (gE ok53 fun a54 s54 ok54 D22 => ?_))))))))); have F55 := ((F52.step0 D20.stp).step0 D21.stp).step0 D22.stp; have q406 := D22.k q401; have q407 := D22.k (D21.k (D20.k (kq hs32 sm32 9 (kq hs31 sm31 9 (kq hs30 sm30 9 (kq hs29 sm29 9 (kq hs28 sm28 9 (kq hs27 sm27 9 (D19.k q329))))))))); have q408 := D22.k (D21.k (D20.k (kq hs32 sm32 14 (kq hs31 sm31 14 (kq hs30 sm30 14 (kq hs29 sm29 14 (kq hs28 sm28 14 (kq hs27 sm27 14 (D19.k (kq hs26 sm26 14 (kq hs25 sm25 14 (kq hs24 sm24 14 (kq hs23 sm23 14 (kq hs22 sm22 14 (kq hs21 sm21 14 (kq hs20 sm20 14 (kq hs19 sm19 14 (D18.k q274)))))))))))))))))); have q409 := D22.k (D21.k (D20.k (kq hs32 sm32 18 (kq hs31 sm31 18 (kq hs30 sm30 18 (kq hs29 sm29 18 (kq hs28 sm28 18 (kq hs27 sm27 18 (D19.k q333))))))))); have o220 := OwnM.k0 o216 D22.stp; have o221 := OwnP.k0 o217 D22.stp; have o222 := Own.k0 o218 D22.stp; have o223 := Own.k0 o219 D22.stp; refine tn ?_
         refine Go.KL.join_then (Q' := fun a55 w1 => ∃ (t6 : GW), t6.w = w1 ∧ FromL [] s0 t6 ∧ Ok 170 [] a55 ∧ At (Ty.int (fitsE n r)) t6 a55 (.tmp 11) ∧ At (Ty.lst Ty.int r) t6 a55 (.tmp 3) ∧ At (Ty.val x1) t6 a55 (.tmp 9) ∧ At (Ty.lst Ty.ints (g8)) t6 a55 (.tmp 14) ∧ At (Ty.lst Ty.ints (g11)) t6 a55 (.tmp 18) ∧ OwnM Ty.int kI t6 64 x4 (g4) ∧ OwnP t6 61 x1 [(Ty.val x2), (Ty.val x3), (Ty.lst Ty.ints ((g1))), (Ty.val x4)] ∧ Own t6 62 22 1 x2 (List.length ((g7))) (List.map Ty.ints ((g7))) ∧ Own t6 63 22 1 x3 (List.length ((g6))) (List.map Ty.ints ((g6))) ∧ True) ?_ ?_
         ·
          refine cond_t (D22.m 7 rfl) (fun c9 => ?_) (fun c9 => ?_)
          ·
           obtain ⟨d7, d8⟩ := Bool.and_eq_true_iff.mp c9
           replace d7 := of_decide_eq_true d7
           replace d8 := of_decide_eq_true d8
           refine gI a54 s54 ok54 (gC (Ty.int (1 : Int)) (gE ok54 fun a56 s55 ok55 D23 => ?_)); have o224 := OwnM.k0 o220 D23.stp; have o225 := OwnP.k0 o221 D23.stp; have o226 := Own.k0 o222 D23.stp; have o227 := Own.k0 o223 D23.stp
           exact tn ⟨s55, rfl, (F55.step0 D23.stp), ok55, (cvi (by (simp only [Bool.and_eq_true, decide_eq_true_eq] at c9; unfold fitsE; rw [if_neg (fun h_ => h_ c9.1), if_pos (by omega)])) (D23.m 0 rfl)), (D23.k q406), (D23.k q407), (D23.k q408), (D23.k q409), o224, o225, o226, o227, trivial⟩
          ·
           refine wp_skip ?_
           exact tn ⟨s54, rfl, F55, ok54, (cvi (by (simp only [Bool.and_eq_false_iff, decide_eq_false_iff_not] at c9; unfold fitsE; (by_cases h_ : rowMay r = 0; (rw [if_neg (fun h2_ => h2_ h_), if_neg (by omega)]; exact h_); (rw [if_pos h_])))) (D22.k q405)), q406, q407, q408, q409, o220, o221, o222, o223, trivial⟩
         ·
          rintro a57 w2 ⟨t7, rfl, F57, ok56, q417, q418, q419, q420, q421, o228, o229, o230, o231, -⟩
          refine wp_seq ?_
          refine gI a57 t7 ok56 (gC (Ty.int (0 : Int)) (gE ok56 fun a58 s56 ok57 D24 => ?_)); have q422 := D24.k q417; have o232 := OwnM.k0 o228 D24.stp; have o233 := OwnP.k0 o229 D24.stp; have o234 := Own.k0 o230 D24.stp; have o235 := Own.k0 o231 D24.stp; refine tn (wp_seq (wp_seq ?_))
          refine gI a58 s56 ok57 (gM q422 (gS rfl (fun A B E I J d0 => rP (y_eql (ef d0 rfl) rfl)) (gE ok57 fun a59 s57 ok58 D25 => ?_))); have F59 := (F57.step0 D24.stp).step0 D25.stp; have q429 := D25.k (D24.k q418); have q430 := D25.k (D24.k q419); have q433 := D25.k (D24.m 0 rfl); have o236 := OwnM.k0 o232 D25.stp; have o237 := OwnP.k0 o233 D25.stp; have o238 := Own.k0 o234 D25.stp; have o239 := Own.k0 o235 D25.stp; refine tn ?_
          refine Go.KL.join_then (Q' := fun a60 w3 => ∃ (t8 : GW), t8.w = w3 ∧ FromL [] s0 t8 ∧ Ok 170 [] a60 ∧ At (Ty.int (ofE n g8 g11 r)) t8 a60 (.tmp 11) ∧ At (Ty.nat (ofK n g8 g11 r)) t8 a60 (.tmp 21) ∧ At (Ty.lst Ty.int r) t8 a60 (.tmp 3) ∧ At (Ty.val x1) t8 a60 (.tmp 9) ∧ OwnM Ty.int kI t8 64 x4 (g4) ∧ OwnP t8 61 x1 [(Ty.val x2), (Ty.val x3), (Ty.lst Ty.ints ((g1))), (Ty.val x4)] ∧ Own t8 62 22 1 x2 (List.length ((g7))) (List.map Ty.ints ((g7))) ∧ Own t8 63 22 1 x3 (List.length ((g6))) (List.map Ty.ints ((g6))) ∧ True) ?_ ?_
          ·
           refine cond_p (p := ((fitsE n r) = (0 : Int))) (D25.m 1 rfl) (fun c10 => ?_) (fun c10 => ?_)
           ·
            have hr : RowN n r := fits_ok.1 c10; have hrr := hr.row; have hrl := hr.len
            refine wp_seq ?_
            refine gI a59 s57 ok58 (gC (Ty.int (14 : Int)) (gE ok58 fun a61 s58 ok59 D26 => ?_)); have o240 := OwnM.k0 o236 D26.stp; have o241 := OwnP.k0 o237 D26.stp; have o242 := Own.k0 o238 D26.stp; have o243 := Own.k0 o239 D26.stp; refine tn (wp_seq ?_)
            refine gI a61 s58 ok59 (gC (Ty.int (0 : Int)) (gE ok59 fun a62 s59 ok60 D27 => ?_)); have o244 := OwnM.k0 o240 D27.stp; have o245 := OwnP.k0 o241 D27.stp; have o246 := Own.k0 o242 D27.stp; have o247 := Own.k0 o243 D27.stp; refine tn (wp_block ?_)
            refine loop (fun n1 a63 w4 => ∃ (t9 : GW) (k : Nat), t9.w = w4 ∧ FromL [] s0 t9 ∧ Ok 170 [] a63 ∧ At (Ty.nat k) t9 a63 (.tmp 22) ∧ At (Ty.int (if (fndN g8 g11 r k).isSome = true then (0 : Int) else 14)) t9 a63 (.tmp 11) ∧ At (Ty.nat ((fndN g8 g11 r k).getD 0)) t9 a63 (.tmp 21) ∧ At (Ty.lst Ty.int r) t9 a63 (.tmp 3) ∧ At (Ty.val x1) t9 a63 (.tmp 9) ∧ At (Ty.lst Ty.ints (g8)) t9 a63 (.tmp 14) ∧ At (Ty.lst Ty.ints (g11)) t9 a63 (.tmp 18) ∧ OwnM Ty.int kI t9 64 x4 (g4) ∧ OwnP t9 61 x1 [(Ty.val x2), (Ty.val x3), (Ty.lst Ty.ints ((g1))), (Ty.val x4)] ∧ Own t9 62 22 1 x2 (List.length ((g7))) (List.map Ty.ints ((g7))) ∧ Own t9 63 22 1 x3 (List.length ((g6))) (List.map Ty.ints ((g6))) ∧ (k ≤ g11.length) ∧ n1 = g11.length - k) (g11.length - (0)) ?_ ?_
            ·
             exact ⟨s59, 0, rfl, ((F59.step0 D26.stp).step0 D27.stp), ok60, (cvi (by (first | rfl | omega | (simp_all; done) | (simp_all; omega))) (D27.m 0 rfl)), (cvi (by (rfl)) (D27.k (D26.m 0 rfl))), (cvi (by (rfl)) (D27.k (D26.k q433))), (D27.k (D26.k q429)), (D27.k (D26.k q430)), (D27.k (D26.k (D25.k (D24.k q420)))), (D27.k (D26.k (D25.k (D24.k q421)))), o244, o245, o246, o247, by omega, rfl⟩
            ·
             rintro n2 a64 w5 ⟨t10, k, rfl, F62, ok61, q448, q449, q450, q451, q452, q453, q454, o248, o249, o250, o251, hk, rfl⟩
             refine wp_seq (wp_seq ?_)
             refine gI a64 t10 ok61 (gM q448 (gM q454 (gS rfl (fun A B E I J d0 => rP (y_len Try.underlying24 (ef d0 rfl))) (gS rfl (fun A B E I J d0 d1 => rP (y_lss (ef d0 rfl) (ef d1 rfl))) (gE ok61 fun a65 s60 ok62 D28 => ?_))))); have F63 := F62.step0 D28.stp; have q455 := D28.k q448; have q456 := D28.k q449; have q457 := D28.k q450; have q458 := D28.k q451; have q459 := D28.k q452; have q461 := D28.k q454; have o252 := OwnM.k0 o248 D28.stp; have o253 := OwnP.k0 o249 D28.stp; have o254 := Own.k0 o250 D28.stp; have o255 := Own.k0 o251 D28.stp; refine tn ?_
             refine cond_p (p := (((k : Nat) : Int) < (((List.length (g11)) : Nat) : Int))) (D28.m 3 rfl) (fun c11 => ?_) (fun c11 => ?_)
             ·
              have hkr := hRD.rows hPD (show k < g11.length by omega); have hkrr := hkr.row; have hku := hkr.undo; have hkb := hku.bds hrl; have hkul := hku.len; have hkl := hkr.len
              refine wp_skip (tn (wp_seq (wp_block (wp_seq ?_))))
              refine gI a65 s60 ok62 (gM q458 (gM q461 (gM q455 (gT (Ty.ref [(Ty.lst Ty.int ((g11).getD k []))]) rfl (fun A B E I J d0 d1 => rP (y_index1 Try.underlying24 Try.inf22 (ef d0 rfl) (ef d1 rfl) (by omega) (lst_get Ty.ints (g11) [] k (by omega)))) (gS rfl (fun A B E I J d0 => rP (y_load Try.underlying22 rfl (ef d0 rfl) rfl)) (gS rfl (fun A B E I J d0 => rP (y_call _ Try.func23 rfl rfl my1 (rUndo_fn (((g11).getD k [])) _ _ (ef d0 rfl) (by assumption)))) (gS rfl (fun A B E I J d0 d1 d2 => rP (y_call _ Try.func22 rfl rfl my2 (rBy_fn (r) ((undoL (((g11).getD k [])))) _ _ _ (ef d0 rfl) (ef d1 rfl) (by first | assumption | omega) (by first | assumption | omega)))) (gB 0 (gE ok62 fun a66 s61 ok63 D29 => ?_))))))))); have o256 := OwnM.k0 o252 D29.stp; have o257 := OwnP.k0 o253 D29.stp; have o258 := Own.k0 o254 D29.stp; have o259 := Own.k0 o255 D29.stp; refine tn (wp_seq ?_)
              refine gI a66 s61 ok63 (gC (Ty.int (0 : Int)) (gE ok63 fun a67 s62 ok64 D30 => ?_)); have o260 := OwnM.k0 o256 D30.stp; have o261 := OwnP.k0 o257 D30.stp; have o262 := Own.k0 o258 D30.stp; have o263 := Own.k0 o259 D30.stp; refine tn (wp_block ?_)
              refine loop (fun n3 a68 w6 => ∃ (t11 : GW) (m : Nat), t11.w = w6 ∧ FromL [] s0 t11 ∧ Ok 170 [] a68 ∧ At (Ty.nat m) t11 a68 (.tmp 24) ∧ At (Ty.int (if (fndN g8 g11 r k).isSome = true ∨ (byL r (undoL (g11.getD k []))) ∈ g8.take m then (0 : Int) else 14)) t11 a68 (.tmp 11) ∧ At (Ty.nat (if (byL r (undoL (g11.getD k []))) ∈ g8.take m then k else (fndN g8 g11 r k).getD 0)) t11 a68 (.tmp 21) ∧ At (Ty.nat k) t11 a68 (.tmp 22) ∧ At (Ty.lst Ty.int r) t11 a68 (.tmp 3) ∧ At (Ty.val x1) t11 a68 (.tmp 9) ∧ At (Ty.lst Ty.ints (g8)) t11 a68 (.tmp 14) ∧ At (Ty.lst Ty.ints (g11)) t11 a68 (.tmp 18) ∧ At (Ty.lst Ty.int (byL (r) ((undoL (((g11).getD k [])))))) t11 a68 (.tmp 23) ∧ OwnM Ty.int kI t11 64 x4 (g4) ∧ OwnP t11 61 x1 [(Ty.val x2), (Ty.val x3), (Ty.lst Ty.ints ((g1))), (Ty.val x4)] ∧ Own t11 62 22 1 x2 (List.length ((g7))) (List.map Ty.ints ((g7))) ∧ Own t11 63 22 1 x3 (List.length ((g6))) (List.map Ty.ints ((g6))) ∧ (m ≤ g8.length) ∧ n3 = g8.length - m) (g8.length - (0)) ?_ ?_
              ·
               exact ⟨s62, 0, rfl, ((F63.step0 D29.stp).step0 D30.stp), ok64, (cvi (by (first | rfl | omega | (simp_all; done) | (simp_all; omega))) (D30.m 0 rfl)), (cvi (by (simp)) (D30.k (D29.k q456))), (cvi (by (simp)) (D30.k (D29.k q457))), (D30.k (D29.k q455)), (D30.k (D29.k q458)), (D30.k (D29.k q459)), (D30.k (D29.k (D28.k q453))), (D30.k (D29.k q461)), (D30.k (D29.m 7 rfl)), o260, o261, o262, o263, by omega, rfl⟩
              ·
               rintro n4 a69 w7 ⟨t12, m, rfl, F66, ok65, q480, q481, q482, q483, q484, q485, q486, q487, q488, o264, o265, o266, o267, hm, rfl⟩
               refine wp_seq (wp_seq ?_)
               refine gI a69 t12 ok65 (gM q480 (gM q486 (gS rfl (fun A B E I J d0 => rP (y_len Try.underlying24 (ef d0 rfl))) (gS rfl (fun A B E I J d0 d1 => rP (y_lss (ef d0 rfl) (ef d1 rfl))) (gE ok65 fun a70 s63 ok66 D31 => ?_))))); have F67 := F66.step0 D31.stp; have q489 := D31.k q480; have q490 := D31.k q481; have q491 := D31.k q482; have q492 := D31.k q483; have q493 := D31.k q484; have q494 := D31.k q485; have q495 := D31.k q486; have q496 := D31.k q487; have q497 := D31.k q488; have o268 := OwnM.k0 o264 D31.stp; have o269 := OwnP.k0 o265 D31.stp; have o270 := Own.k0 o266 D31.stp; have o271 := Own.k0 o267 D31.stp; refine tn ?_
               refine cond_p (p := (((m : Nat) : Int) < (((List.length (g8)) : Nat) : Int))) (D31.m 3 rfl) (fun c12 => ?_) (fun c12 => ?_)
               ·
                refine wp_skip (tn (wp_seq (wp_block (wp_seq ?_))))
                refine gI a70 s63 ok66 (gM q495 (gM q489 (gT (Ty.ref [(Ty.lst Ty.int ((g8).getD m []))]) rfl (fun A B E I J d0 d1 => rP (y_index1 Try.underlying24 Try.inf22 (ef d0 rfl) (ef d1 rfl) (by omega) (lst_get Ty.ints (g8) [] m (by omega)))) (gS rfl (fun A B E I J d0 => rP (y_load Try.underlying22 rfl (ef d0 rfl) rfl)) (gM q497 (gS rfl (fun A B E I J d0 d1 => rP (y_call _ Try.func37 rfl rfl my2 (rsame_fn (((g8).getD m [])) ((byL (r) ((undoL (((g11).getD k [])))))) _ _ _ (ef d0 rfl) (ef d1 rfl) ))) (gB 0 (gE ok66 fun a71 s64 ok67 D32 => ?_)))))))); have o272 := OwnM.k0 o268 D32.stp; have o273 := OwnP.k0 o269 D32.stp; have o274 := Own.k0 o270 D32.stp; have o275 := Own.k0 o271 D32.stp; refine tn (wp_seq ?_)
                refine gI a71 s64 ok67 (gM (D32.m 6 rfl) (gE ok67 fun a72 s65 ok68 D33 => ?_)); have F69 := (F67.step0 D32.stp).step0 D33.stp; have q509 := D33.k (D32.k q489); have q512 := D33.k (D32.k q492); have q513 := D33.k (D32.k q493); have q514 := D33.k (D32.k q494); have q515 := D33.k (D32.k q495); have q516 := D33.k (D32.k q496); have q517 := D33.k (D32.k q497); have o276 := OwnM.k0 o272 D33.stp; have o277 := OwnP.k0 o273 D33.stp; have o278 := Own.k0 o274 D33.stp; have o279 := Own.k0 o275 D33.stp; refine tn ?_
                refine cond_t (D33.m 0 rfl) (fun c13 => ?_) (fun c13 => ?_)
                ·
                 have hin : (byL r (undoL (g11.getD k []))) ∈ g8.take (m + 1) := (by rw [take_snoc g8 [] m (by omega), ← of_decide_eq_true c13]; simp)
                 refine wp_seq ?_
                 refine gI a72 s65 ok68 (gC (Ty.int (0 : Int)) (gE ok68 fun a73 s66 ok69 D34 => ?_)); have q520 := D34.k q512; have o280 := OwnM.k0 o276 D34.stp; have o281 := OwnP.k0 o277 D34.stp; have o282 := Own.k0 o278 D34.stp; have o283 := Own.k0 o279 D34.stp; refine tn ?_
                 refine gI a73 s66 ok69 (gM q520 (gB 0 (gE ok69 fun a74 s67 ok70 D35 => ?_))); have o284 := OwnM.k0 o280 D35.stp; have o285 := OwnP.k0 o281 D35.stp; have o286 := Own.k0 o282 D35.stp; have o287 := Own.k0 o283 D35.stp; refine bn (tn ?_)
                 refine gI a74 s67 ok70 (gM (D35.k (D34.k q509)) (gT (Ty.nat (m + 1)) rfl (fun A B E I J d0 => rP ((y_add (ef d0 rfl) rfl (w64 (by omega) (by omega))).mono (fun τ _ h => cvi (σ := τ) (by first | omega | exact (Int.natCast_mul _ _).symm) h))) (gB 0 (gE ok70 fun a75 s68 ok71 D36 => ?_)))); have o288 := OwnM.k0 o284 D36.stp; have o289 := OwnP.k0 o285 D36.stp; have o290 := Own.k0 o286 D36.stp; have o291 := Own.k0 o287 D36.stp
                 exact tn ⟨g8.length - ((m+1)), by omega, s68, (m+1), rfl, (((F69.step0 D34.stp).step0 D35.stp).step0 D36.stp), ok71, (cvi (by (first | rfl | omega | (simp_all; done) | (simp_all; omega))) (D36.m 2 rfl)), (cvi (by (rw [if_pos (.inr hin)])) (D36.k (D35.k (D34.m 0 rfl)))), (cvi (by (rw [if_pos hin])) (D36.k (D35.m 1 rfl))), (D36.k (D35.k q520)), (D36.k (D35.k (D34.k q513))), (D36.k (D35.k (D34.k q514))), (D36.k (D35.k (D34.k q515))), (D36.k (D35.k (D34.k q516))), (D36.k (D35.k (D34.k q517))), o288, o289, o290, o291, by omega, rfl⟩
                ·
                 have hin : (byL r (undoL (g11.getD k []))) ∈ g8.take (m + 1) ↔ (byL r (undoL (g11.getD k []))) ∈ g8.take m := (by have h_ : ¬ g8.getD m [] = (byL r (undoL (g11.getD k []))) := of_decide_eq_false c13; rw [take_snoc g8 [] m (by omega), List.mem_append, List.mem_singleton]; exact ⟨fun h => h.resolve_right fun e => h_ e.symm, .inl⟩)
                 refine wp_skip (bn (tn ?_))
                 refine gI a72 s65 ok68 (gM q509 (gT (Ty.nat (m + 1)) rfl (fun A B E I J d0 => rP ((y_add (ef d0 rfl) rfl (w64 (by omega) (by omega))).mono (fun τ _ h => cvi (σ := τ) (by first | omega | exact (Int.natCast_mul _ _).symm) h))) (gB 0 (gE ok68 fun a76 s69 ok72 D37 => ?_)))); have o292 := OwnM.k0 o276 D37.stp; have o293 := OwnP.k0 o277 D37.stp; have o294 := Own.k0 o278 D37.stp; have o295 := Own.k0 o279 D37.stp
                 exact tn ⟨g8.length - ((m+1)), by omega, s69, (m+1), rfl, (F69.step0 D37.stp), ok72, (cvi (by (first | rfl | omega | (simp_all; done) | (simp_all; omega))) (D37.m 2 rfl)), (cvi (by (simp only [hin])) (D37.k (D33.k (D32.k q490)))), (cvi (by (simp only [hin])) (D37.k (D33.k (D32.k q491)))), (D37.k q512), (D37.k q513), (D37.k q514), (D37.k q515), (D37.k q516), (D37.k q517), o292, o293, o294, o295, by omega, rfl⟩
               ·
                have em : m = g8.length := (by omega)
                refine wp_exit (tx (tx (bx (bn (tn ?_)))))
                refine gI a70 s63 ok66 (gM q492 (gT (Ty.nat (k + 1)) rfl (fun A B E I J d0 => rP ((y_add (ef d0 rfl) rfl (w64 (by omega) (by omega))).mono (fun τ _ h => cvi (σ := τ) (by first | omega | exact (Int.natCast_mul _ _).symm) h))) (gB 0 (gE ok66 fun a77 s70 ok73 D38 => ?_)))); have o296 := OwnM.k0 o268 D38.stp; have o297 := OwnP.k0 o269 D38.stp; have o298 := Own.k0 o270 D38.stp; have o299 := Own.k0 o271 D38.stp
                exact tn ⟨g11.length - ((k+1)), by omega, s70, (k+1), rfl, (F67.step0 D38.stp), ok73, (cvi (by (first | rfl | omega | (simp_all; done) | (simp_all; omega))) (D38.m 2 rfl)), (cvi (by (rw [em, List.take_length, fndN_succ hPD hRD hr (by omega)]; by_cases hX_ : (byL r (undoL (g11.getD k []))) ∈ g8; (simp only [hX_, or_true, if_true]; rfl); (simp only [hX_, or_false, if_false]))) (D38.k q490)), (cvi (by (rw [em, List.take_length, fndN_succ hPD hRD hr (by omega)]; by_cases hX_ : (byL r (undoL (g11.getD k []))) ∈ g8; (simp only [hX_, if_true]; rfl); (simp only [hX_, if_false]))) (D38.k q491)), (D38.k q493), (D38.k q494), (D38.k q495), (D38.k q496), o296, o297, o298, o299, by omega, rfl⟩
             ·
              have ek : k = g11.length := (by omega); obtain ⟨hE1, hK1⟩ := ofK_yes (D := g8) (R := g11) (n := n) (r := r) c10
              refine wp_exit (tx (tx (bx ?_)))
              exact tn ⟨s60, rfl, F63, ok62, (cvi (by (rw [hE1, ek, fndN_all])) q456), (cvi (by (rw [hK1, ek, fndN_all])) q457), q458, q459, o252, o253, o254, o255, trivial⟩
           ·
            refine wp_skip ?_
            exact tn ⟨s57, rfl, F59, ok58, (cvi (by (exact (ofK_no c10).1.symm)) (D25.k q422)), (cvi (by (rw [(ofK_no (D := g8) (R := g11) c10).2]; rfl)) q433), q429, q430, o236, o237, o238, o239, trivial⟩
          ·
           rintro a78 w8 ⟨t13, rfl, F75, ok74, q561, q562, q563, q564, o300, o301, o302, o303, -⟩
           refine wp_seq ?_
           refine gI a78 t13 ok74 (gM q564 (gM q563 (gE2 ok74 fun a79 s71 ok75 D39 => ?_))); have o304 := OwnM.k0 o300 D39.stp; have o305 := OwnP.k0 o301 D39.stp; have o306 := Own.k0 o302 D39.stp; have o307 := Own.k0 o303 D39.stp
           have q567 : At (Ty.val x1) s71 a79 (.tmp 157) := D39.done 0 (by decide)
           refine tL ok75 (y_callL (L := [41, 44]) [(61, 41), (64, 44)] [(41, 61), (44, 64)] #[a79.eval (.tmp 157), a79.eval (.tmp 158)] rfl (by decide) Try.func38 rfl rfl my2 (cOf_fn (x1) (x2) (x3) (x4) (((g1))) (n) (G) (g5) ((g4)) (r) _ (GW.low_lend _ (by decide)) _ _ (Ty.up _ (GW.le_lend _ _) q567) (Ty.up _ (GW.le_lend _ _) (D39.m 1 rfl)) (OwnP.ren (ownp_cell 2 (Ty.lst Ty.ints (((g1)))) o305 rfl (fun _ _ h => (cvt (by (first | rfl | omega | (simp_all; done) | (simp_all; omega))) h))) (GW.ren_lend _ _ (by decide) rfl)) (OwnM.ren (cvm (by (rfl)) o304) (GW.ren_lend _ _ (by decide) rfl)) (by first | omega | assumption) (by first | omega | assumption) (by first | omega | assumption))) fun a80 s72 hs33 ok76 r33 sm33 => ?_
           have F77 := (F75.step0 D39.stp).sl hs33
           obtain ⟨t14, ⟨hT5, o308, o309⟩, B5⟩ := r33
           have q571 : At (Ty.tup2 (Ty.nat (ofK n (((g1))) (g5) r)) (Ty.int (ofE n (((g1))) (g5) r))) s72 a80 (.tmp 159) := Ty.up _ B5.le hT5
           have o310 : OwnP s72 61 x1 [(Ty.val x2), (Ty.val x3), (Ty.lst Ty.ints (((g1)))), (Ty.val x4)] := OwnP.ren o308 (B5.ren (by decide) rfl)
           have o311 : OwnM Ty.int kI s72 64 x4 ((g4)) := OwnM.ren o309 (B5.ren (by decide) rfl)
           refine tL ok76 (Yld.toL (y_mv q571)) fun a81 s73 hs34 ok77 r34 sm34 => ?_
           have F78 := F77.sl hs34
           have q574 : At (Ty.tup2 (Ty.nat (ofK n (((g1))) (g5) r)) (Ty.int (ofE n (((g1))) (g5) r))) s73 a81 (.tmp 156) := r34
           clear r34
           refine tL (R := (fun v τ => Pr.has (Ty.pr (Ty.nat (ofK n (((g1))) (g5) r))) τ v)) ok77 (Yld.toL (y_ext2_0 q574)) fun a82 s74 hs35 ok78 r35 sm35 => ?_
           have F79 := F78.sl hs35
           have q578 : At (Ty.nat (ofK n (((g1))) (g5) r)) s74 a82 (.tmp 160) := r35
           clear r35
           refine tL (R := (fun v τ => Pr.has (Ty.pr (Ty.int (ofE n (((g1))) (g5) r))) τ v)) ok78 (Yld.toL (y_ext2_1 (kq hs35 sm35 156 q574))) fun a83 s75 hs36 ok79 r36 sm36 => ?_
           have F80 := F79.sl hs36
           have q582 : At (Ty.int (ofE n (((g1))) (g5) r)) s75 a83 (.tmp 161) := r36
           clear r36
           refine tL ok79 (Yld.toL (y_as (kq hs36 sm36 160 q578))) fun a84 s76 hs37 ok80 r37 sm37 => ?_
           have F81 := F80.sl hs37
           have q586 : At (Ty.nat (ofK n (((g1))) (g5) r)) s76 a84 (.tmp 26) := r37
           clear r37
           refine tL ok80 (Yld.toL (y_as (kq hs37 sm37 161 q582))) fun a85 s77 hs38 ok81 r38 sm38 => ?_
           have F82 := F81.sl hs38
           have q590 : At (Ty.int (ofE n (((g1))) (g5) r)) s77 a85 (.tmp 10) := r38
           clear r38; refine wpList_nil (tn (wp_seq ?_))
           refine gI a85 s77 ok81 (gM q590 (gM (kq hs38 sm38 11 (kq hs37 sm37 11 (kq hs36 sm36 11 (kq hs35 sm35 11 (kq hs34 sm34 11 (kq hs33 sm33 11 (D39.k q561))))))) (gS rfl (fun A B E I J d0 d1 => rP (y_eql (ef d0 rfl) (ef d1 rfl))) (gS rfl (fun A B E I J d0 => rP (y_move (ef d0 rfl))) (gS rfl (fun A B E I J d0 => gu I (ef d0 rfl) fun hg => y_move (kp (J 26 rfl) E (kq hs38 sm38 26 q586))) (gS rfl (fun A B E I J d0 => gu I (ef d0 rfl) fun hg => y_move (kp (J 21 rfl) E (kq hs38 sm38 21 (kq hs37 sm37 21 (kq hs36 sm36 21 (kq hs35 sm35 21 (kq hs34 sm34 21 (kq hs33 sm33 21 (D39.k q562))))))))) (gS rfl (fun A B E I J d0 d1 d2 => gu I (ef d2 rfl) fun hg => y_eql ((ef d0 rfl).1 hg) ((ef d1 rfl).1 hg)) (gS rfl (fun A B E I J d0 d1 => rP (y_pick_and (ef d0 rfl) (ef d1 rfl) rfl)) (gB 0 (gE ok81 fun a86 s78 ok82 D40 => ?_)))))))))); have o334 := Own.k0 (Own.kl (Own.kl (Own.kl (Own.kl (Own.kl (Own.kl o306 hs33) hs34) hs35) hs36) hs37) hs38) D40.stp; have o335 := Own.k0 (Own.kl (Own.kl (Own.kl (Own.kl (Own.kl (Own.kl o307 hs33) hs34) hs35) hs36) hs37) hs38) D40.stp; have o336 := OwnP.k0 (OwnP.kl (OwnP.kl (OwnP.kl (OwnP.kl (OwnP.kl o310 hs34) hs35) hs36) hs37) hs38) D40.stp; have o337 := OwnM.k0 (OwnM.kl (OwnM.kl (OwnM.kl (OwnM.kl (OwnM.kl o311 hs34) hs35) hs36) hs37) hs38) D40.stp; refine tn (wp_ret ?_)
           exact retL1 rfl ok82 (F82.step0 D40.stp) (cvb (by (obtain ⟨h1_, h2_⟩ := of_congr (n := n) (R := g11) (r := r) hDm; rw [hRR, h1_, h2_]; simp)) (D40.m 8 rfl))
  ·
   exfalso
   exact c2 hS0
 ·
  exfalso
  exact c1 hG0


theorem cosetSays_fn (n : Int) (G S : List (List Int)) (r : List Int) (σ : GW) (v0 v1 v2 v3 : Value) (hv0 : Ty.has (Ty.int n) σ v0) (hv1 : Ty.has (Ty.lst Ty.ints G) σ v1) (hv2 : Ty.has (Ty.lst Ty.ints S) σ v2) (hv3 : Ty.has (Ty.lst Ty.int r) σ v3) : FnC Try.prog 6 #[v0, v1, v2, v3] σ (Ty.bool true) := by
  by_cases h : gensMay n G = 0
  · obtain ⟨m, rfl⟩ := may_int h
    by_cases h2 : mkC (m : Int) G S = 0
    · exact cSaysC_fn m G S r σ v0 v1 v2 v3 hv0 hv1 hv2 hv3 h2
    · exact cSaysB_fn m G S r σ v0 v1 v2 v3 hv0 hv1 hv2 hv3 h h2
  · exact cSaysA_fn n G S r σ v0 v1 v2 v3 hv0 hv1 hv2 hv3 h


set_option maxHeartbeats 4000000 in
set_option maxRecDepth 100000 in
theorem cosetMade_fn (raw : List Int) (n : Int) (many : Int) (few : Int) (k : Int) (odd : Bool) (σ : GW)  (v0 v1 v2 v3 v4 v5 : Value) (hv0 : Ty.has (Ty.lst Ty.int raw) σ v0) (hv1 : Ty.has (Ty.int n) σ v1) (hv2 : Ty.has (Ty.int many) σ v2) (hv3 : Ty.has (Ty.int few) σ v3) (hv4 : Ty.has (Ty.int k) σ v4) (hv5 : Ty.has (Ty.bool odd) σ v5)  (hraw : ∀ x ∈ raw, -9223372036854775808 ≤ x ∧ x ≤ 9223372036854775807) (hn : -9223372036854775808 ≤ n ∧ n ≤ 9223372036854775807) (hmany : -9223372036854775808 ≤ many ∧ many ≤ 9223372036854775807) (hfew : -9223372036854775808 ≤ few ∧ few ≤ 9223372036854775807) (hk : -9223372036854775808 ≤ k ∧ k ≤ 9223372036854775807) :
    FnC Try.prog 7 #[v0, v1, v2, v3, v4, v5] σ (Ty.bool true) := by
 have hp_n := pick_lt n (n := 6) (by omega)
 have hp_many := pick_lt many (n := 4) (by omega)
 have hp_few := pick_lt few (n := 3) (by omega)
 obtain ⟨N, hN⟩ : ∃ N, N = 1 + pick n 6 := ⟨_, rfl⟩
 have hN12 : 1 ≤ N ∧ N ≤ 12 := (by omega)
 obtain ⟨GS, hGS⟩ : ∃ GS, GS = rowsOf raw 0 N (pick many 4) := ⟨_, rfl⟩
 have hGr : ∀ x ∈ GS, RowN N x := by (rw [hGS]; exact rowsOf_row hN12)
 have hGl : GS.length ≤ 8 := by (rw [hGS, rowsOf_len]; omega)
 have hrw : ∀ k, -9223372036854775808 ≤ rawAt raw k ∧ rawAt raw k ≤ 9223372036854775807 := fun k => rawAt_bd hraw k
 have hfp := fct_pos N
 have hpk := pick_lt k (n := fct N) hfp
 have hzr := rounds_rowN hN12
 refine fn_intro0 Try.func7 rfl Try.ntmps7 (Nat.le_of_ble_eq_true rfl) (fun s0 a0 hle F0 ok0 hargs => ?_)
 have p0 := pA hle (hargs 0 _ rfl) hv0
 have b1 := sl_le p0
 have p1 := pA hle (hargs 1 _ rfl) hv1
 have p2 := pA hle (hargs 2 _ rfl) hv2
 have p3 := pA hle (hargs 3 _ rfl) hv3
 have p4 := pA hle (hargs 4 _ rfl) hv4
 have p5 := pA hle (hargs 5 _ rfl) hv5
 clear hargs; refine wp_seq ?_
 refine gI a0 s0 ok0 (gC (Ty.bool false) (gE ok0 fun a1 s1 ok1 D1 => ?_)); have q1 := D1.k p0; refine tn (wp_seq (wp_seq ?_))
 refine gI a1 s1 ok1 (gM q1 (gS rfl (fun A B E I J d0 => rP (y_len Try.underlying22 (ef d0 rfl))) (gS rfl (fun A B E I J d0 => rP (y_gtr (ef d0 rfl) rfl)) (gE ok1 fun a2 s2 ok2 D2 => ?_)))); have F2 := (F0.step0 D1.stp).step0 D2.stp; refine tn ?_
 refine cond_p (p := ((256 : Int) < (((List.length raw) : Nat) : Int))) (D2.m 2 rfl) (fun c1 => ?_) (fun c1 => ?_)
 ·
  refine wp_seq ?_
  refine gI a2 s2 ok2 (gC (Ty.bool true) (gE ok2 fun a3 s3 ok3 D3 => ?_)); refine tn (wp_ret (tr ?_))
  exact retL1 rfl ok3 (F2.step0 D3.stp) (D3.m 0 rfl)
 ·
  refine wp_skip (tn (wp_seq ?_))
  refine gI a2 s2 ok2 (gM (D2.k (D1.k p1)) (gS rfl (fun A B E I J d0 => rP (y_call #[A.eval (.tmp 21), A.eval ((Operand.const (Value.int IntKind.i64 6)))] Try.func15 rfl rfl my2 (pick_fn (n) (6) _ _ _ (cvi (σ := B) (by omega) (ef d0 rfl)) (cvi (σ := B) (by omega) rfl) (by omega) (by omega)))) (gT (Ty.nat (1 + (pick (n) (6)))) rfl (fun A B E I J d0 => rP ((y_add rfl (ef d0 rfl) (w64 (by omega) (by omega))).mono (fun τ _ h => cvi (σ := τ) (by first | omega | exact (Int.natCast_mul _ _).symm) h))) (gB 0 (gE ok2 fun a4 s4 ok4 D4 => ?_))))); have q15 := D4.k (D2.k q1)
  have q21 : At (Ty.nat N) s4 a4 (.tmp 1) := (cvi (by (rw [hN])) (D4.m 3 rfl))
  refine tn (wp_seq ?_)
  refine gI a4 s4 ok4 (gM q15 (gM q21 (gM (D4.k (D2.k (D1.k p2))) (gS rfl (fun A B E I J d0 => rP (y_call #[A.eval (.tmp 26), A.eval ((Operand.const (Value.int IntKind.i64 4)))] Try.func15 rfl rfl my2 (pick_fn (many) (4) _ _ _ (cvi (σ := B) (by omega) (ef d0 rfl)) (cvi (σ := B) (by omega) rfl) (by omega) (by omega)))) (gS rfl (fun A B E I J d0 d1 d2 d3 => rP (y_call #[A.eval (.tmp 24), A.eval ((Operand.const (Value.int IntKind.i64 0))), A.eval (.tmp 25), A.eval (.tmp 27)] Try.func16 rfl rfl my4 (rRowsOf_fn (raw) (0) (N) ((pick (many) (4))) _ _ _ _ _ (ef d0 rfl) (cvi (σ := B) (by first | omega | exact wr64_bd _ | assumption) rfl) (cvi (σ := B) (by first | omega | exact wr64_bd _ | assumption) (ef d1 rfl)) (cvi (σ := B) (by first | omega | exact wr64_bd _ | assumption) (ef d2 rfl)) (by first | omega | exact wr64_bd _ | assumption) (by first | omega | exact wr64_bd _ | assumption) (by first | omega | exact wr64_bd _ | assumption)))) (gB 0 (gE ok4 fun a5 s5 ok5 D5 => ?_)))))))
  have q28 : At (Ty.lst Ty.ints GS) s5 a5 (.tmp 13) := (cvt (by (rw [hGS])) (D5.m 5 rfl))
  refine tn (wp_seq ?_)
  refine gI a5 s5 ok5 (gC (Ty.val (Value.slice none 0 0)) (gE ok5 fun a6 s6 ok6 D6 => ?_)); refine tn (wp_seq (wp_seq ?_))
  refine gI a6 s6 ok6 (gC (Ty.int (0 : Int)) (gE ok6 fun a7 s7 ok7 D7 => ?_)); refine tn (wp_block ?_)
  have o1 : Own s7 20 22 1 (Value.slice none 0 0) 0 (List.map Ty.ints ([] : List (List Int))) := Own.nil _ _ _ _
  refine loop (fun n1 a8 w1 => ∃ (t1 : GW) (i : Nat) (SS : (List (List Int))) (x14_0 : Value), t1.w = w1 ∧ FromL [] s0 t1 ∧ Ok 75 [] a8 ∧ At (Ty.nat i) t1 a8 (.tmp 15) ∧ At (Ty.val x14_0) t1 a8 (.tmp 14) ∧ At (Ty.lst Ty.int raw) t1 a8 (.tmp 0) ∧ At (Ty.int few) t1 a8 (.tmp 3) ∧ At (Ty.int k) t1 a8 (.tmp 4) ∧ At (Ty.bool odd) t1 a8 (.tmp 5) ∧ At (Ty.nat N) t1 a8 (.tmp 1) ∧ At (Ty.lst Ty.ints GS) t1 a8 (.tmp 13) ∧ Own t1 20 22 1 x14_0 (List.length SS) (List.map Ty.ints SS) ∧ (i ≤ pick few 3) ∧ (SS.length = i) ∧ n1 = pick few 3 - i) (pick few 3 - (0)) ?_ ?_
  ·
   exact ⟨s7, 0, ([] : List (List Int)), (Value.slice none 0 0), rfl, ((((F2.step0 D4.stp).step0 D5.stp).step0 D6.stp).step0 D7.stp), ok7, (cvi (by (first | rfl | omega | (simp_all; done) | (simp_all; omega))) (D7.m 0 rfl)), (D7.k (D6.m 0 rfl)), (D7.k (D6.k (D5.k q15))), (D7.k (D6.k (D5.k (D4.k (D2.k (D1.k p3)))))), (D7.k (D6.k (D5.k (D4.k (D2.k (D1.k p4)))))), (D7.k (D6.k (D5.k (D4.k (D2.k (D1.k p5)))))), (D7.k (D6.k (D5.k q21))), (D7.k (D6.k q28)), (cvo (by (first | rfl | simp)) (by (first | rfl | simp)) o1), by omega, rfl, rfl⟩
  ·
   rintro n2 a9 w2 ⟨t2, i, SS, x14_0, rfl, F8, ok8, q44, q45, q46, q47, q48, q49, q50, q51, o2, hi, hSl, rfl⟩
   refine wp_seq (wp_seq ?_)
   refine gI a9 t2 ok8 (gM q44 (gM q47 (gS rfl (fun A B E I J d0 => rP (y_call #[A.eval (.tmp 30), A.eval ((Operand.const (Value.int IntKind.i64 3)))] Try.func15 rfl rfl my2 (pick_fn (few) (3) _ _ _ (cvi (σ := B) (by omega) (ef d0 rfl)) (cvi (σ := B) (by omega) rfl) (by omega) (by omega)))) (gS rfl (fun A B E I J d0 d1 => rP (y_lss (ef d0 rfl) (ef d1 rfl))) (gE ok8 fun a10 s8 ok9 D8 => ?_))))); have F9 := F8.step0 D8.stp; have q52 := D8.k q44; have q53 := D8.k q45; have q54 := D8.k q46; have q55 := D8.k q47; have q56 := D8.k q48; have q57 := D8.k q49; have q58 := D8.k q50; have q59 := D8.k q51; have o3 := Own.k0 o2 D8.stp; have q60 := D8.m 3 rfl; refine tn ?_
   refine cond_p (p := (((i : Nat) : Int) < (((pick (few) (3)) : Nat) : Int))) q60 (fun c2 => ?_) (fun c2 => ?_)
   ·
    refine wp_skip (tn (wp_seq (wp_block (wp_seq ?_))))
    refine gI a10 s8 ok9 (gM q58 (gS rfl (fun A B E I J d0 => rP (y_call _ Try.func39 rfl rfl my1 (rRounds_fn (N) _ _ (cvi (σ := B) (by omega) (ef d0 rfl)) (by omega)))) (gB 0 (gE ok9 fun a11 s9 ok10 D9 => ?_)))); have o4 := Own.k0 o3 D9.stp; refine tn (wp_seq (wp_seq ?_))
    refine gI a11 s9 ok10 (gC (Ty.int (0 : Int)) (gE ok10 fun a12 s10 ok11 D10 => ?_)); have o5 := Own.k0 o4 D10.stp; refine tn (wp_block ?_)
    refine loop (fun n3 a13 w3 => ∃ (t3 : GW) (j : Nat) (X : (List Int)), t3.w = w3 ∧ FromL [] s0 t3 ∧ Ok 75 [] a13 ∧ At (Ty.nat j) t3 a13 (.tmp 17) ∧ At (Ty.lst Ty.int X) t3 a13 (.tmp 16) ∧ At (Ty.nat i) t3 a13 (.tmp 15) ∧ At (Ty.val x14_0) t3 a13 (.tmp 14) ∧ At (Ty.lst Ty.int raw) t3 a13 (.tmp 0) ∧ At (Ty.int few) t3 a13 (.tmp 3) ∧ At (Ty.int k) t3 a13 (.tmp 4) ∧ At (Ty.bool odd) t3 a13 (.tmp 5) ∧ At (Ty.nat N) t3 a13 (.tmp 1) ∧ At (Ty.lst Ty.ints GS) t3 a13 (.tmp 13) ∧ Own t3 20 22 1 x14_0 (List.length SS) (List.map Ty.ints SS) ∧ (RowN N X) ∧ (j ≤ 5) ∧ n3 = 5 - j) (5 - (0)) ?_ ?_
    ·
     exact ⟨s10, 0, (roundsL N), rfl, ((F9.step0 D9.stp).step0 D10.stp), ok11, (cvi (by (first | rfl | omega | (simp_all; done) | (simp_all; omega))) (D10.m 0 rfl)), (cvt (by (first | rfl | omega | (simp_all; done) | (simp_all; omega))) (D10.k (D9.m 2 rfl))), (D10.k (D9.k q52)), (D10.k (D9.k q53)), (D10.k (D9.k q54)), (D10.k (D9.k q55)), (D10.k (D9.k q56)), (D10.k (D9.k q57)), (D10.k (D9.k q58)), (D10.k (D9.k q59)), o5, hzr, by omega, rfl⟩
    ·
     rintro n4 a14 w4 ⟨t4, j, X, rfl, F12, ok12, q80, q81, q82, q83, q84, q85, q86, q87, q88, q89, o6, hX, hj, rfl⟩
     refine wp_seq (wp_seq ?_)
     refine gI a14 t4 ok12 (gM q80 (gS rfl (fun A B E I J d0 => rP (y_lss (ef d0 rfl) rfl)) (gS rfl (fun A B E I J d0 => rP (y_move (ef d0 rfl))) (gS rfl (fun A B E I J d0 => gu I (ef d0 rfl) fun hg => y_move (kp (J 13 rfl) E q89)) (gS rfl (fun A B E I J d0 d1 => gu I (ef d1 rfl) fun hg => y_len Try.underlying24 ((ef d0 rfl).1 hg)) (gS rfl (fun A B E I J d0 d1 => gu I (ef d1 rfl) fun hg => y_gtr ((ef d0 rfl).1 hg) rfl) (gS rfl (fun A B E I J d0 d1 => rP (y_pick_and (ef d0 rfl) (ef d1 rfl) rfl)) (gE ok12 fun a15 s11 ok13 D11 => ?_)))))))); have F13 := F12.step0 D11.stp; have q90 := D11.k q80; have q91 := D11.k q81; have q92 := D11.k q82; have q93 := D11.k q83; have q94 := D11.k q84; have q95 := D11.k q85; have q96 := D11.k q86; have q97 := D11.k q87; have q98 := D11.k q88; have q99 := D11.k q89; have o7 := Own.k0 o6 D11.stp; refine tn ?_
     refine cond_t (D11.m 6 rfl) (fun c3 => ?_) (fun c3 => ?_)
     ·
      obtain ⟨d1, d2⟩ := Bool.and_eq_true_iff.mp c3
      replace d1 := of_decide_eq_true d1
      replace d2 := of_decide_eq_true d2
      simp only [Bool.and_eq_true, decide_eq_true_eq] at c3; have hpl := pick_lt (rawAt raw (7 * i + j)) (n := GS.length) (by omega); have hrj := hrw (7 * i + j); have hgr := hGr _ (mem_atD [] hpl); have hXr := hX.row; have hXl := hX.len; have hgb := hgr.bds hXl; have hgl := hgr.len
      refine wp_skip (tn (wp_seq (wp_block ?_)))
      refine gI a15 s11 ok13 (gM q91 (gM q99 (gM q94 (gM q92 (gT (Ty.nat (7 * i)) rfl (fun A B E I J d0 => rP ((y_mul rfl (ef d0 rfl) (w64 (by omega) (by omega))).mono (fun τ _ h => cvi (σ := τ) (by first | omega | exact (Int.natCast_mul _ _).symm) h))) (gM q90 (gT (Ty.nat ((7 * i) + j)) rfl (fun A B E I J d0 d1 => rP ((y_add (ef d0 rfl) (ef d1 rfl) (w64 (by omega) (by omega))).mono (fun τ _ h => cvi (σ := τ) (by first | omega | exact (Int.natCast_mul _ _).symm) h))) (gS rfl (fun A B E I J d0 d1 => rP (y_call _ Try.func40 rfl rfl my2 (raw_fn (raw) (((7 * i) + j)) _ _ _ (ef d0 rfl) (cvi (σ := B) (by omega) (ef d1 rfl)) ))) (gM q99 (gS rfl (fun A B E I J d0 => rP (y_len Try.underlying24 (ef d0 rfl))) (gS rfl (fun A B E I J d0 d1 d2 => rP (y_call _ Try.func15 rfl rfl my2 (pick_fn ((rawAt raw (((7 * i) + j)))) ((List.length GS)) _ _ _ (cvi (σ := B) (by omega) (ef d0 rfl)) (cvi (σ := B) (by omega) (ef d1 rfl)) (by omega) (by omega)))) (gT (Ty.ref [(Ty.lst Ty.int (GS.getD (pick ((rawAt raw (((7 * i) + j)))) ((List.length GS))) []))]) rfl (fun A B E I J d0 d1 => rP (y_index1 Try.underlying24 Try.inf22 (ef d0 rfl) (ef d1 rfl) (by omega) (lst_get Ty.ints GS [] (pick ((rawAt raw (((7 * i) + j)))) ((List.length GS))) (by omega)))) (gS rfl (fun A B E I J d0 => rP (y_load Try.underlying22 rfl (ef d0 rfl) rfl)) ?_)))))))))))))
      refine gS rfl (fun A B E I J d0 d1 d2 => rP (y_call _ Try.func22 rfl rfl my2 (rBy_fn (X) ((GS.getD (pick ((rawAt raw (((7 * i) + j)))) ((List.length GS))) [])) _ _ _ (ef d0 rfl) (ef d1 rfl) (by first | assumption | omega) (by first | assumption | omega)))) (gB 0 (gE ok13 fun a16 s12 ok14 D12 => ?_)); have o8 := Own.k0 o7 D12.stp; refine bn (tn ?_)
      refine gI a16 s12 ok14 (gM (D12.k q90) (gT (Ty.nat (j + 1)) rfl (fun A B E I J d0 => rP ((y_add (ef d0 rfl) rfl (w64 (by omega) (by omega))).mono (fun τ _ h => cvi (σ := τ) (by first | omega | exact (Int.natCast_mul _ _).symm) h))) (gB 0 (gE ok14 fun a17 s13 ok15 D13 => ?_)))); have o9 := Own.k0 o8 D13.stp
      exact tn ⟨5 - ((j + 1)), by omega, s13, (j + 1), (byL X (GS.getD (pick (rawAt raw (7 * i + j)) GS.length) [])), rfl, ((F13.step0 D12.stp).step0 D13.stp), ok15, (cvi (by (first | rfl | omega | (simp_all; done) | (simp_all; omega))) (D13.m 2 rfl)), (cvt (by (first | rfl | omega | (simp_all; done) | (simp_all; omega))) (D13.k (D12.m 14 rfl))), (D13.k (D12.k q92)), (D13.k (D12.k q93)), (D13.k (D12.k q94)), (D13.k (D12.k q95)), (D13.k (D12.k q96)), (D13.k (D12.k q97)), (D13.k (D12.k q98)), (D13.k (D12.k q99)), o9, hX.by hgr, by omega, rfl⟩
     ·
      refine wp_exit (tx (tx (bx (tn ?_))))
      refine gI a15 s11 ok13 (gM q93 (gM q91 (gT (Ty.sl 1 1 [(Ty.lst Ty.int X)]) rfl (fun A B E I J d0 => rP (y_build1o Try.underlying24 Try.inf22 rfl (one_sl) (ef d0 rfl))) (gE2 ok13 fun a18 s14 ok16 D14 => ?_)))); have o10 := Own.k0 o7 D14.stp
      have q129 : At (Ty.val x14_0) s14 a18 (.tmp 60) := D14.done 0 (by decide)
      have q130 := D14.m 2 rfl
      have b2 := sl_le q130
      refine tL ok16 (YldM.toL (m_append Try.underlying24 Try.inf22 (by decide) rfl (by decide) (al (R := (Pr.own 20 22 1 (List.length SS) (List.map Ty.ints SS))) q129 o10) q130 (by intro U hU; simp at hU; subst hU; exact one_sl) (by omega) (by omega))) fun a19 s15 hs1 ok17 r1 sm1 => ?_
      have F17 := (F13.step0 D14.stp).sl hs1; have q132 := kq hs1 sm1 14 (D14.k q93)
      obtain ⟨x1, hx1⟩ : ∃ x, a19.eval (.tmp 63) = x := ⟨_, rfl⟩
      have q139 : At (Ty.val x1) s15 a19 (.tmp 63) := hx1
      have o11 := al2 (R := (Pr.own 20 22 1 (List.length (SS ++ [X])) (List.map Ty.ints (SS ++ [X])))) hx1 (cvo (by simp) (by first | (rw [List.map_append]; rfl) | simp) r1)
      clear r1
      refine tL ok17 (Yld.toL (y_as q139)) fun a20 s16 hs2 ok18 r2 sm2 => ?_
      have F18 := F17.sl hs2
      have q147 : At (Ty.val x1) s16 a20 (.tmp 14) := r2
      clear r2; refine wpList_nil (bn (tn ?_))
      refine gI a20 s16 ok18 (gM (kq hs2 sm2 15 (kq hs1 sm1 15 (D14.k q92))) (gT (Ty.nat (i + 1)) rfl (fun A B E I J d0 => rP ((y_add (ef d0 rfl) rfl (w64 (by omega) (by omega))).mono (fun τ _ h => cvi (σ := τ) (by first | omega | exact (Int.natCast_mul _ _).symm) h))) (gB 0 (gE ok18 fun a21 s17 ok19 D15 => ?_)))); have o13 := Own.k0 (Own.kl o11 hs2) D15.stp
      exact tn ⟨pick few 3 - ((i + 1)), by omega, s17, (i + 1), (SS ++ [X]), x1, rfl, (F18.step0 D15.stp), ok19, (cvi (by (first | rfl | omega | (simp_all; done) | (simp_all; omega))) (D15.m 2 rfl)), (D15.k q147), (D15.k (kq hs2 sm2 0 (kq hs1 sm1 0 (D14.k q94)))), (D15.k (kq hs2 sm2 3 (kq hs1 sm1 3 (D14.k q95)))), (D15.k (kq hs2 sm2 4 (kq hs1 sm1 4 (D14.k q96)))), (D15.k (kq hs2 sm2 5 (kq hs1 sm1 5 (D14.k q97)))), (D15.k (kq hs2 sm2 1 (kq hs1 sm1 1 (D14.k q98)))), (D15.k (kq hs2 sm2 13 (kq hs1 sm1 13 (D14.k q99)))), (cvo (by (first | rfl | simp)) (by (first | rfl | simp)) o13), by omega, by (rw [List.length_append, hSl]; rfl), rfl⟩
   ·
    refine wp_exit (tx (tx (bx (tn (wp_seq (wp_seq ?_))))))
    obtain ⟨t5, e1, h1, q156⟩ := Own.seal o3 (by decide)
    rw [← e1]
    have F20 := F9.step h1 (by decide); have q157 := Ty.up (Ty.nat i) (h1.le (by decide)) q52
    have q158 : At (Ty.lst Ty.ints SS) t5 a10 (.tmp 14) := by have e : a10.eval (.tmp 14) = x14_0 := q53; show Ty.has _ _ _; rw [e]; exact q156
    have q159 := Ty.up (Ty.lst Ty.int raw) (h1.le (by decide)) q54; have q160 := Ty.up (Ty.int few) (h1.le (by decide)) q55; have q161 := Ty.up (Ty.int k) (h1.le (by decide)) q56; have q162 := Ty.up (Ty.bool odd) (h1.le (by decide)) q57; have q163 := Ty.up (Ty.nat N) (h1.le (by decide)) q58; have q164 := Ty.up (Ty.lst Ty.ints GS) (h1.le (by decide)) q59; have q165 := Ty.up (Ty.bool (decide (((i : Nat) : Int) < (((pick (few) (3)) : Nat) : Int)))) (h1.le (by decide)) q60
    refine gI a10 t5 ok9 (gM q162 (gE ok9 fun a22 s18 ok20 D16 => ?_)); have F21 := F20.step0 D16.stp; have q168 := D16.k q161; have q169 := D16.k q163; have q170 := D16.k q164; refine tn ?_
    refine cond_t (D16.m 0 rfl) (fun c4 => ?_) (fun c4 => ?_)
    ·
     refine gI a22 s18 ok20 (gM (D16.k q159) (gM q169 (gS rfl (fun A B E I J d0 d1 => rP (y_call #[A.eval (.tmp 65), A.eval ((Operand.const (Value.int IntKind.i64 5))), A.eval (.tmp 66), A.eval ((Operand.const (Value.int IntKind.i64 1)))] Try.func16 rfl rfl my4 (rRowsOf_fn (raw) (5) (N) (1) _ _ _ _ _ (ef d0 rfl) (cvi (σ := B) (by first | omega | exact wr64_bd _ | assumption) rfl) (cvi (σ := B) (by first | omega | exact wr64_bd _ | assumption) (ef d1 rfl)) (cvi (σ := B) (by first | omega | exact wr64_bd _ | assumption) rfl) (by first | omega | exact wr64_bd _ | assumption) (by first | omega | exact wr64_bd _ | assumption) (by first | omega | exact wr64_bd _ | assumption)))) (gB 0 (gE ok20 fun a23 s19 ok21 D17 => ?_))))); have q173 := D17.k q169; refine tn (wp_seq ?_)
     refine gI a23 s19 ok21 (gM q173 (gM (D17.k q170) (gM (D17.m 3 rfl) (gM (D17.k q168) (gM q173 (gS rfl (fun A B E I J d0 d1 => rP (y_call _ Try.func31 rfl rfl my2 (rRowOf_fn (k) (N) _ _ _ (cvi (σ := B) (by first | omega | exact hr _ | assumption) (ef d0 rfl)) (cvi (σ := B) (by first | omega | exact hr _ | assumption) (ef d1 rfl)) (by first | omega | exact hr _ | assumption) (by first | omega | exact hr _ | assumption)))) (gS rfl (fun A B E I J d0 d1 d2 d3 d4 => rP (y_call _ Try.func6 rfl rfl my4 (cosetSays_fn (((N : Nat) : Int)) (GS) ((rowsOf raw (5) (N) (1))) ((atL (N) (pick (k) (fct (N))))) _ _ _ _ _ (cvi (σ := B) (by omega) (ef d0 rfl)) (ef d1 rfl) (ef d2 rfl) (ef d3 rfl) ))) (gB 0 (gE ok21 fun a24 s20 ok22 D18 => ?_))))))))); refine tn (wp_ret ?_)
     exact retL1 rfl ok22 ((F21.step0 D17.stp).step0 D18.stp) (D18.m 7 rfl)
    ·
     refine wp_skip (tn (wp_seq ?_))
     refine gI a22 s18 ok20 (gM q169 (gM q170 (gM (D16.k q158) (gM q168 (gM q169 (gS rfl (fun A B E I J d0 d1 => rP (y_call _ Try.func31 rfl rfl my2 (rRowOf_fn (k) (N) _ _ _ (cvi (σ := B) (by first | omega | exact hr _ | assumption) (ef d0 rfl)) (cvi (σ := B) (by first | omega | exact hr _ | assumption) (ef d1 rfl)) (by first | omega | exact hr _ | assumption) (by first | omega | exact hr _ | assumption)))) (gS rfl (fun A B E I J d0 d1 d2 d3 d4 => rP (y_call _ Try.func6 rfl rfl my4 (cosetSays_fn (((N : Nat) : Int)) (GS) (SS) ((atL (N) (pick (k) (fct (N))))) _ _ _ _ _ (cvi (σ := B) (by omega) (ef d0 rfl)) (ef d1 rfl) (ef d2 rfl) (ef d3 rfl) ))) (gB 0 (gE ok20 fun a25 s21 ok23 D19 => ?_))))))))); refine tn (wp_ret ?_)
     exact retL1 rfl ok23 (F21.step0 D19.stp) (D19.m 7 rfl)


end Go.Proofs.Ytkjifbgofckfeaa
