/- The functions that the law TopGroup reaches, each by its contract. Part 6. -/
import Derived.Test.YtkjifbgofckfeaaTopGroupW5
namespace Go.Proofs.Ytkjifbgofckfeaa
open Go.KL

set_option maxHeartbeats 4000000 in
set_option maxRecDepth 100000 in
theorem gElts_fn (gv : Value) (gs : Value) (cs : Value) (us : List Value) (n : Nat) (c : Nat → Lev) (gens : List (List Int)) (σ : GW) (hlow : Low [41, 42, 43] σ) (v0 : Value) (hv0 : Ty.has (Ty.val gv) σ v0) (ho_gv : OwnP σ 41 gv [(Ty.nat n), (Ty.val gs), (Ty.val cs)]) (ho_cs : ChnU σ 42 22 108 cs n c us) (ho_gs : Own σ 43 22 1 gs (List.length gens) (List.map Ty.ints gens)) (hC : ChnOf n gens c) (hG : ∀ x ∈ gens, RowN n x) :
    FnL Try.prog 60 #[v0] σ [41, 42, 43] (fun v τ => ∃ (E : (List (List Int))), (Ty.has (Ty.tup2 (Ty.lst Ty.ints E) (Ty.int (eltE n gens))) τ v) ∧ (OwnP τ 41 gv [(Ty.nat n), (Ty.val gs), (Ty.val cs)]) ∧ (ChnU τ 42 22 108 cs n c us) ∧ (Own τ 43 22 1 gs (List.length gens) (List.map Ty.ints gens)) ∧ (EltsP n gens E)) := by
 have hnn := hC.wc.nn
 have hw := hC.wc
 have hsb := fun k => szTo_bd (n := n) (S := fun y => y ∈ gens) (k := k) hnn.2
 refine fn_introL hlow Try.func60 rfl Try.ntmps60 (Nat.le_of_ble_eq_true rfl) (fun a0 F0 ok0 hargs => ?_)
 have p0 := pB (hargs 0 _ rfl) hv0
 clear hargs; refine wp_seq ?_
 refine gI a0 σ ok0 (gC (Ty.val (Value.slice none 0 0)) (gC (Ty.int (0 : Int)) (gE ok0 fun a1 s1 ok1 D1 => ?_))); have q1 := D1.k p0; have o1 := OwnP.k0 ho_gv D1.stp; have o2 := ChnU.k0 ho_cs D1.stp; have o3 := Own.k0 ho_gs D1.stp; refine tn (wp_seq (wp_seq ?_))
 refine gI a1 s1 ok1 (gM q1 (gE2 ok1 fun a2 s2 ok2 D2 => ?_)); have o4 := OwnP.k0 o1 D2.stp; have o5 := ChnU.k0 o2 D2.stp; have o6 := Own.k0 o3 D2.stp
 refine tL ok2 (y_callL (L := [41, 42, 43]) [(41, 41), (42, 42), (43, 43)] [(41, 41), (42, 42), (43, 43)] #[a2.eval (.tmp 13)] rfl dE Try.func42 rfl rfl my1 (gSize_fn (gv) (gs) (cs) (us) (n) (c) (gens) _ lW _ (uL (D2.m 0 rfl)) (OwnP.ren o4 (GW.ren_lend _ _ dE rfl)) (ChnU.ren o5 (GW.ren_lend _ _ dE rfl)) (Own.ren o6 (GW.ren_lend _ _ dE rfl)) oX oX)) fun a3 s3 hs1 ok3 r1 sm1 => ?_
 obtain ⟨t1, ⟨hT1, o7, o8, o9⟩, B1⟩ := r1
 have q5 : At (Ty.nat (szTo n (fun y => y ∈ gens) n)) s3 a3 (.tmp 14) := Ty.up _ B1.le hT1
 have o10 : OwnP s3 41 gv [(Ty.nat n), (Ty.val gs), (Ty.val cs)] := OwnP.ren o7 (B1.ren dE rfl)
 have o11 : ChnU s3 42 22 108 cs n c us := ChnU.ren o8 (B1.ren dE rfl)
 have o12 : Own s3 43 22 1 gs (List.length gens) (List.map Ty.ints gens) := Own.ren o9 (B1.ren dE rfl)
 refine tL (R := (fun v τ => Pr.has (Ty.pr (Ty.bool (decide ((5040 : Int) < (((szTo n (fun y => y ∈ gens) n) : Nat) : Int))))) τ v)) ok3 (Yld.toL (y_gtr q5 rfl)) fun a4 s4 hs2 ok4 r2 sm2 => ?_
 have F4 := (((F0.step0 D1.stp).step0 D2.stp).sl hs1).sl hs2; have q6 := kq hs2 sm2 0 (kq hs1 sm1 0 (D2.k q1)); have o13 := OwnP.kl o10 hs2; have o14 := ChnU.kl o11 hs2; have o15 := Own.kl o12 hs2
 have q7 : At (Ty.bool (decide ((5040 : Int) < (((szTo n (fun y => y ∈ gens) n) : Nat) : Int)))) s4 a4 (.tmp 15) := r2
 clear r2; refine wpList_nil (tn ?_)
 refine cond_p (p := ((5040 : Int) < (((szTo n (fun y => y ∈ gens) n) : Nat) : Int))) q7 (fun c1 => ?_) (fun c1 => ?_)
 ·
  have hsz : ¬ szTo n (fun y => y ∈ gens) n ≤ 5040 := oM
  refine wp_seq ?_
  refine gI a4 s4 ok4 (gC (Ty.val (Value.slice none 0 0)) (gC (Ty.int (3 : Int)) (gE ok4 fun a5 s5 ok5 D3 => ?_))); have o16 := OwnP.k0 o13 D3.stp; have o17 := ChnU.k0 o14 D3.stp; have o18 := Own.k0 o15 D3.stp; refine tn (wp_ret (tr ?_))
  exact retL2 rfl ok5 (F4.step0 D3.stp) ⟨([] : List (List Int)), (hasT2 (nil_lst (by (rfl)) (D3.m 0 rfl)) (cvi (by (unfold eltE; rw [if_neg hsz])) (D3.m 1 rfl))), o16, o17, o18, (by exact ⟨fun h_ => absurd h_ hsz, fun _ => rfl⟩)⟩
 ·
  have hsz : szTo n (fun y => y ∈ gens) n ≤ 5040 := oM
  refine wp_skip (tn (wp_seq ?_))
  refine gI a4 s4 ok4 (gM q6 (gT (Ty.val gv) rfl (fun A B G H I d0 => rP (y_nilp (OwnP.k0 o13 G) (eI d0))) (gT (Ty.val (ptrAt gv 0)) rfl (fun A B G H I d0 => rP (ownp_field Try.fld95_0 Try.inf3 dE (OwnP.k0 o13 G) (eI d0))) (gS rfl (fun A B G H I d0 => rP (ownp_load Try.underlying3 rfl (OwnP.k0 o13 G) (eI d0) rfl)) (gS rfl (fun A B G H I d0 => rP (y_call _ Try.func74 rfl rfl my1 (rounds_fn (n) _ _ (eI d0) oM))) (gS rfl (fun A B G H I d0 => rP (y_move (eI d0))) (gT (Ty.lst Ty.int (roundsL n)) rfl (fun A B G H I d0 => rP (y_ext2_0 (eI d0))) (gT (Ty.int (0 : Int)) rfl (fun A B G H I d0 d1 => rP (y_ext2_1 (eI d0))) (gB 0 (gB 0 (gE ok4 fun a6 s6 ok6 D4 => ?_))))))))))); have o19 := OwnP.k0 o13 D4.stp; have o20 := ChnU.k0 o14 D4.stp; have o21 := Own.k0 o15 D4.stp; refine tn (wp_seq ?_)
  refine gI a6 s6 ok6 (gM (D4.m 8 rfl) (gR (Pr.own 20 22 1 1 (List.map Ty.ints [(roundsL n)])) rfl (by intro A B G H I d0; exact rP ((y_lit1 (k := 20) Try.underlying24 Try.inf22 rfl (one_sl) (eI d0)).mono (fun _ _ h => cvo (by simp) (by first | (simp; done) | rfl) h))) (gE2 ok6 fun a7 s7 ok7 D5 => ?_))); have o22 := OwnP.k0 o19 D5.stp; have o23 := ChnU.k0 o20 D5.stp; have o24 := Own.k0 o21 D5.stp
  obtain ⟨x1, hx1⟩ : ∃ x, a7.eval (.tmp 25) = x := ⟨_, rfl⟩
  have q13 : At (Ty.val x1) s7 a7 (.tmp 25) := hx1
  have o25 := al2 (R := (Pr.own 20 22 1 1 (List.map Ty.ints [(roundsL n)]))) hx1 (D5.done 1 dE)
  refine tL ok7 (Yld.toL (y_as q13)) fun a8 s8 hs3 ok8 r3 sm3 => ?_
  have q14 := kq hs3 sm3 0 (D5.k (D4.k q6)); have o26 := OwnP.kl o22 hs3
  have q15 : At (Ty.val x1) s8 a8 (.tmp 6) := r3
  clear r3; refine wpList_nil (tn (wp_seq (wp_seq ?_)))
  refine gI a8 s8 ok8 (gM q14 (gT (Ty.val gv) rfl (fun A B G H I d0 => rP (y_nilp (OwnP.k0 o26 G) (eI d0))) (gT (Ty.val (ptrAt gv 0)) rfl (fun A B G H I d0 => rP (ownp_field Try.fld95_0 Try.inf3 dE (OwnP.k0 o26 G) (eI d0))) (gS rfl (fun A B G H I d0 => rP (ownp_load Try.underlying3 rfl (OwnP.k0 o26 G) (eI d0) rfl)) (gT (Ty.int (((n : Nat) : Int) - (1 : Int))) rfl (fun A B G H I d0 => rP (y_sub (eI d0) rfl wX)) (gB 0 (gE ok8 fun a9 s9 ok9 D6 => ?_))))))); have o30 := OwnP.k0 o26 D6.stp; have o31 := ChnU.k0 (ChnU.kl o23 hs3) D6.stp; have o32 := Own.k0 (Own.kl o24 hs3) D6.stp; have o33 := Own.k0 (Own.kl o25 hs3) D6.stp; refine tn (wp_block ?_)
  refine loop (fun n1 a10 w1 => ∃ (t2 : GW) (k : Nat) (L : (List (List Int))) (x6_0 : Value), t2.w = w1 ∧ FromL [41, 42, 43] σ t2 ∧ Ok 67 [] a10 ∧ At (Ty.int (((k : Nat) : Int) - 1)) t2 a10 (.tmp 7) ∧ At (Ty.val x6_0) t2 a10 (.tmp 6) ∧ At (Ty.val gv) t2 a10 (.tmp 0) ∧ Own t2 20 22 1 x6_0 (List.length L) (List.map Ty.ints L) ∧ OwnP t2 41 gv [(Ty.nat n), (Ty.val gs), (Ty.val cs)] ∧ ChnU t2 42 22 108 cs n c us ∧ Own t2 43 22 1 gs (List.length gens) (List.map Ty.ints gens) ∧ (k ≤ n) ∧ (EltK n gens c k L) ∧ n1 = k + 1) ((n) + 1) ?_ ?_
  ·
   exact ⟨s9, n, [roundsL n], x1, rfl, ((((F4.step0 D4.stp).step0 D5.stp).sl hs3).step0 D6.stp), ok9, (cJ (D6.m 5 rfl)), (D6.k q15), (D6.k q14), (cvo (by (first | rfl | simp)) (by (first | rfl | simp)) o33), o30, o31, o32, by omega, EltK.start hw, rfl⟩
  ·
   rintro n2 a11 w2 ⟨t3, k, L, x6_0, rfl, F10, ok10, q19, q20, q21, o34, o35, o36, o37, hk, hE, rfl⟩
   have hLl := hE.few hC hk hsz
   refine wp_seq (wp_seq ?_)
   refine gI a11 t3 ok10 (gM q19 (gS rfl (fun A B G H I d0 => rP (y_geq (eI d0) rfl)) (gE ok10 fun a12 s10 ok11 D7 => ?_))); have F11 := F10.step0 D7.stp; have q23 := D7.k q20; have o38 := Own.k0 o34 D7.stp; have o39 := OwnP.k0 o35 D7.stp; have o40 := ChnU.k0 o36 D7.stp; have o41 := Own.k0 o37 D7.stp; refine tn ?_
   refine cond_p (p := ((0 : Int) ≤ (((k : Nat) : Int) - 1))) (D7.m 1 rfl) (fun c2 => ?_) (fun c2 => ?_)
   ·
    have q26 : At (Ty.nat (k - 1)) s10 a12 (.tmp 7) := cvt (T := (Ty.int (((k : Nat) : Int) - 1))) (U := (Ty.nat (k - 1))) (by exact congrArg Ty.int oM) (D7.k q19)
    refine wp_skip (tn (wp_seq (wp_block (wp_seq ?_))))
    refine gI a12 s10 ok11 (gC (Ty.val (Value.slice none 0 0)) (gE ok11 fun a13 s11 ok12 D8 => ?_)); have o42 := Own.k0 o38 D8.stp; have o43 := OwnP.k0 o39 D8.stp; have o44 := ChnU.k0 o40 D8.stp; have o45 := Own.k0 o41 D8.stp; refine tn (wp_seq (wp_seq ?_))
    obtain ⟨ms1, rs1, hN1⟩ := o44
    obtain ⟨t4, e1, h1, o46, o47, o48, o49⟩ := ChnN.focus hN1 (i := (k - 1)) oM dE 53 54 55
    rw [← e1]
    have F13 := (F11.step0 D8.stp).step h1 dE
    have q31 : At (Ty.nat (k - 1)) t4 a13 (.tmp 7) := Ty.up _ (h1.le dE) (D8.k q26)
    have q32 : At (Ty.val x6_0) t4 a13 (.tmp 6) := Ty.up _ (h1.le dE) (D8.k q23)
    have q33 : At (Ty.val gv) t4 a13 (.tmp 0) := Ty.up _ (h1.le dE) (D8.k (D7.k q21))
    have q34 : At (Ty.val (Value.slice none 0 0)) t4 a13 (.tmp 8) := Ty.up _ (h1.le dE) (D8.m 0 rfl)
    have o50 := Own.keepL o42 (h1.toL (L := [42]) (by simp)) dE dE; have o51 := OwnP.keepL o43 (h1.toL (L := [42]) (by simp)) dE dE; have o52 := Own.keepL o45 (h1.toL (L := [42]) (by simp)) dE dE
    obtain ⟨mq1, hmq1⟩ : ∃ x_, ms1 (k - 1) = x_ := ⟨_, rfl⟩
    obtain ⟨rq1, hrq1⟩ : ∃ x_, rs1 (k - 1) = x_ := ⟨_, rfl⟩
    rw [hmq1, hrq1] at o46
    rw [hmq1] at o47
    rw [hrq1] at o48
    have hmk1 : ∃ b, mq1 = Value.map (some b) := by obtain ⟨b_, _, _, e_, _⟩ := o47; exact ⟨b_, e_⟩
    have o53 : Own t4 42 108 1 cs n (List.map Ty.val us) := ChnR.row o49
    have hul1 := ChnR.ul o49
    refine gI a13 t4 ok12 (gM q33 (gT (Ty.val gv) rfl (fun A B G H I d0 => rP (y_nilp (OwnP.k0 o51 G) (eI d0))) (gT (Ty.val (ptrAt gv 2)) rfl (fun A B G H I d0 => rP (ownp_field Try.fld95_2 Try.inf93 dE (OwnP.k0 o51 G) (eI d0))) (gS rfl (fun A B G H I d0 => rP (ownp_load Try.underlying93 rfl (OwnP.k0 o51 G) (eI d0) rfl)) (gM q31 (gT (Ty.val (cellPtr cs (k - 1))) rfl (fun A B G H I d0 d1 => rP (own_index1 (i := (((k - 1) : Nat) : Int)) Try.underlying93 Try.inf108 (Own.k0 o53 G) (eI d0) (eI d1) oM oM)) (gS rfl (fun A B G H I d0 => rP (own_load Try.underlying108 rfl (Own.k0 o53 G) (eI d0) (lst_get Ty.val us undef (k - 1) oM))) (gT (Ty.val (us.getD (k - 1) undef)) rfl (fun A B G H I d0 => rP (y_nilp (OwnP.k0 o46 G) (eI d0))) (gT (Ty.val (ptrAt (us.getD (k - 1) undef) 1)) rfl (fun A B G H I d0 => rP (ownp_field Try.fld111_1 Try.inf109 dE (OwnP.k0 o46 G) (eI d0))) (gS rfl (fun A B G H I d0 => rP (ownp_load Try.underlying109 rfl (OwnP.k0 o46 G) (eI d0) rfl)) (gR (Pr.rngm Ty.ints 54 mq1 (c (k - 1)).orb ([] : List Int)) rfl (by intro A B G H I d0; exact rP (y_rangem Try.underlying109 (OwnM.k0 o47 G) (eI d0))) (gE ok12 fun a14 s12 ok13 D9 => ?_)))))))))))); have o54 := Own.k0 o50 D9.stp; have o55 := OwnP.k0 o51 D9.stp; have o56 := Own.k0 o52 D9.stp; have o57 := Own.k0 o53 D9.stp; have o58 := OwnP.k0 o46 D9.stp; have o59 := OwnM.k0 o47 D9.stp; have o60 := Own.k0 o48 D9.stp; have o61 := ChnR.k0 o49 D9.stp
    obtain ⟨x2, hx2⟩ : ∃ x, a14.eval (.tmp 45) = x := ⟨_, rfl⟩
    have q39 : At (Ty.val x2) s12 a14 (.tmp 45) := hx2
    have o62 : RngM Ty.ints s12 54 x2 mq1 (c (k - 1)).orb ([] : List Int) := al2 (R := (Pr.rngm Ty.ints 54 mq1 (c (k - 1)).orb ([] : List Int))) hx2 (D9.done 10)
    refine tn (wp_block ?_)
    have o63 : Own s12 21 22 1 (Value.slice none 0 0) 0 (List.map Ty.ints ([] : List (List Int))) := Own.nil _ _ _ _
    refine loop (fun n3 a15 w3 => ∃ (t5 : GW) (ks : (List Int)) (N : (List (List Int))) (x8_1 : Value), t5.w = w3 ∧ FromL [41, 42, 43] σ t5 ∧ Ok 67 [] a15 ∧ At (Ty.val x8_1) t5 a15 (.tmp 8) ∧ At (Ty.nat (k - 1)) t5 a15 (.tmp 7) ∧ At (Ty.val x6_0) t5 a15 (.tmp 6) ∧ At (Ty.val gv) t5 a15 (.tmp 0) ∧ At (Ty.val x2) t5 a15 (.tmp 45) ∧ Own t5 21 22 1 x8_1 (List.length N) (List.map Ty.ints N) ∧ RngM Ty.ints t5 54 x2 mq1 (c (k - 1)).orb ks ∧ Own t5 20 22 1 x6_0 (List.length L) (List.map Ty.ints L) ∧ OwnP t5 41 gv [(Ty.nat n), (Ty.val gs), (Ty.val cs)] ∧ Own t5 43 22 1 gs (List.length gens) (List.map Ty.ints gens) ∧ ChnR t5 42 22 108 cs n c us ms1 rs1 (k - 1) ∧ OwnP t5 53 (us.getD (k - 1) undef) [(Ty.nat (k - 1)), (Ty.val mq1), (Ty.val rq1)] ∧ Own t5 55 22 1 rq1 (List.length (c (k - 1)).gens) (List.map Ty.ints (c (k - 1)).gens) ∧ (EltI n c (k - 1) L.length ks N) ∧ n3 = n - ks.length) (n - (([] : List Int)).length) ?_ ?_
    ·
     exact ⟨s12, ([] : List Int), ([] : List (List Int)), (Value.slice none 0 0), rfl, (F13.step0 D9.stp), ok13, (D9.k q34), (D9.k q31), (D9.k q32), (D9.k q33), q39, (cvo (by (first | rfl | simp)) (by (first | rfl | simp)) o63), (show RngM Ty.ints _ 54 _ mq1 (c (k - 1)).orb (([] : List Int)) from o62), o54, o55, o56, o61, o58, o60, EltI.start, rfl⟩
    ·
     rintro n4 a16 w4 ⟨t6, ks, N, x8_1, rfl, F15, ok14, q40, q41, q42, q43, q44, o64, o65, o66, o67, o68, o69, o70, o71, hI, rfl⟩
     have hfw := hI.few hw oM
     have hNl := hI.len
     have hNb : ks.length * L.length ≤ 12 * 5040 := Nat.mul_le_mul oM hLl
     refine wp_seq ?_
     refine gI a16 t6 ok14 (gE2 ok14 fun a17 s13 ok15 D10 => ?_); have q49 := D10.k q44; have o72 := Own.k0 o64 D10.stp; have o73 := RngM.k0 o65 D10.stp; have o74 := Own.k0 o66 D10.stp; have o75 := OwnP.k0 o67 D10.stp; have o76 := Own.k0 o68 D10.stp; have o77 := ChnR.k0 o69 D10.stp; have o78 := OwnP.k0 o70 D10.stp; have o79 := Own.k0 o71 D10.stp
     refine tL (R := (fun v τ => ∃ (b_ : Bool) (k_ : List Int), NxP (c (k - 1)).orb ks b_ k_ ∧ (Ty.nxm b_).has τ v ∧ RngM Ty.ints τ 54 x2 mq1 (c (k - 1)).orb k_)) ok15 (YldM.toL (m_nextm dE o73 q49)) fun a18 s14 hs4 ok16 r4 sm4 => ?_
     have o85 := ChnR.keepL o77 hs4 dE dE
     obtain ⟨nb46, nk46, hNx46, hq46_, ho46_⟩ := r4
     have q55 : At (Ty.nxm nb46) s14 a18 (.tmp 46) := hq46_
     have o80 : RngM Ty.ints s14 54 x2 mq1 (c (k - 1)).orb nk46 := ho46_
     refine tL (R := (fun v τ => Pr.has (Ty.pr (Ty.bool nb46)) τ v)) ok16 (Yld.toL (y_ext_m0 q55)) fun a19 s15 hs5 ok17 r5 sm5 => ?_
     have F18 := ((F15.step0 D10.stp).sl hs4).sl hs5; have q56 := kq hs5 sm5 8 (kq hs4 sm4 8 (D10.k q40)); have q57 := kq hs5 sm5 7 (kq hs4 sm4 7 (D10.k q41)); have q58 := kq hs5 sm5 6 (kq hs4 sm4 6 (D10.k q42)); have q59 := kq hs5 sm5 0 (kq hs4 sm4 0 (D10.k q43)); have q60 := kq hs5 sm5 45 (kq hs4 sm4 45 q49); have o88 := Own.kl (Own.kl o72 hs4) hs5; have o89 := Own.kl (Own.kl o74 hs4) hs5; have o90 := OwnP.kl (OwnP.kl o75 hs4) hs5; have o91 := Own.kl (Own.kl o76 hs4) hs5; have o92 := ChnR.keepL o85 hs5 dE dE; have o93 := OwnP.kl (OwnP.kl o78 hs4) hs5; have o94 := Own.kl (Own.kl o79 hs4) hs5; have o95 := RngM.keepL o80 hs5 dE dE
     have q61 : At (Ty.bool nb46) s15 a19 (.tmp 47) := r5
     clear r5; refine wpList_nil (tn (wp_seq ?_))
     refine cond_t q61 (fun c3 => ?_) (fun c3 => ?_)
     ·
      refine wp_skip (tn (wp_block (wp_seq ?_)))
      obtain ⟨p1, t1, hk_46, hn_p1, hs_p1⟩ := hNx46.yes c3
      subst hk_46
      refine gI a19 s15 ok17 (gT (Ty.tup2 (Ty.int p1) (Ty.lst Ty.int (((c (k - 1)).orb p1).getD []))) rfl (fun A B G H I => rP (y_entry (z := []) (RngM.k0 o95 G) (kp (I 45 rfl) G q60))) (gT (Ty.lst Ty.int (((c (k - 1)).orb p1).getD [])) rfl (fun A B G H I d0 => rP (y_ext2_1 (eI d0))) (gB 0 (gE ok17 fun a20 s16 ok18 D11 => ?_)))); have q64 := D11.k q58; have o96 := Own.k0 o88 D11.stp; have o97 := Own.k0 o89 D11.stp; have o98 := OwnP.k0 o90 D11.stp; have o99 := Own.k0 o91 D11.stp; have o100 := ChnR.k0 o92 D11.stp; have o101 := OwnP.k0 o93 D11.stp; have o102 := Own.k0 o94 D11.stp; have o103 := RngM.k0 o95 D11.stp
      have q68 : At (Ty.lst Ty.int t1) s16 a20 (.tmp 10) := (cvt (by (rw [hs_p1]; rfl)) (D11.m 2 rfl))
      refine tn (wp_seq ?_)
      refine gI a20 s16 ok18 (gM q64 (gT (Ty.nat (List.length L)) rfl (fun A B G H I d0 => rP (own_len Try.underlying24 (al (R := (Pr.own 20 22 1 (List.length L) (List.map Ty.ints L))) (eI d0) (Own.k0 o97 G)))) (gT (Ty.int (0 : Int)) rfl (fun A B G H I => rP (y_move rfl)) (gE ok18 fun a21 s17 ok19 D12 => ?_)))); have o104 := Own.k0 o96 D12.stp; have o105 := Own.k0 o97 D12.stp; have o106 := OwnP.k0 o98 D12.stp; have o107 := Own.k0 o99 D12.stp; have o108 := ChnR.k0 o100 D12.stp; have o109 := OwnP.k0 o101 D12.stp; have o110 := Own.k0 o102 D12.stp; have o111 := RngM.k0 o103 D12.stp
      have q75 : At (Ty.val x6_0) s17 a21 (.tmp 50) := D12.done 0
      refine tn (wp_block ?_)
      refine loop (fun n5 a22 w5 => ∃ (t7 : GW) (j : Nat) (x8_2 : Value), t7.w = w5 ∧ FromL [41, 42, 43] σ t7 ∧ Ok 67 [] a22 ∧ At (Ty.nat j) t7 a22 (.tmp 52) ∧ At (Ty.val x8_2) t7 a22 (.tmp 8) ∧ At (Ty.nat (k - 1)) t7 a22 (.tmp 7) ∧ At (Ty.val x6_0) t7 a22 (.tmp 6) ∧ At (Ty.val gv) t7 a22 (.tmp 0) ∧ At (Ty.val x2) t7 a22 (.tmp 45) ∧ At (Ty.lst Ty.int t1) t7 a22 (.tmp 10) ∧ At (Ty.val x6_0) t7 a22 (.tmp 50) ∧ At (Ty.nat (List.length L)) t7 a22 (.tmp 51) ∧ Own t7 21 22 1 x8_2 (List.length (N ++ (L.take j).map (byL t1))) (List.map Ty.ints (N ++ (L.take j).map (byL t1))) ∧ Own t7 20 22 1 x6_0 (List.length L) (List.map Ty.ints L) ∧ OwnP t7 41 gv [(Ty.nat n), (Ty.val gs), (Ty.val cs)] ∧ Own t7 43 22 1 gs (List.length gens) (List.map Ty.ints gens) ∧ ChnR t7 42 22 108 cs n c us ms1 rs1 (k - 1) ∧ OwnP t7 53 (us.getD (k - 1) undef) [(Ty.nat (k - 1)), (Ty.val mq1), (Ty.val rq1)] ∧ Own t7 55 22 1 rq1 (List.length (c (k - 1)).gens) (List.map Ty.ints (c (k - 1)).gens) ∧ RngM Ty.ints t7 54 x2 mq1 (c (k - 1)).orb (ks ++ [p1]) ∧ (j ≤ L.length) ∧ n5 = L.length - j) (L.length - (0)) ?_ ?_
      ·
       exact ⟨s17, 0, x8_1, rfl, ((F18.step0 D11.stp).step0 D12.stp), ok19, (cJ (D12.m 2 rfl)), (D12.k (D11.k q56)), (D12.k (D11.k q57)), (D12.k q64), (D12.k (D11.k q59)), (D12.k (D11.k q60)), (D12.k q68), q75, (D12.m 1 rfl), (cvo (by (first | rfl | simp)) (by (first | rfl | simp)) o104), o105, o106, o107, o108, o109, o110, o111, by omega, rfl⟩
      ·
       rintro n6 a23 w6 ⟨t8, j, x8_2, rfl, F21, ok20, q78, q79, q80, q81, q82, q83, q84, q85, q86, o112, o113, o114, o115, o116, o117, o118, o119, hj, rfl⟩
       have htl := List.length_take_le j L
       have htm : ((L.take j).map (byL t1)).length = j := by (rw [List.length_map, List.length_take]; omega)
       have hnj : (N ++ (L.take j).map (byL t1)).length = N.length + j := (by rw [List.length_append, htm])
       refine wp_seq ?_
       refine gI a23 t8 ok20 (gS rfl (fun A B G H I => rP (y_lss (kp (I 52 rfl) G q78) (kp (I 51 rfl) G q86))) (gE ok20 fun a24 s18 ok21 D13 => ?_)); have F22 := F21.step0 D13.stp; have q87 := D13.k q78; have q88 := D13.k q79; have q89 := D13.k q80; have q90 := D13.k q81; have q91 := D13.k q82; have q92 := D13.k q83; have q94 := D13.k q85; have o120 := Own.k0 o112 D13.stp; have o121 := Own.k0 o113 D13.stp; have o122 := OwnP.k0 o114 D13.stp; have o123 := Own.k0 o115 D13.stp; have o124 := ChnR.k0 o116 D13.stp; have o125 := OwnP.k0 o117 D13.stp; have o126 := Own.k0 o118 D13.stp; have o127 := RngM.k0 o119 D13.stp; refine tn (wp_seq ?_)
       refine cond_p (p := (((j : Nat) : Int) < (((List.length L) : Nat) : Int))) (D13.m 0 rfl) (fun c4 => ?_) (fun c4 => ?_)
       ·
        obtain ⟨hx1, hx2, hx3⟩ := (hE.mem _).1 (mem_atD [] (show j < L.length by omega)); have htr := ((hw.lev (k - 1) oM).pt p1 t1 hs_p1).1; have hxl := hx1.len; have htl2 := htr.len; have hbb := hx1.bds htl2
        refine wp_skip (tn (wp_seq (wp_block (wp_seq ?_))))
        refine gI a24 s18 ok21 (gT (Ty.val (cellPtr x6_0 j)) rfl (fun A B G H I => rP (own_index1 (i := ((j : Nat) : Int)) Try.underlying24 Try.inf22 (Own.k0 o121 G) (kp (I 50 rfl) G q94) (kp (I 52 rfl) G q87) oM oM)) (gS rfl (fun A B G H I d0 => rP (own_load Try.underlying22 rfl (Own.k0 o121 G) (eI d0) (lst_get Ty.ints L [] j oM))) (gB 0 (gE ok21 fun a25 s19 ok22 D14 => ?_)))); have q98 := D14.k q88; have q103 := D14.k (D13.k q84); have o128 := Own.k0 o120 D14.stp; have o129 := Own.k0 o121 D14.stp; have o130 := OwnP.k0 o122 D14.stp; have o131 := Own.k0 o123 D14.stp; have o132 := ChnR.k0 o124 D14.stp; have o133 := OwnP.k0 o125 D14.stp; have o134 := Own.k0 o126 D14.stp; have o135 := RngM.k0 o127 D14.stp; refine tn ?_
        refine gI a25 s19 ok22 (gM q98 (gM q103 (gM (D14.m 2 rfl) (gS rfl (fun A B G H I d0 d1 => rP (y_call _ Try.func64 rfl rfl my2 (product_fn (t1) ((L.getD j [])) _ _ _ (eI d0) (eI d1) (by first | assumption | omega) (by first | assumption | omega) (by first | assumption | omega)))) (gT (Ty.sl 1 1 [(Ty.lst Ty.int (byL (t1) ((L.getD j []))))]) rfl (fun A B G H I d0 => rP (y_build1o Try.underlying24 Try.inf22 rfl (one_sl) (eI d0))) (gE2 ok22 fun a26 s20 ok23 D15 => ?_)))))); have o136 := Own.k0 o128 D15.stp; have o137 := Own.k0 o129 D15.stp; have o138 := OwnP.k0 o130 D15.stp; have o139 := Own.k0 o131 D15.stp; have o140 := ChnR.k0 o132 D15.stp; have o141 := OwnP.k0 o133 D15.stp; have o142 := Own.k0 o134 D15.stp; have o143 := RngM.k0 o135 D15.stp
        have q116 : At (Ty.val x8_2) s20 a26 (.tmp 56) := D15.done 0 dE
        have q117 := D15.m 4 rfl
        have b1 := sl_le q117
        refine tL ok23 (YldM.toL (m_append Try.underlying24 Try.inf22 dE rfl dE (al (R := (Pr.own 21 22 1 (List.length (N ++ (L.take j).map (byL t1))) (List.map Ty.ints (N ++ (L.take j).map (byL t1))))) q116 o136) q117 (by intro U hU; simp at hU; subst hU; exact one_sl) oM oM)) fun a27 s21 hs6 ok24 r6 sm6 => ?_
        have q119 := kq hs6 sm6 8 (D15.k q98); have o148 := ChnR.keepL o140 hs6 dE dE
        have o151 := RngM.keepL o143 hs6 dE dE
        obtain ⟨x3, hx3⟩ : ∃ x, a27.eval (.tmp 61) = x := ⟨_, rfl⟩
        have q127 : At (Ty.val x3) s21 a27 (.tmp 61) := hx3
        have o144 := al2 (R := (Pr.own 21 22 1 (List.length ((N ++ (L.take j).map (byL t1)) ++ [(byL (t1) ((L.getD j [])))])) (List.map Ty.ints ((N ++ (L.take j).map (byL t1)) ++ [(byL (t1) ((L.getD j [])))])))) hx3 (cvo (by first | (simp; done) | (simp; omega)) (by first | (rw [List.map_append]; rfl) | simp) r6)
        clear r6
        refine tL ok24 (Yld.toL (y_as q127)) fun a28 s22 hs7 ok25 r7 sm7 => ?_
        have o155 := ChnR.keepL o148 hs7 dE dE
        have o158 := RngM.keepL o151 hs7 dE dE
        have q136 : At (Ty.val x3) s22 a28 (.tmp 8) := r7
        clear r7; refine wpList_nil (bn (tn ?_))
        refine gI a28 s22 ok25 (gT (Ty.nat (j + 1)) rfl (fun A B G H I => rP ((y_add (kp (I 52 rfl) G (kq hs7 sm7 52 (kq hs6 sm6 52 (D15.k (D14.k q87))))) rfl wX).mono (fun τ _ h => cN (σ := τ) h))) (gS rfl (fun A B G H I d0 => rP (y_move (eI d0))) (gE ok25 fun a29 s23 ok26 D16 => ?_))); have o160 := Own.k0 (Own.kl (Own.kl o137 hs6) hs7) D16.stp; have o161 := OwnP.k0 (OwnP.kl (OwnP.kl o138 hs6) hs7) D16.stp; have o162 := Own.k0 (Own.kl (Own.kl o139 hs6) hs7) D16.stp; have o163 := ChnR.k0 o155 D16.stp; have o164 := OwnP.k0 (OwnP.kl (OwnP.kl o141 hs6) hs7) D16.stp; have o165 := Own.k0 (Own.kl (Own.kl o142 hs6) hs7) D16.stp; have o166 := RngM.k0 o158 D16.stp; have o167 := Own.k0 (Own.kl o144 hs7) D16.stp
        exact tn ⟨L.length - ((j+1)), by omega, s23, (j+1), x3, rfl, (((((F22.step0 D14.stp).step0 D15.stp).sl hs6).sl hs7).step0 D16.stp), ok26, (cJ (D16.m 1 rfl)), (D16.k q136), (D16.k (kq hs7 sm7 7 (kq hs6 sm6 7 (D15.k (D14.k q89))))), (D16.k (kq hs7 sm7 6 (kq hs6 sm6 6 (D15.k (D14.k q90))))), (D16.k (kq hs7 sm7 0 (kq hs6 sm6 0 (D15.k (D14.k q91))))), (D16.k (kq hs7 sm7 45 (kq hs6 sm6 45 (D15.k (D14.k q92))))), (D16.k (kq hs7 sm7 10 (kq hs6 sm6 10 (D15.k q103)))), (D16.k (kq hs7 sm7 50 (kq hs6 sm6 50 (D15.k (D14.k q94))))), (D16.k (kq hs7 sm7 51 (kq hs6 sm6 51 (D15.k (D14.k (D13.k q86)))))), (cvo (by (first | (simp; done) | (rw [take_snoc L [] j oM]; simp; done) | (simp only [List.length_append, List.length_map, List.length_take, List.length_singleton]; omega))) (by (first | (simp; done) | (rw [take_snoc L [] j oM]; simp; done) | (simp only [List.length_append, List.length_map, List.length_take, List.length_singleton]; omega))) o167), o160, o161, o162, o163, o164, o165, o166, by omega, rfl⟩
       ·
        have ej : j = L.length := oM; have hI2 := hI.step hw oM (by rw [Nat.sub_add_cancel oM]; exact hE) rfl hn_p1 hs_p1; have hfw2 := hI2.few hw oM; have hkl : (ks ++ [p1]).length = ks.length + 1 := by simp
        refine wp_exit (tx (tx (bx (bn ?_))))
        exact tn ⟨n - ((ks ++ [p1])).length, by omega, s18, (ks ++ [p1]), (N ++ L.map (byL t1)), x8_2, rfl, F22, ok21, q88, q89, q90, q91, q92, (cvo (by (rw [ej, List.take_length])) (by (rw [ej, List.take_length])) o120), (show RngM Ty.ints _ 54 _ mq1 (c (k - 1)).orb ((ks ++ [p1])) from o127), o121, o122, o123, o124, o125, o126, hI2, rfl⟩
     ·
      obtain ⟨hk46, hall46⟩ := hNx46.no c3; have hE2 := hI.done hC hG oM (by rw [Nat.sub_add_cancel oM]; exact hE) rfl hall46
      refine wp_exit (tx (tx (bx (tn ?_))))
      have o168 : OwnM Ty.ints kI s15 54 mq1 (c (k - 1)).orb := RngM.map o95
      obtain ⟨t9, e2, h2, o169⟩ := ChnR.unfocus o92 o93 o168 o94 (by first | rfl | simp) (by first | rfl | simp) dE dE dE dE dE
      rw [← e2]
      have F28 := F18.stepL h2 dE
      have q146 : At (Ty.val x8_1) t9 a19 (.tmp 8) := Ty.up _ (h2.le dE) q56
      have q147 : At (Ty.nat (k - 1)) t9 a19 (.tmp 7) := Ty.up _ (h2.le dE) q57
      have q148 : At (Ty.val x6_0) t9 a19 (.tmp 6) := Ty.up _ (h2.le dE) q58
      have q149 : At (Ty.val gv) t9 a19 (.tmp 0) := Ty.up _ (h2.le dE) q59
      have q150 : At (Ty.val x2) t9 a19 (.tmp 45) := Ty.up _ (h2.le dE) q60
      have q151 : At (Ty.bool nb46) t9 a19 (.tmp 47) := Ty.up _ (h2.le dE) q61
      have o170 := Own.keepL o88 h2 dE dE; have o171 := Own.keepL o89 h2 dE dE; have o172 := OwnP.keepL o90 h2 dE dE; have o173 := Own.keepL o91 h2 dE dE
      have o174 : ChnU t9 42 22 108 cs n c us := cvch (by exact upd_back rfl) o169
      refine gI a19 t9 ok17 (gM q146 (gB 0 (gE ok17 fun a30 s24 ok27 D17 => ?_))); have o175 := Own.k0 o170 D17.stp; have o176 := Own.k0 o171 D17.stp; have o177 := OwnP.k0 o172 D17.stp; have o178 := Own.k0 o173 D17.stp; have o179 := ChnU.k0 o174 D17.stp
      have q154 : At (Ty.val x8_1) s24 a30 (.tmp 6) := D17.done 1
      obtain ⟨t10, e3, h3, o180⟩ := Own.retag (k' := 20) o175 dE dE
      rw [← e3]
      have F30 := (F28.step0 D17.stp).step h3 dE; have o181 := OwnP.keepL o177 (h3.toL (L := [21]) (by simp)) dE dE; have o182 := Own.keepL o178 (h3.toL (L := [21]) (by simp)) dE dE; have o183 := ChnU.keepL o179 (h3.toL (L := [21]) (by simp)) dE dE; have q155 := Ty.up (Ty.nat (k - 1)) (h3.le dE) (D17.k q147); have q156 := Ty.up (Ty.val gv) (h3.le dE) (D17.k q149); have q157 := Ty.up (Ty.val x8_1) (h3.le dE) q154; refine bn (tn ?_)
      refine gI a30 t10 ok27 (gM q155 (gT (Ty.int ((((k - 1) : Nat) : Int) - (1 : Int))) rfl (fun A B G H I d0 => rP (y_sub (eI d0) rfl wX)) (gB 0 (gE ok27 fun a31 s25 ok28 D18 => ?_)))); have o184 := OwnP.k0 o181 D18.stp; have o185 := Own.k0 o182 D18.stp; have o186 := ChnU.k0 o183 D18.stp; have o187 := Own.k0 o180 D18.stp
      exact tn ⟨((k - 1)) + 1, by omega, s25, (k - 1), N, x8_1, rfl, (F30.step0 D18.stp), ok28, (cJ (D18.m 2 rfl)), (D18.k q157), (D18.k q156), (cvo (by (simp)) (by (simp)) o187), o184, o186, o185, by omega, hE2, rfl⟩
   ·
    have ek : k = 0 := oM
    refine wp_exit (tx (tx (bx (tn (wp_seq ?_)))))
    refine gI a12 s10 ok11 (gM q23 (gE2 ok11 fun a32 s26 ok29 D19 => ?_)); have o188 := Own.k0 o38 D19.stp; have o189 := OwnP.k0 o39 D19.stp; have o190 := ChnU.k0 o40 D19.stp; have o191 := Own.k0 o41 D19.stp
    have q162 : At (Ty.val x6_0) s26 a32 (.tmp 64) := D19.done 0 dE
    refine tL (R := (fun _ τ => ∃ S_ : List (List Int), S_.Perm L ∧ S_.Pairwise (fun x_ y_ => leL x_ y_ = true) ∧ Own τ 20 22 1 x6_0 (List.length L) (List.map Ty.ints S_))) ok29 (m_sortP (D := L) dE o188 q162 oM Try.func98 rfl rfl sort_all sort_nil cmpG) fun a33 s27 hs8 ok30 r8 sm8 => ?_
    obtain ⟨SL, hSP, hSS, o192⟩ := r8
    have o193 : Own s27 20 22 1 x6_0 (List.length SL) (List.map Ty.ints SL) := cvo (by rw [hSP.length_eq]) rfl o192
    refine wpList_nil (tn (wp_seq ?_))
    refine gI a33 s27 ok30 (gM (kq hs8 sm8 6 (D19.k q23)) (gB 0 (gC (Ty.int (0 : Int)) (gE ok30 fun a34 s28 ok31 D20 => ?_)))); have o197 := OwnP.k0 (OwnP.kl o189 hs8) D20.stp; have o198 := ChnU.k0 (ChnU.kl o190 hs8) D20.stp; have o199 := Own.k0 (Own.kl o191 hs8) D20.stp; have o200 := Own.k0 o193 D20.stp
    have q165 : At (Ty.val x6_0) s28 a34 (.tmp 2) := D20.done 1
    refine tn (wp_ret ?_)
    obtain ⟨t11, e4, h4, q167⟩ := Own.seal o200 dE
    rw [← e4]
    have F35 := (((F11.step0 D19.stp).sl hs8).step0 D20.stp).step h4 dE; have o201 := OwnP.keepL o197 (h4.toL (L := [20]) (by simp)) dE dE; have o202 := ChnU.keepL o198 (h4.toL (L := [20]) (by simp)) dE dE; have o203 := Own.keepL o199 (h4.toL (L := [20]) (by simp)) dE dE
    have q168 : At (Ty.lst Ty.ints SL) t11 a34 (.tmp 2) := by have e : a34.eval (.tmp 2) = x6_0 := q165; show Ty.has _ _ _; rw [e]; exact q167
    have q169 := Ty.up (Ty.int (0 : Int)) (h4.le dE) (D20.m 2 rfl)
    exact retL2 rfl ok31 F35 ⟨SL, (hasT2 (cvt (by (rfl)) q168) (cvi (by (unfold eltE; rw [if_pos hsz])) q169)), o201, o202, o203, (by exact ⟨fun _ => EltK.sorted hC hG (ek ▸ hE) hSP hSS, fun h_ => absurd hsz h_⟩)⟩


set_option maxRecDepth 100000 in
theorem rsame_fn (xs : List Int) (ys : List Int) (σ : GW) (v0 v1 : Value) (hv0 : Ty.has (Ty.lst Ty.int xs) σ v0) (hv1 : Ty.has (Ty.lst Ty.int ys) σ v1)  :
    FnC Try.prog 37 #[v0, v1] σ (Ty.bool (decide (xs = ys))) := by
 refine fn_intro Try.func37 rfl Try.ntmps37 (Nat.le_of_ble_eq_true rfl) (fun s0 a0 hle F0 ok0 hargs => ?_)
 have p0 := pA hle (hargs 0 _ rfl) hv0
 have b1 := sl_le p0
 have p1 := pA hle (hargs 1 _ rfl) hv1
 have b2 := sl_le p1
 clear hargs; refine wp_seq ?_
 refine gI a0 s0 ok0 (gC (Ty.bool false) (gE ok0 fun a1 s1 ok1 D1 => ?_)); have q1 := D1.k p0; have q2 := D1.k p1; refine tn (wp_seq (wp_seq ?_))
 refine gI a1 s1 ok1 (gM q1 (gS rfl (fun A B G H I d0 => rP (y_len Try.underlying22 (eI d0))) (gM q2 (gS rfl (fun A B G H I d0 => rP (y_len Try.underlying22 (eI d0))) (gS rfl (fun A B G H I d0 d1 => rP (y_neq (eI d0) (eI d1))) (gE ok1 fun a2 s2 ok2 D2 => ?_)))))); have F2 := (F0.step0 D1.stp).step0 D2.stp; refine tn ?_
 refine cond_p (p := ((((List.length xs) : Nat) : Int) ≠ (((List.length ys) : Nat) : Int))) (D2.m 4 rfl) (fun c1 => ?_) (fun c1 => ?_)
 ·
  refine wp_seq ?_
  refine gI a2 s2 ok2 (gC (Ty.bool false) (gE ok2 fun a3 s3 ok3 D3 => ?_)); refine tn (wp_ret (tr ?_))
  exact ret1 rfl ok3 (F2.step0 D3.stp) (cvb (by (rw [decide_eq_false]; intro e; subst e; omega)) (D3.m 0 rfl))
 ·
  refine wp_skip (tn (wp_seq (wp_seq ?_)))
  refine gI a2 s2 ok2 (gC (Ty.int (0 : Int)) (gE ok2 fun a4 s4 ok4 D4 => ?_)); refine tn (wp_block ?_)
  refine loop (fun n1 a5 w1 => ∃ (t1 : GW) (k : Nat), t1.w = w1 ∧ From s0 t1 ∧ Ok 26 [] a5 ∧ At (Ty.nat k) t1 a5 (.tmp 5) ∧ At (Ty.lst Ty.int xs) t1 a5 (.tmp 0) ∧ At (Ty.lst Ty.int ys) t1 a5 (.tmp 1) ∧ (k ≤ xs.length) ∧ (xs.length = ys.length) ∧ (∀ j, j < k → xs.getD j 0 = ys.getD j 0) ∧ n1 = xs.length - k) (xs.length - (0)) ?_ ?_
  ·
   exact ⟨s4, 0, rfl, (F2.step0 D4.stp), ok4, (cJ (D4.m 0 rfl)), (D4.k (D2.k q1)), (D4.k (D2.k q2)), by omega, by omega, fun j hj => absurd hj (Nat.not_lt_zero j), rfl⟩
  ·
   rintro n2 a6 w2 ⟨t2, k, rfl, F5, ok5, q10, q11, q12, hk, hl, heq, rfl⟩
   refine wp_seq (wp_seq ?_)
   refine gI a6 t2 ok5 (gM q10 (gM q11 (gS rfl (fun A B G H I d0 => rP (y_len Try.underlying22 (eI d0))) (gS rfl (fun A B G H I d0 d1 => rP (y_lss (eI d0) (eI d1))) (gE ok5 fun a7 s5 ok6 D5 => ?_))))); have F6 := F5.step0 D5.stp; have q13 := D5.k q10; have q14 := D5.k q11; have q15 := D5.k q12; refine tn ?_
   refine cond_p (p := (((k : Nat) : Int) < (((List.length xs) : Nat) : Int))) (D5.m 3 rfl) (fun c2 => ?_) (fun c2 => ?_)
   ·
    refine wp_skip (tn (wp_seq (wp_block (wp_seq ?_))))
    refine gI a7 s5 ok6 (gM q14 (gM q13 (gT (Ty.ref [(Ty.int (xs.getD k 0))]) rfl (fun A B G H I d0 d1 => rP (y_index1 Try.underlying22 Try.inf3 (eI d0) (eI d1) oM (lst_get Ty.int xs 0 k oM))) (gS rfl (fun A B G H I d0 => rP (y_load Try.underlying3 rfl (eI d0) rfl)) (gM q15 (gM q13 (gT (Ty.ref [(Ty.int (ys.getD k 0))]) rfl (fun A B G H I d0 d1 => rP (y_index1 Try.underlying22 Try.inf3 (eI d0) (eI d1) oM (lst_get Ty.int ys 0 k oM))) (gS rfl (fun A B G H I d0 => rP (y_load Try.underlying3 rfl (eI d0) rfl)) (gS rfl (fun A B G H I d0 d1 => rP (y_neq (eI d0) (eI d1))) (gE ok6 fun a8 s6 ok7 D6 => ?_)))))))))); have F7 := F6.step0 D6.stp; refine tn ?_
    refine cond_p (p := ((xs.getD k 0) ≠ (ys.getD k 0))) (D6.m 8 rfl) (fun c3 => ?_) (fun c3 => ?_)
    ·
     refine wp_seq ?_
     refine gI a8 s6 ok7 (gC (Ty.bool false) (gE ok7 fun a9 s7 ok8 D7 => ?_)); refine tn (wp_ret (br (tr (tr (br (tr ?_))))))
     exact ret1 rfl ok8 (F7.step0 D7.stp) (cvb (by (exact (decide_eq_false (fun e => by subst e; simp_all)).symm)) (D7.m 0 rfl))
    ·
     refine wp_skip (bn (tn ?_))
     refine gI a8 s6 ok7 (gM (D6.k q13) (gT (Ty.int (((k : Nat) : Int) + (1 : Int))) rfl (fun A B G H I d0 => rP (y_add (eI d0) rfl wX)) (gB 0 (gE ok7 fun a10 s8 ok9 D8 => ?_))))
     exact tn ⟨xs.length - ((k+1)), by omega, s8, (k+1), rfl, (F7.step0 D8.stp), ok9, (cJ (D8.m 2 rfl)), (D8.k (D6.k q14)), (D8.k (D6.k q15)), by omega, by omega, all_snoc heq (by assumption), rfl⟩
   ·
    refine wp_exit (tx (tx (bx (tn (wp_seq ?_)))))
    refine gI a7 s5 ok6 (gC (Ty.bool true) (gE ok6 fun a11 s9 ok10 D9 => ?_)); refine tn (wp_ret ?_)
    exact ret1 rfl ok10 (F6.step0 D9.stp) (cvb (by (exact (decide_eq_true (list_ext oM (fun j hj => heq j oM))).symm)) (D9.m 0 rfl))


end Go.Proofs.Ytkjifbgofckfeaa
