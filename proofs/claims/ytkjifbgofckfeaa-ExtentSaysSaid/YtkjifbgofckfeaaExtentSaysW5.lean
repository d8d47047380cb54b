/- The functions that the law ExtentSays reaches, each by its contract. Part 5. -/
import Derived.Test.YtkjifbgofckfeaaExtentSaysW4
namespace Go.Proofs.Ytkjifbgofckfeaa
open Go.KL

set_option maxHeartbeats 4000000 in
set_option maxRecDepth 100000 in
theorem slCompare_fn (xs : List Int) (ys : List Int) (σ : GW)  (v0 v1 : Value) (hv0 : Ty.has (Ty.lst Ty.int xs) σ v0) (hv1 : Ty.has (Ty.lst Ty.int ys) σ v1)   :
    FnC Try.prog 82 #[v0, v1] σ (Ty.int (cmpL xs ys)) := by
 refine fn_intro0 Try.func82 rfl Try.ntmps82 (Nat.le_of_ble_eq_true rfl) (fun s0 a0 hle F0 ok0 hargs => ?_)
 have p0 := pA hle (hargs 0 _ rfl) hv0
 have b1 := sl_le p0
 have p1 := pA hle (hargs 1 _ rfl) hv1
 have b2 := sl_le p1
 clear hargs; refine wp_seq ?_
 refine gI a0 s0 ok0 (gC (Ty.int (0 : Int)) (gE ok0 fun a1 s1 ok1 D1 => ?_)); have q1 := D1.kt p0 rfl; refine tn (wp_seq (wp_seq ?_))
 refine gI a1 s1 ok1 (gM q1 (gS rfl (fun A B G H I d0 => rP (y_len Try.underlying22 (ed d0 rfl rfl rfl))) (gT (Ty.int (0 : Int)) rfl (fun A B G H I => rP (y_move rfl)) (gE ok1 fun a2 s2 ok2 D2 => ?_)))); refine tn (wp_block ?_)
 refine loop (fun n1 a3 w1 => ∃ (t1 : GW) (i : Nat), t1.w = w1 ∧ FromL [] s0 t1 ∧ Ok 36 [] a3 ∧ At (Ty.nat i) t1 a3 (.tmp 11) ∧ At (Ty.lst Ty.int xs) t1 a3 (.tmp 0) ∧ At (Ty.lst Ty.int ys) t1 a3 (.tmp 1) ∧ At (Ty.lst Ty.int xs) t1 a3 (.tmp 9) ∧ At (Ty.nat (List.length xs)) t1 a3 (.tmp 10) ∧ (i ≤ xs.length) ∧ (cmpL (xs.drop i) (ys.drop i) = cmpL xs ys) ∧ n1 = xs.length - i) (xs.length - (0)) ?_ ?_
 ·
  exact ⟨s2, 0, rfl, ((F0.step0 D1.stp).step0 D2.stp), ok2, (cvi (by (first | rfl | omega | (simp_all; done) | (simp_all; omega))) (D2.dn 2 rfl rfl)), (D2.kt q1 rfl), (D2.kt (D1.kt p1 rfl) rfl), (D2.dn 0 rfl rfl), (D2.dn 1 rfl rfl), by omega, rfl, rfl⟩
 ·
  rintro n2 a4 w2 ⟨t2, i, rfl, F3, ok3, q8, q9, q10, q11, q12, hi, hc, rfl⟩
  refine wp_seq ?_
  refine gI a4 t2 ok3 (gS rfl (fun A B G H I => rP (y_lss (kp (I 11 rfl) G q8) (kp (I 10 rfl) G q12))) (gE ok3 fun a5 s3 ok4 D3 => ?_)); have F4 := F3.step0 D3.stp; have q13 := D3.kt q8 rfl; have q14 := D3.kt q9 rfl; have q15 := D3.kt q10 rfl; have q16 := D3.kt q11 rfl; refine tn (wp_seq ?_)
  refine cond_p (p := (((i : Nat) : Int) < (((List.length xs) : Nat) : Int))) (D3.dn 0 rfl rfl) (fun c1 => ?_) (fun c1 => ?_)
  ·
   refine wp_skip (tn (wp_seq (wp_block (wp_seq ?_))))
   refine gI a5 s3 ok4 (gM q13 (gT (Ty.ref [(Ty.int (xs.getD i 0))]) rfl (fun A B G H I => rP (y_index1 Try.underlying22 Try.inf3 (kp (I 9 rfl) G q16) (kp (I 11 rfl) G q13) (by omega) (lst_get Ty.int xs 0 i (by omega)))) (gS rfl (fun A B G H I d0 => rP (y_load Try.underlying3 rfl (ed d0 rfl rfl rfl) rfl)) (gB 0 (gB 0 (gE ok4 fun a6 s4 ok5 D4 => ?_)))))); have q21 := D4.kt q15 rfl; have q24 := D4.dn 3 rfl rfl; refine tn (wp_seq (wp_seq ?_))
   refine gI a6 s4 ok5 (gM q24 (gM q21 (gS rfl (fun A B G H I d0 => rP (y_len Try.underlying22 (ed d0 rfl rfl rfl))) (gS rfl (fun A B G H I d0 d1 => rP (y_geq (ed d0 rfl rfl rfl) (ed d1 rfl rfl rfl))) (gE ok5 fun a7 s5 ok6 D5 => ?_))))); have F6 := (F4.step0 D4.stp).step0 D5.stp; have q28 := D5.kt q21 rfl; refine tn ?_
   refine cond_p (p := ((((List.length ys) : Nat) : Int) ≤ ((i : Nat) : Int))) (D5.dn 3 rfl rfl) (fun c2 => ?_) (fun c2 => ?_)
   ·
    refine wp_seq ?_
    refine gI a7 s5 ok6 (gC (Ty.int (1 : Int)) (gE ok6 fun a8 s6 ok7 D6 => ?_)); refine tn (wp_ret (tr (br (tr (tr (br (tr ?_)))))))
    exact retL1 rfl ok7 (F6.step0 D6.stp) (cvi (by (exact (cmp_long hc (by omega) (by omega)).symm)) (D6.dn 0 rfl rfl))
   ·
    refine wp_skip (tn (wp_seq ?_))
    refine gI a7 s5 ok6 (gM q28 (gM (D5.kt q24 rfl) (gT (Ty.ref [(Ty.int (ys.getD i 0))]) rfl (fun A B G H I d0 d1 => rP (y_index1 Try.underlying22 Try.inf3 (ed d0 rfl rfl rfl) (ed d1 rfl rfl rfl) (by omega) (lst_get Ty.int ys 0 i (by omega)))) (gS rfl (fun A B G H I d0 => rP (y_load Try.underlying3 rfl (ed d0 rfl rfl rfl) rfl)) (gB 0 (gE ok6 fun a9 s7 ok8 D7 => ?_)))))); refine tn (wp_seq ?_)
    refine gI a9 s7 ok8 (gM (D7.kt (D5.kt (D4.dn 4 rfl rfl) rfl) rfl) (gM (D7.dn 4 rfl rfl) (gS rfl (fun A B G H I d0 d1 => rP (y_call _ Try.func103 rfl rfl my2 (cmpInt_fn ((xs.getD i 0)) ((ys.getD i 0)) _ _ _ (cvi (σ := B) (by omega) (ed d0 rfl rfl rfl)) (cvi (σ := B) (by omega) (ed d1 rfl rfl rfl)) ))) (gB 0 (gE ok8 fun a10 s8 ok9 D8 => ?_))))); have q47 := D8.dn 3 rfl rfl; refine tn (wp_seq ?_)
    refine gI a10 s8 ok9 (gM q47 (gS rfl (fun A B G H I d0 => rP (y_neq (ed d0 rfl rfl rfl) rfl)) (gE ok9 fun a11 s9 ok10 D9 => ?_))); have F10 := ((F6.step0 D7.stp).step0 D8.stp).step0 D9.stp; refine tn ?_
    refine cond_p (p := ((cmpI ((xs.getD i 0)) ((ys.getD i 0))) ≠ (0 : Int))) (D9.dn 1 rfl rfl) (fun c3 => ?_) (fun c3 => ?_)
    ·
     refine wp_seq ?_
     refine gI a11 s9 ok10 (gM (D9.kt q47 rfl) (gB 0 (gE ok10 fun a12 s10 ok11 D10 => ?_))); refine tn (wp_ret (br (tr (tr (br (tr ?_))))))
     exact retL1 rfl ok11 (F10.step0 D10.stp) (cvi (by (exact cmp_ne hc (by omega) (by omega) c3)) (D10.dn 1 rfl rfl))
    ·
     refine wp_skip (bn (tn ?_))
     refine gI a11 s9 ok10 (gT (Ty.int (((i : Nat) : Int) + (1 : Int))) rfl (fun A B G H I => rP (y_add (kp (I 11 rfl) G (D9.kt (D8.kt (D7.kt (D5.kt (D4.kt q13 rfl) rfl) rfl) rfl) rfl)) rfl (w64 (by omega) (by omega)))) (gS rfl (fun A B G H I d0 => rP (y_move (ed d0 rfl rfl rfl))) (gE ok10 fun a13 s11 ok12 D11 => ?_)))
     exact tn ⟨xs.length - ((i+1)), by omega, s11, (i+1), rfl, (F10.step0 D11.stp), ok12, (cvi (by (first | rfl | omega | (simp_all; done) | (simp_all; omega))) (D11.dn 1 rfl rfl)), (D11.kt (D9.kt (D8.kt (D7.kt (D5.kt (D4.kt q14 rfl) rfl) rfl) rfl) rfl) rfl), (D11.kt (D9.kt (D8.kt (D7.kt q28 rfl) rfl) rfl) rfl), (D11.kt (D9.kt (D8.kt (D7.kt (D5.kt (D4.kt q16 rfl) rfl) rfl) rfl) rfl) rfl), (D11.kt (D9.kt (D8.kt (D7.kt (D5.kt (D4.kt (D3.kt q12 rfl) rfl) rfl) rfl) rfl) rfl) rfl), by omega, cmp_step hc (by omega) (by omega) c3, rfl⟩
  ·
   refine wp_exit (tx (tx (bx (tn (wp_seq (wp_seq ?_))))))
   refine gI a5 s3 ok4 (gM q14 (gS rfl (fun A B G H I d0 => rP (y_len Try.underlying22 (ed d0 rfl rfl rfl))) (gM q15 (gS rfl (fun A B G H I d0 => rP (y_len Try.underlying22 (ed d0 rfl rfl rfl))) (gS rfl (fun A B G H I d0 d1 => rP (y_lss (ed d0 rfl rfl rfl) (ed d1 rfl rfl rfl))) (gE ok4 fun a14 s12 ok13 D12 => ?_)))))); have F13 := F4.step0 D12.stp; refine tn ?_
   refine cond_p (p := ((((List.length xs) : Nat) : Int) < (((List.length ys) : Nat) : Int))) (D12.dn 4 rfl rfl) (fun c4 => ?_) (fun c4 => ?_)
   ·
    refine wp_seq ?_
    refine gI a14 s12 ok13 (gC (Ty.int (-1 : Int)) (gE ok13 fun a15 s13 ok14 D13 => ?_)); refine tn (wp_ret (tr ?_))
    exact retL1 rfl ok14 (F13.step0 D13.stp) (cvi (by (exact (cmp_short hc (by omega) (by omega)).symm)) (D13.dn 0 rfl rfl))
   ·
    refine wp_skip (tn (wp_seq ?_))
    refine gI a14 s12 ok13 (gC (Ty.int (0 : Int)) (gE ok13 fun a16 s14 ok15 D14 => ?_)); refine tn (wp_ret ?_)
    exact retL1 rfl ok15 (F13.step0 D14.stp) (cvi (by (exact (cmp_same hc (by omega) (by omega)).symm)) (D14.dn 0 rfl rfl))


set_option maxHeartbeats 4000000 in
set_option maxRecDepth 100000 in
theorem gElts_fn (gv : Value) (gs : Value) (cs : Value) (us : List Value) (n : Nat) (c : Nat → Lev) (gens : List (List Int)) (σ : GW) (hlow : Low [41, 42, 43] σ) (v0 : Value) (hv0 : Ty.has (Ty.val gv) σ v0) (ho_gv : OwnP σ 41 gv [(Ty.nat n), (Ty.val gs), (Ty.val cs)]) (ho_cs : ChnU σ 42 22 108 cs n c us) (ho_gs : Own σ 43 22 1 gs (List.length gens) (List.map Ty.ints gens)) (hC : ChnOf n gens c) (hG : ∀ x ∈ gens, RowN n x) :
    FnL Try.prog 60 #[v0] σ [41, 42, 43] (fun v τ => ∃ (E : (List (List Int))), (Ty.has (Ty.tup2 (Ty.lst Ty.ints E) (Ty.int (eltE n gens))) τ v) ∧ (OwnP τ 41 gv [(Ty.nat n), (Ty.val gs), (Ty.val cs)]) ∧ (ChnU τ 42 22 108 cs n c us) ∧ (Own τ 43 22 1 gs (List.length gens) (List.map Ty.ints gens)) ∧ (EltsP n gens E)) := by
 have hnn := hC.wc.nn
 have hw := hC.wc
 have hsb := fun k => szTo_bd (n := n) (S := fun y => y ∈ gens) (k := k) hnn.2
 refine fn_introL hlow Try.func60 rfl Try.ntmps60 (Nat.le_of_ble_eq_true rfl) (fun a0 F0 ok0 hargs => ?_)
 have p0 := pB (hargs 0 _ rfl) hv0
 clear hargs; refine wp_seq ?_
 refine gI a0 σ ok0 (gC (Ty.val (Value.slice none 0 0)) (gC (Ty.int (0 : Int)) (gE ok0 fun a1 s1 ok1 D1 => ?_))); have q1 := D1.kt p0 rfl; have o1 := OwnP.k0 ho_gv D1.stp; have o2 := ChnU.k0 ho_cs D1.stp; have o3 := Own.k0 ho_gs D1.stp; refine tn (wp_seq (wp_seq ?_))
 refine gI a1 s1 ok1 (gM q1 (gE2 ok1 fun a2 s2 ok2 D2 => ?_)); have o4 := OwnP.k0 o1 D2.stp; have o5 := ChnU.k0 o2 D2.stp; have o6 := Own.k0 o3 D2.stp
 refine tL ok2 (y_callL (L := [41, 42, 43]) [(41, 41), (42, 42), (43, 43)] [(41, 41), (42, 42), (43, 43)] #[a2.eval (.tmp 13)] rfl (by decide) Try.func42 rfl rfl my1 (gSize_fn (gv) (gs) (cs) (us) (n) (c) (gens) _ (GW.low_lend _ (by decide)) _ (Ty.up _ (GW.le_lend _ _) (D2.dn 0 (by decide) rfl rfl)) (OwnP.ren o4 (GW.ren_lend _ _ (by decide) rfl)) (ChnU.ren o5 (GW.ren_lend _ _ (by decide) rfl)) (Own.ren o6 (GW.ren_lend _ _ (by decide) rfl)) (by first | omega | assumption) (by first | omega | assumption))) fun a3 s3 hs1 ok3 r1 sm1 => ?_
 have F3 := ((F0.step0 D1.stp).step0 D2.stp).stepL hs1 (by decide); have q4 := kpL hs1 (by decide) (sm1 0 (by decide)) (D2.kt q1 rfl)
 obtain ⟨t1, ⟨hT1, o7, o8, o9⟩, B1⟩ := r1
 have q5 : At (Ty.nat (szTo n (fun y => y ∈ gens) n)) s3 a3 (.tmp 14) := Ty.up _ B1.le hT1
 have o10 : OwnP s3 41 gv [(Ty.nat n), (Ty.val gs), (Ty.val cs)] := OwnP.ren o7 (B1.ren (by decide) rfl)
 have o11 : ChnU s3 42 22 108 cs n c us := ChnU.ren o8 (B1.ren (by decide) rfl)
 have o12 : Own s3 43 22 1 gs (List.length gens) (List.map Ty.ints gens) := Own.ren o9 (B1.ren (by decide) rfl)
 refine tL (R := (fun v τ => Pr.has (Ty.pr (Ty.bool (decide ((5040 : Int) < (((szTo n (fun y => y ∈ gens) n) : Nat) : Int))))) τ v)) ok3 (Yld.toL (y_gtr q5 rfl)) fun a4 s4 hs2 ok4 r2 sm2 => ?_
 have F4 := F3.stepL hs2 (by decide); have q6 := kpL hs2 (by decide) (sm2 0 (by decide)) q4; have o13 := OwnP.keepL o10 hs2 (by decide) (by decide); have o14 := ChnU.keepL o11 hs2 (by decide) (by decide); have o15 := Own.keepL o12 hs2 (by decide) (by decide)
 have q7 : At (Ty.bool (decide ((5040 : Int) < (((szTo n (fun y => y ∈ gens) n) : Nat) : Int)))) s4 a4 (.tmp 15) := r2
 clear r2; refine wpList_nil (tn ?_)
 refine cond_p (p := ((5040 : Int) < (((szTo n (fun y => y ∈ gens) n) : Nat) : Int))) q7 (fun c1 => ?_) (fun c1 => ?_)
 ·
  have hsz : ¬ szTo n (fun y => y ∈ gens) n ≤ 5040 := (by omega)
  refine wp_seq ?_
  refine gI a4 s4 ok4 (gC (Ty.val (Value.slice none 0 0)) (gC (Ty.int (3 : Int)) (gE ok4 fun a5 s5 ok5 D3 => ?_))); have o16 := OwnP.k0 o13 D3.stp; have o17 := ChnU.k0 o14 D3.stp; have o18 := Own.k0 o15 D3.stp; refine tn (wp_ret (tr ?_))
  exact retL2 rfl ok5 (F4.step0 D3.stp) ⟨([] : List (List Int)), (hasT2 (nil_lst (by (rfl)) (D3.dn 0 rfl rfl)) (cvi (by (unfold eltE; rw [if_neg hsz])) (D3.dn 1 rfl rfl))), o16, o17, o18, (by exact ⟨fun h_ => absurd h_ hsz, fun _ => rfl⟩)⟩
 ·
  have hsz : szTo n (fun y => y ∈ gens) n ≤ 5040 := (by omega)
  refine wp_skip (tn (wp_seq ?_))
  refine gI a4 s4 ok4 (gM q6 (gT (Ty.val gv) rfl (fun A B G H I d0 => rP (y_nilp (OwnP.k0 o13 G) (ed d0 rfl rfl rfl))) (gT (Ty.val (ptrAt gv 0)) rfl (fun A B G H I d0 => rP (ownp_field Try.fld95_0 Try.inf3 (by decide) (OwnP.k0 o13 G) (ed d0 rfl rfl rfl))) (gS rfl (fun A B G H I d0 => rP (ownp_load Try.underlying3 rfl (OwnP.k0 o13 G) (ed d0 rfl rfl rfl) rfl)) (gS rfl (fun A B G H I d0 => rP (y_call _ Try.func74 rfl rfl my1 (rounds_fn (n) _ _ (ed d0 rfl rfl rfl) (by omega)))) (gS rfl (fun A B G H I d0 => rP (y_move (ed d0 rfl rfl rfl))) (gT (Ty.lst Ty.int (roundsL n)) rfl (fun A B G H I d0 => rP (y_ext2_0 (ed d0 rfl rfl rfl))) (gT (Ty.int (0 : Int)) rfl (fun A B G H I d0 d1 => rP (y_ext2_1 (ed d0 rfl rfl rfl))) (gB 0 (gB 0 (gE ok4 fun a6 s6 ok6 D4 => ?_))))))))))); have o19 := OwnP.k0 o13 D4.stp; have o20 := ChnU.k0 o14 D4.stp; have o21 := Own.k0 o15 D4.stp; refine tn (wp_seq ?_)
  refine gI a6 s6 ok6 (gM (D4.dn 8 rfl rfl) (gR (Pr.own 20 22 1 1 (List.map Ty.ints [(roundsL n)])) rfl (by intro A B G H I d0; exact rP ((y_lit1 (k := 20) Try.underlying24 Try.inf22 rfl (one_sl) (ed d0 rfl rfl rfl)).mono (fun _ _ h => cvo (by simp) (by first | (simp; done) | rfl) h))) (gE2 ok6 fun a7 s7 ok7 D5 => ?_))); have o22 := OwnP.k0 o19 D5.stp; have o23 := ChnU.k0 o20 D5.stp; have o24 := Own.k0 o21 D5.stp
  obtain ⟨x1, hx1⟩ : ∃ x, a7.eval (.tmp 25) = x := ⟨_, rfl⟩
  have q13 : At (Ty.val x1) s7 a7 (.tmp 25) := hx1
  have o25 := al2 (R := (Pr.own 20 22 1 1 (List.map Ty.ints [(roundsL n)]))) hx1 (D5.done 1 (by decide))
  refine tL ok7 (Yld.toL (y_as q13)) fun a8 s8 hs3 ok8 r3 sm3 => ?_
  have F8 := ((F4.step0 D4.stp).step0 D5.stp).stepL hs3 (by decide); have q14 := kpL hs3 (by decide) (sm3 0 (by decide)) (D5.kt (D4.kt q6 rfl) rfl); have o26 := OwnP.keepL o22 hs3 (by decide) (by decide); have o27 := ChnU.keepL o23 hs3 (by decide) (by decide); have o28 := Own.keepL o24 hs3 (by decide) (by decide); have o29 := Own.keepL o25 hs3 (by decide) (by decide)
  have q15 : At (Ty.val x1) s8 a8 (.tmp 6) := r3
  clear r3; refine wpList_nil (tn (wp_seq (wp_seq ?_)))
  refine gI a8 s8 ok8 (gM q14 (gT (Ty.val gv) rfl (fun A B G H I d0 => rP (y_nilp (OwnP.k0 o26 G) (ed d0 rfl rfl rfl))) (gT (Ty.val (ptrAt gv 0)) rfl (fun A B G H I d0 => rP (ownp_field Try.fld95_0 Try.inf3 (by decide) (OwnP.k0 o26 G) (ed d0 rfl rfl rfl))) (gS rfl (fun A B G H I d0 => rP (ownp_load Try.underlying3 rfl (OwnP.k0 o26 G) (ed d0 rfl rfl rfl) rfl)) (gT (Ty.int (((n : Nat) : Int) - (1 : Int))) rfl (fun A B G H I d0 => rP (y_sub (ed d0 rfl rfl rfl) rfl (w64 (by omega) (by omega)))) (gB 0 (gE ok8 fun a9 s9 ok9 D6 => ?_))))))); have o30 := OwnP.k0 o26 D6.stp; have o31 := ChnU.k0 o27 D6.stp; have o32 := Own.k0 o28 D6.stp; have o33 := Own.k0 o29 D6.stp; refine tn (wp_block ?_)
  refine loop (fun n1 a10 w1 => ∃ (t2 : GW) (k : Nat) (L : (List (List Int))) (x6_0 : Value), t2.w = w1 ∧ FromL [41, 42, 43] σ t2 ∧ Ok 67 [] a10 ∧ At (Ty.int (((k : Nat) : Int) - 1)) t2 a10 (.tmp 7) ∧ At (Ty.val x6_0) t2 a10 (.tmp 6) ∧ At (Ty.val gv) t2 a10 (.tmp 0) ∧ Own t2 20 22 1 x6_0 (List.length L) (List.map Ty.ints L) ∧ OwnP t2 41 gv [(Ty.nat n), (Ty.val gs), (Ty.val cs)] ∧ ChnU t2 42 22 108 cs n c us ∧ Own t2 43 22 1 gs (List.length gens) (List.map Ty.ints gens) ∧ (k ≤ n) ∧ (EltK n gens c k L) ∧ n1 = k + 1) ((n) + 1) ?_ ?_
  ·
   exact ⟨s9, n, [roundsL n], x1, rfl, (F8.step0 D6.stp), ok9, (cvi (by (first | rfl | omega | (simp_all; done) | (simp_all; omega))) (D6.dn 5 rfl rfl)), (D6.kt q15 rfl), (D6.kt q14 rfl), (cvo (by (first | rfl | simp)) (by (first | rfl | simp)) o33), o30, o31, o32, by omega, EltK.start hw, rfl⟩
  ·
   rintro n2 a11 w2 ⟨t3, k, L, x6_0, rfl, F10, ok10, q19, q20, q21, o34, o35, o36, o37, hk, hE, rfl⟩
   have hLl := hE.few hC hk hsz
   refine wp_seq (wp_seq ?_)
   refine gI a11 t3 ok10 (gM q19 (gS rfl (fun A B G H I d0 => rP (y_geq (ed d0 rfl rfl rfl) rfl)) (gE ok10 fun a12 s10 ok11 D7 => ?_))); have F11 := F10.step0 D7.stp; have q23 := D7.kt q20 rfl; have o38 := Own.k0 o34 D7.stp; have o39 := OwnP.k0 o35 D7.stp; have o40 := ChnU.k0 o36 D7.stp; have o41 := Own.k0 o37 D7.stp; refine tn ?_
   refine cond_p (p := ((0 : Int) ≤ (((k : Nat) : Int) - 1))) (D7.dn 1 rfl rfl) (fun c2 => ?_) (fun c2 => ?_)
   ·
    have q26 : At (Ty.nat (k - 1)) s10 a12 (.tmp 7) := cvt (T := (Ty.int (((k : Nat) : Int) - 1))) (U := (Ty.nat (k - 1))) (by exact congrArg Ty.int (by omega)) (D7.kt q19 rfl)
    refine wp_skip (tn (wp_seq (wp_block (wp_seq ?_))))
    refine gI a12 s10 ok11 (gC (Ty.val (Value.slice none 0 0)) (gE ok11 fun a13 s11 ok12 D8 => ?_)); have o42 := Own.k0 o38 D8.stp; have o43 := OwnP.k0 o39 D8.stp; have o44 := ChnU.k0 o40 D8.stp; have o45 := Own.k0 o41 D8.stp; refine tn (wp_seq (wp_seq ?_))
    obtain ⟨ms1, rs1, hN1⟩ := o44
    obtain ⟨t4, e1, h1, o46, o47, o48, o49⟩ := ChnN.focus hN1 (i := (k - 1)) (by omega) (by decide) 53 54 55
    rw [← e1]
    have F13 := (F11.step0 D8.stp).step h1 (by decide)
    have q31 : At (Ty.nat (k - 1)) t4 a13 (.tmp 7) := Ty.up _ (h1.le (by decide)) (D8.kt q26 rfl)
    have q32 : At (Ty.val x6_0) t4 a13 (.tmp 6) := Ty.up _ (h1.le (by decide)) (D8.kt q23 rfl)
    have q33 : At (Ty.val gv) t4 a13 (.tmp 0) := Ty.up _ (h1.le (by decide)) (D8.kt (D7.kt q21 rfl) rfl)
    have q34 : At (Ty.val (Value.slice none 0 0)) t4 a13 (.tmp 8) := Ty.up _ (h1.le (by decide)) (D8.dn 0 rfl rfl)
    have o50 := Own.keepL o42 (h1.toL (L := [42]) (by simp)) (by decide) (by decide); have o51 := OwnP.keepL o43 (h1.toL (L := [42]) (by simp)) (by decide) (by decide); have o52 := Own.keepL o45 (h1.toL (L := [42]) (by simp)) (by decide) (by decide)
    obtain ⟨mq1, hmq1⟩ : ∃ x_, ms1 (k - 1) = x_ := ⟨_, rfl⟩
    obtain ⟨rq1, hrq1⟩ : ∃ x_, rs1 (k - 1) = x_ := ⟨_, rfl⟩
    rw [hmq1, hrq1] at o46
    rw [hmq1] at o47
    rw [hrq1] at o48
    have hmk1 : ∃ b, mq1 = Value.map (some b) := by obtain ⟨b_, _, _, e_, _⟩ := o47; exact ⟨b_, e_⟩
    have o53 : Own t4 42 108 1 cs n (List.map Ty.val us) := ChnR.row o49
    have hul1 := ChnR.ul o49
    refine gI a13 t4 ok12 (gM q33 (gT (Ty.val gv) rfl (fun A B G H I d0 => rP (y_nilp (OwnP.k0 o51 G) (ed d0 rfl rfl rfl))) (gT (Ty.val (ptrAt gv 2)) rfl (fun A B G H I d0 => rP (ownp_field Try.fld95_2 Try.inf93 (by decide) (OwnP.k0 o51 G) (ed d0 rfl rfl rfl))) (gS rfl (fun A B G H I d0 => rP (ownp_load Try.underlying93 rfl (OwnP.k0 o51 G) (ed d0 rfl rfl rfl) rfl)) (gM q31 (gT (Ty.val (cellPtr cs (k - 1))) rfl (fun A B G H I d0 d1 => rP (own_index1 (i := (((k - 1) : Nat) : Int)) Try.underlying93 Try.inf108 (Own.k0 o53 G) (ed d0 rfl rfl rfl) (ed d1 rfl rfl rfl) (by omega) (by omega))) (gS rfl (fun A B G H I d0 => rP (own_load Try.underlying108 rfl (Own.k0 o53 G) (ed d0 rfl rfl rfl) (lst_get Ty.val us undef (k - 1) (by omega)))) (gT (Ty.val (us.getD (k - 1) undef)) rfl (fun A B G H I d0 => rP (y_nilp (OwnP.k0 o46 G) (ed d0 rfl rfl rfl))) (gT (Ty.val (ptrAt (us.getD (k - 1) undef) 1)) rfl (fun A B G H I d0 => rP (ownp_field Try.fld111_1 Try.inf109 (by decide) (OwnP.k0 o46 G) (ed d0 rfl rfl rfl))) (gS rfl (fun A B G H I d0 => rP (ownp_load Try.underlying109 rfl (OwnP.k0 o46 G) (ed d0 rfl rfl rfl) rfl)) (gR (Pr.rngm Ty.ints 54 mq1 (c (k - 1)).orb ([] : List Int)) rfl (by intro A B G H I d0; exact rP (y_rangem Try.underlying109 (OwnM.k0 o47 G) (ed d0 rfl rfl rfl))) (gE ok12 fun a14 s12 ok13 D9 => ?_)))))))))))); have o54 := Own.k0 o50 D9.stp; have o55 := OwnP.k0 o51 D9.stp; have o56 := Own.k0 o52 D9.stp; have o57 := Own.k0 o53 D9.stp; have o58 := OwnP.k0 o46 D9.stp; have o59 := OwnM.k0 o47 D9.stp; have o60 := Own.k0 o48 D9.stp; have o61 := ChnR.k0 o49 D9.stp
    obtain ⟨x2, hx2⟩ : ∃ x, a14.eval (.tmp 45) = x := ⟨_, rfl⟩
    have q39 : At (Ty.val x2) s12 a14 (.tmp 45) := hx2
    have o62 : RngM Ty.ints s12 54 x2 mq1 (c (k - 1)).orb ([] : List Int) := al2 (R := (Pr.rngm Ty.ints 54 mq1 (c (k - 1)).orb ([] : List Int))) hx2 (D9.done 10)
    refine tn (wp_block ?_)
    have o63 : Own s12 21 22 1 (Value.slice none 0 0) 0 (List.map Ty.ints ([] : List (List Int))) := Own.nil _ _ _ _
    refine loop (fun n3 a15 w3 => ∃ (t5 : GW) (ks : (List Int)) (N : (List (List Int))) (x8_1 : Value), t5.w = w3 ∧ FromL [41, 42, 43] σ t5 ∧ Ok 67 [] a15 ∧ At (Ty.val x8_1) t5 a15 (.tmp 8) ∧ At (Ty.nat (k - 1)) t5 a15 (.tmp 7) ∧ At (Ty.val x6_0) t5 a15 (.tmp 6) ∧ At (Ty.val gv) t5 a15 (.tmp 0) ∧ At (Ty.val x2) t5 a15 (.tmp 45) ∧ Own t5 21 22 1 x8_1 (List.length N) (List.map Ty.ints N) ∧ RngM Ty.ints t5 54 x2 mq1 (c (k - 1)).orb ks ∧ Own t5 20 22 1 x6_0 (List.length L) (List.map Ty.ints L) ∧ OwnP t5 41 gv [(Ty.nat n), (Ty.val gs), (Ty.val cs)] ∧ Own t5 43 22 1 gs (List.length gens) (List.map Ty.ints gens) ∧ ChnR t5 42 22 108 cs n c us ms1 rs1 (k - 1) ∧ OwnP t5 53 (us.getD (k - 1) undef) [(Ty.nat (k - 1)), (Ty.val mq1), (Ty.val rq1)] ∧ Own t5 55 22 1 rq1 (List.length (c (k - 1)).gens) (List.map Ty.ints (c (k - 1)).gens) ∧ (EltI n c (k - 1) L.length ks N) ∧ n3 = n - ks.length) (n - (([] : List Int)).length) ?_ ?_
    ·
     exact ⟨s12, ([] : List Int), ([] : List (List Int)), (Value.slice none 0 0), rfl, (F13.step0 D9.stp), ok13, (D9.kt q34 rfl), (D9.kt q31 rfl), (D9.kt q32 rfl), (D9.kt q33 rfl), q39, (cvo (by (first | rfl | simp)) (by (first | rfl | simp)) o63), (show RngM Ty.ints _ 54 _ mq1 (c (k - 1)).orb (([] : List Int)) from o62), o54, o55, o56, o61, o58, o60, EltI.start, rfl⟩
    ·
     rintro n4 a16 w4 ⟨t6, ks, N, x8_1, rfl, F15, ok14, q40, q41, q42, q43, q44, o64, o65, o66, o67, o68, o69, o70, o71, hI, rfl⟩
     have hfw := hI.few hw (by omega)
     have hNl := hI.len
     have hNb : ks.length * L.length ≤ 12 * 5040 := Nat.mul_le_mul (by omega) hLl
     refine wp_seq ?_
     refine gI a16 t6 ok14 (gE2 ok14 fun a17 s13 ok15 D10 => ?_); have q49 := D10.kt q44 rfl; have o72 := Own.k0 o64 D10.stp; have o73 := RngM.k0 o65 D10.stp; have o74 := Own.k0 o66 D10.stp; have o75 := OwnP.k0 o67 D10.stp; have o76 := Own.k0 o68 D10.stp; have o77 := ChnR.k0 o69 D10.stp; have o78 := OwnP.k0 o70 D10.stp; have o79 := Own.k0 o71 D10.stp
     refine tL (R := (fun v τ => ∃ (b_ : Bool) (k_ : List Int), NxP (c (k - 1)).orb ks b_ k_ ∧ (Ty.nxm b_).has τ v ∧ RngM Ty.ints τ 54 x2 mq1 (c (k - 1)).orb k_)) ok15 (YldM.toL (m_nextm (by decide) o73 q49)) fun a18 s14 hs4 ok16 r4 sm4 => ?_
     have F17 := (F15.step0 D10.stp).stepL hs4 (by decide); have q50 := kpL hs4 (by decide) (sm4 8 (by decide)) (D10.kt q40 rfl); have q51 := kpL hs4 (by decide) (sm4 7 (by decide)) (D10.kt q41 rfl); have q52 := kpL hs4 (by decide) (sm4 6 (by decide)) (D10.kt q42 rfl); have q53 := kpL hs4 (by decide) (sm4 0 (by decide)) (D10.kt q43 rfl); have q54 := kpL hs4 (by decide) (sm4 45 (by decide)) q49; have o81 := Own.keepL o72 hs4 (by decide) (by decide); have o82 := Own.keepL o74 hs4 (by decide) (by decide); have o83 := OwnP.keepL o75 hs4 (by decide) (by decide); have o84 := Own.keepL o76 hs4 (by decide) (by decide); have o85 := ChnR.keepL o77 hs4 (by decide) (by decide); have o86 := OwnP.keepL o78 hs4 (by decide) (by decide); have o87 := Own.keepL o79 hs4 (by decide) (by decide)
     obtain ⟨nb46, nk46, hNx46, hq46_, ho46_⟩ := r4
     have q55 : At (Ty.nxm nb46) s14 a18 (.tmp 46) := hq46_
     have o80 : RngM Ty.ints s14 54 x2 mq1 (c (k - 1)).orb nk46 := ho46_
     refine tL (R := (fun v τ => Pr.has (Ty.pr (Ty.bool nb46)) τ v)) ok16 (Yld.toL (y_ext_m0 q55)) fun a19 s15 hs5 ok17 r5 sm5 => ?_
     have F18 := F17.stepL hs5 (by decide); have q56 := kpL hs5 (by decide) (sm5 8 (by decide)) q50; have q57 := kpL hs5 (by decide) (sm5 7 (by decide)) q51; have q58 := kpL hs5 (by decide) (sm5 6 (by decide)) q52; have q59 := kpL hs5 (by decide) (sm5 0 (by decide)) q53; have q60 := kpL hs5 (by decide) (sm5 45 (by decide)) q54; have o88 := Own.keepL o81 hs5 (by decide) (by decide); have o89 := Own.keepL o82 hs5 (by decide) (by decide); have o90 := OwnP.keepL o83 hs5 (by decide) (by decide); have o91 := Own.keepL o84 hs5 (by decide) (by decide); have o92 := ChnR.keepL o85 hs5 (by decide) (by decide); have o93 := OwnP.keepL o86 hs5 (by decide) (by decide); have o94 := Own.keepL o87 hs5 (by decide) (by decide); have o95 := RngM.keepL o80 hs5 (by decide) (by decide)
     have q61 : At (Ty.bool nb46) s15 a19 (.tmp 47) := r5
     clear r5; refine wpList_nil (tn (wp_seq ?_))
     refine cond_t q61 (fun c3 => ?_) (fun c3 => ?_)
     ·
      refine wp_skip (tn (wp_block (wp_seq ?_)))
      obtain ⟨p1, t1, hk_46, hn_p1, hs_p1⟩ := hNx46.yes c3
      subst hk_46
      refine gI a19 s15 ok17 (gT (Ty.tup2 (Ty.int p1) (Ty.lst Ty.int (((c (k - 1)).orb p1).getD []))) rfl (fun A B G H I => rP (y_entry (z := []) (RngM.k0 o95 G) (kp (I 45 rfl) G q60))) (gT (Ty.lst Ty.int (((c (k - 1)).orb p1).getD [])) rfl (fun A B G H I d0 => rP (y_ext2_1 (ed d0 rfl rfl rfl))) (gB 0 (gE ok17 fun a20 s16 ok18 D11 => ?_)))); have q64 := D11.kt q58 rfl; have o96 := Own.k0 o88 D11.stp; have o97 := Own.k0 o89 D11.stp; have o98 := OwnP.k0 o90 D11.stp; have o99 := Own.k0 o91 D11.stp; have o100 := ChnR.k0 o92 D11.stp; have o101 := OwnP.k0 o93 D11.stp; have o102 := Own.k0 o94 D11.stp; have o103 := RngM.k0 o95 D11.stp
      have q68 : At (Ty.lst Ty.int t1) s16 a20 (.tmp 10) := (cvt (by (rw [hs_p1]; rfl)) (D11.dn 2 rfl rfl))
      refine tn (wp_seq ?_)
      refine gI a20 s16 ok18 (gM q64 (gT (Ty.nat (List.length L)) rfl (fun A B G H I d0 => rP (own_len Try.underlying24 (al (R := (Pr.own 20 22 1 (List.length L) (List.map Ty.ints L))) (ed d0 rfl rfl rfl) (Own.k0 o97 G)))) (gT (Ty.int (0 : Int)) rfl (fun A B G H I => rP (y_move rfl)) (gE ok18 fun a21 s17 ok19 D12 => ?_)))); have o104 := Own.k0 o96 D12.stp; have o105 := Own.k0 o97 D12.stp; have o106 := OwnP.k0 o98 D12.stp; have o107 := Own.k0 o99 D12.stp; have o108 := ChnR.k0 o100 D12.stp; have o109 := OwnP.k0 o101 D12.stp; have o110 := Own.k0 o102 D12.stp; have o111 := RngM.k0 o103 D12.stp
      have q75 : At (Ty.val x6_0) s17 a21 (.tmp 50) := D12.done 0
      refine tn (wp_block ?_)
      refine loop (fun n5 a22 w5 => ∃ (t7 : GW) (j : Nat) (x8_2 : Value), t7.w = w5 ∧ FromL [41, 42, 43] σ t7 ∧ Ok 67 [] a22 ∧ At (Ty.nat j) t7 a22 (.tmp 52) ∧ At (Ty.val x8_2) t7 a22 (.tmp 8) ∧ At (Ty.nat (k - 1)) t7 a22 (.tmp 7) ∧ At (Ty.val x6_0) t7 a22 (.tmp 6) ∧ At (Ty.val gv) t7 a22 (.tmp 0) ∧ At (Ty.val x2) t7 a22 (.tmp 45) ∧ At (Ty.lst Ty.int t1) t7 a22 (.tmp 10) ∧ At (Ty.val x6_0) t7 a22 (.tmp 50) ∧ At (Ty.nat (List.length L)) t7 a22 (.tmp 51) ∧ Own t7 21 22 1 x8_2 (List.length (N ++ (L.take j).map (byL t1))) (List.map Ty.ints (N ++ (L.take j).map (byL t1))) ∧ Own t7 20 22 1 x6_0 (List.length L) (List.map Ty.ints L) ∧ OwnP t7 41 gv [(Ty.nat n), (Ty.val gs), (Ty.val cs)] ∧ Own t7 43 22 1 gs (List.length gens) (List.map Ty.ints gens) ∧ ChnR t7 42 22 108 cs n c us ms1 rs1 (k - 1) ∧ OwnP t7 53 (us.getD (k - 1) undef) [(Ty.nat (k - 1)), (Ty.val mq1), (Ty.val rq1)] ∧ Own t7 55 22 1 rq1 (List.length (c (k - 1)).gens) (List.map Ty.ints (c (k - 1)).gens) ∧ RngM Ty.ints t7 54 x2 mq1 (c (k - 1)).orb (ks ++ [p1]) ∧ (j ≤ L.length) ∧ n5 = L.length - j) (L.length - (0)) ?_ ?_
      ·
       exact ⟨s17, 0, x8_1, rfl, ((F18.step0 D11.stp).step0 D12.stp), ok19, (cvi (by (first | rfl | omega | (simp_all; done) | (simp_all; omega))) (D12.dn 2 rfl rfl)), (D12.kt (D11.kt q56 rfl) rfl), (D12.kt (D11.kt q57 rfl) rfl), (D12.kt q64 rfl), (D12.kt (D11.kt q59 rfl) rfl), (D12.kt (D11.kt q60 rfl) rfl), (D12.kt q68 rfl), q75, (D12.dn 1 rfl rfl), (cvo (by (first | rfl | simp)) (by (first | rfl | simp)) o104), o105, o106, o107, o108, o109, o110, o111, by omega, rfl⟩
      ·
       rintro n6 a23 w6 ⟨t8, j, x8_2, rfl, F21, ok20, q78, q79, q80, q81, q82, q83, q84, q85, q86, o112, o113, o114, o115, o116, o117, o118, o119, hj, rfl⟩
       have htl := List.length_take_le j L
       have htm : ((L.take j).map (byL t1)).length = j := by (rw [List.length_map, List.length_take]; omega)
       have hnj : (N ++ (L.take j).map (byL t1)).length = N.length + j := (by rw [List.length_append, htm])
       refine wp_seq ?_
       refine gI a23 t8 ok20 (gS rfl (fun A B G H I => rP (y_lss (kp (I 52 rfl) G q78) (kp (I 51 rfl) G q86))) (gE ok20 fun a24 s18 ok21 D13 => ?_)); have F22 := F21.step0 D13.stp; have q87 := D13.kt q78 rfl; have q88 := D13.kt q79 rfl; have q89 := D13.kt q80 rfl; have q90 := D13.kt q81 rfl; have q91 := D13.kt q82 rfl; have q92 := D13.kt q83 rfl; have q94 := D13.kt q85 rfl; have o120 := Own.k0 o112 D13.stp; have o121 := Own.k0 o113 D13.stp; have o122 := OwnP.k0 o114 D13.stp; have o123 := Own.k0 o115 D13.stp; have o124 := ChnR.k0 o116 D13.stp; have o125 := OwnP.k0 o117 D13.stp; have o126 := Own.k0 o118 D13.stp; have o127 := RngM.k0 o119 D13.stp; refine tn (wp_seq ?_)
       refine cond_p (p := (((j : Nat) : Int) < (((List.length L) : Nat) : Int))) (D13.dn 0 rfl rfl) (fun c4 => ?_) (fun c4 => ?_)
       ·
        obtain ⟨hx1, hx2, hx3⟩ := (hE.mem _).1 (mem_atD [] (show j < L.length by omega)); have htr := ((hw.lev (k - 1) (by omega)).pt p1 t1 hs_p1).1; have hxl := hx1.len; have htl2 := htr.len; have hbb := hx1.bds htl2
        refine wp_skip (tn (wp_seq (wp_block (wp_seq ?_))))
        refine gI a24 s18 ok21 (gT (Ty.val (cellPtr x6_0 j)) rfl (fun A B G H I => rP (own_index1 (i := ((j : Nat) : Int)) Try.underlying24 Try.inf22 (Own.k0 o121 G) (kp (I 50 rfl) G q94) (kp (I 52 rfl) G q87) (by omega) (by omega))) (gS rfl (fun A B G H I d0 => rP (own_load Try.underlying22 rfl (Own.k0 o121 G) (ed d0 rfl rfl rfl) (lst_get Ty.ints L [] j (by omega)))) (gB 0 (gE ok21 fun a25 s19 ok22 D14 => ?_)))); have q98 := D14.kt q88 rfl; have q103 := D14.kt (D13.kt q84 rfl) rfl; have o128 := Own.k0 o120 D14.stp; have o129 := Own.k0 o121 D14.stp; have o130 := OwnP.k0 o122 D14.stp; have o131 := Own.k0 o123 D14.stp; have o132 := ChnR.k0 o124 D14.stp; have o133 := OwnP.k0 o125 D14.stp; have o134 := Own.k0 o126 D14.stp; have o135 := RngM.k0 o127 D14.stp; refine tn ?_
        refine gI a25 s19 ok22 (gM q98 (gM q103 (gM (D14.dn 2 rfl rfl) (gS rfl (fun A B G H I d0 d1 => rP (y_call _ Try.func64 rfl rfl my2 (product_fn (t1) ((L.getD j [])) _ _ _ (ed d0 rfl rfl rfl) (ed d1 rfl rfl rfl) (by first | assumption | omega) (by first | assumption | omega) (by first | assumption | omega)))) (gT (Ty.sl 1 1 [(Ty.lst Ty.int (byL (t1) ((L.getD j []))))]) rfl (fun A B G H I d0 => rP (y_build1o Try.underlying24 Try.inf22 rfl (one_sl) (ed d0 rfl rfl rfl))) (gE2 ok22 fun a26 s20 ok23 D15 => ?_)))))); have o136 := Own.k0 o128 D15.stp; have o137 := Own.k0 o129 D15.stp; have o138 := OwnP.k0 o130 D15.stp; have o139 := Own.k0 o131 D15.stp; have o140 := ChnR.k0 o132 D15.stp; have o141 := OwnP.k0 o133 D15.stp; have o142 := Own.k0 o134 D15.stp; have o143 := RngM.k0 o135 D15.stp
        have q116 : At (Ty.val x8_2) s20 a26 (.tmp 56) := D15.done 0 (by decide)
        have q117 := D15.dn 4 (by decide) rfl rfl
        have b1 := sl_le q117
        refine tL ok23 (YldM.toL (m_append Try.underlying24 Try.inf22 (by decide) rfl (by decide) (al (R := (Pr.own 21 22 1 (List.length (N ++ (L.take j).map (byL t1))) (List.map Ty.ints (N ++ (L.take j).map (byL t1))))) q116 o136) q117 (by intro U hU; simp at hU; subst hU; exact one_sl) (by omega) (by omega))) fun a27 s21 hs6 ok24 r6 sm6 => ?_
        have F25 := ((F22.step0 D14.stp).step0 D15.stp).stepL hs6 (by decide); have q118 := kpL hs6 (by decide) (sm6 52 (by decide)) (D15.kt (D14.kt q87 rfl) rfl); have q119 := kpL hs6 (by decide) (sm6 8 (by decide)) (D15.kt q98 rfl); have q120 := kpL hs6 (by decide) (sm6 7 (by decide)) (D15.kt (D14.kt q89 rfl) rfl); have q121 := kpL hs6 (by decide) (sm6 6 (by decide)) (D15.kt (D14.kt q90 rfl) rfl); have q122 := kpL hs6 (by decide) (sm6 0 (by decide)) (D15.kt (D14.kt q91 rfl) rfl); have q123 := kpL hs6 (by decide) (sm6 45 (by decide)) (D15.kt (D14.kt q92 rfl) rfl); have q124 := kpL hs6 (by decide) (sm6 10 (by decide)) (D15.kt q103 rfl); have q125 := kpL hs6 (by decide) (sm6 50 (by decide)) (D15.kt (D14.kt q94 rfl) rfl); have q126 := kpL hs6 (by decide) (sm6 51 (by decide)) (D15.kt (D14.kt (D13.kt q86 rfl) rfl) rfl); have o145 := Own.keepL o137 hs6 (by decide) (by decide); have o146 := OwnP.keepL o138 hs6 (by decide) (by decide); have o147 := Own.keepL o139 hs6 (by decide) (by decide); have o148 := ChnR.keepL o140 hs6 (by decide) (by decide); have o149 := OwnP.keepL o141 hs6 (by decide) (by decide)
        have o150 := Own.keepL o142 hs6 (by decide) (by decide); have o151 := RngM.keepL o143 hs6 (by decide) (by decide)
        obtain ⟨x3, hx3⟩ : ∃ x, a27.eval (.tmp 61) = x := ⟨_, rfl⟩
        have q127 : At (Ty.val x3) s21 a27 (.tmp 61) := hx3
        have o144 := al2 (R := (Pr.own 21 22 1 (List.length ((N ++ (L.take j).map (byL t1)) ++ [(byL (t1) ((L.getD j [])))])) (List.map Ty.ints ((N ++ (L.take j).map (byL t1)) ++ [(byL (t1) ((L.getD j [])))])))) hx3 (cvo (by first | (simp; done) | (simp; omega)) (by first | (rw [List.map_append]; rfl) | simp) r6)
        clear r6
        refine tL ok24 (Yld.toL (y_as q127)) fun a28 s22 hs7 ok25 r7 sm7 => ?_
        have F26 := F25.stepL hs7 (by decide); have q128 := kpL hs7 (by decide) (sm7 52 (by decide)) q118; have q129 := kpL hs7 (by decide) (sm7 7 (by decide)) q120; have q130 := kpL hs7 (by decide) (sm7 6 (by decide)) q121; have q131 := kpL hs7 (by decide) (sm7 0 (by decide)) q122; have q132 := kpL hs7 (by decide) (sm7 45 (by decide)) q123; have q133 := kpL hs7 (by decide) (sm7 10 (by decide)) q124; have q134 := kpL hs7 (by decide) (sm7 50 (by decide)) q125; have q135 := kpL hs7 (by decide) (sm7 51 (by decide)) q126; have o152 := Own.keepL o145 hs7 (by decide) (by decide); have o153 := OwnP.keepL o146 hs7 (by decide) (by decide); have o154 := Own.keepL o147 hs7 (by decide) (by decide); have o155 := ChnR.keepL o148 hs7 (by decide) (by decide); have o156 := OwnP.keepL o149 hs7 (by decide) (by decide); have o157 := Own.keepL o150 hs7 (by decide) (by decide)
        have o158 := RngM.keepL o151 hs7 (by decide) (by decide); have o159 := Own.keepL o144 hs7 (by decide) (by decide)
        have q136 : At (Ty.val x3) s22 a28 (.tmp 8) := r7
        clear r7; refine wpList_nil (bn (tn ?_))
        refine gI a28 s22 ok25 (gT (Ty.nat (j + 1)) rfl (fun A B G H I => rP ((y_add (kp (I 52 rfl) G q128) rfl (w64 (by omega) (by omega))).mono (fun τ _ h => cvi (σ := τ) (by first | omega | exact (Int.natCast_mul _ _).symm) h))) (gS rfl (fun A B G H I d0 => rP (y_move (ed d0 rfl rfl rfl))) (gE ok25 fun a29 s23 ok26 D16 => ?_))); have o160 := Own.k0 o152 D16.stp; have o161 := OwnP.k0 o153 D16.stp; have o162 := Own.k0 o154 D16.stp; have o163 := ChnR.k0 o155 D16.stp; have o164 := OwnP.k0 o156 D16.stp; have o165 := Own.k0 o157 D16.stp; have o166 := RngM.k0 o158 D16.stp; have o167 := Own.k0 o159 D16.stp
        exact tn ⟨L.length - ((j+1)), by omega, s23, (j+1), x3, rfl, (F26.step0 D16.stp), ok26, (cvi (by (first | rfl | omega | (simp_all; done) | (simp_all; omega))) (D16.dn 1 rfl rfl)), (D16.kt q136 rfl), (D16.kt q129 rfl), (D16.kt q130 rfl), (D16.kt q131 rfl), (D16.kt q132 rfl), (D16.kt q133 rfl), (D16.kt q134 rfl), (D16.kt q135 rfl), (cvo (by (first | (simp; done) | (rw [take_snoc L [] j (by omega)]; simp; done) | (simp only [List.length_append, List.length_map, List.length_take, List.length_singleton]; omega))) (by (first | (simp; done) | (rw [take_snoc L [] j (by omega)]; simp; done) | (simp only [List.length_append, List.length_map, List.length_take, List.length_singleton]; omega))) o167), o160, o161, o162, o163, o164, o165, o166, by omega, rfl⟩
       ·
        have ej : j = L.length := (by omega); have hI2 := hI.step hw (by omega) (by rw [Nat.sub_add_cancel (by omega)]; exact hE) rfl hn_p1 hs_p1; have hfw2 := hI2.few hw (by omega); have hkl : (ks ++ [p1]).length = ks.length + 1 := by simp
        refine wp_exit (tx (tx (bx (bn ?_))))
        exact tn ⟨n - ((ks ++ [p1])).length, by omega, s18, (ks ++ [p1]), (N ++ L.map (byL t1)), x8_2, rfl, F22, ok21, q88, q89, q90, q91, q92, (cvo (by (rw [ej, List.take_length])) (by (rw [ej, List.take_length])) o120), (show RngM Ty.ints _ 54 _ mq1 (c (k - 1)).orb ((ks ++ [p1])) from o127), o121, o122, o123, o124, o125, o126, hI2, rfl⟩
     ·
      obtain ⟨hk46, hall46⟩ := hNx46.no c3; have hE2 := hI.done hC hG (by omega) (by rw [Nat.sub_add_cancel (by omega)]; exact hE) rfl hall46
      refine wp_exit (tx (tx (bx (tn ?_))))
      have o168 : OwnM Ty.ints kI s15 54 mq1 (c (k - 1)).orb := RngM.map o95
      obtain ⟨t9, e2, h2, o169⟩ := ChnR.unfocus o92 o93 o168 o94 (by first | rfl | simp) (by first | rfl | simp) (by decide) (by decide) (by decide) (by decide) (by decide)
      rw [← e2]
      have F28 := F18.stepL h2 (by decide)
      have q146 : At (Ty.val x8_1) t9 a19 (.tmp 8) := Ty.up _ (h2.le (by decide)) q56
      have q147 : At (Ty.nat (k - 1)) t9 a19 (.tmp 7) := Ty.up _ (h2.le (by decide)) q57
      have q148 : At (Ty.val x6_0) t9 a19 (.tmp 6) := Ty.up _ (h2.le (by decide)) q58
      have q149 : At (Ty.val gv) t9 a19 (.tmp 0) := Ty.up _ (h2.le (by decide)) q59
      have q150 : At (Ty.val x2) t9 a19 (.tmp 45) := Ty.up _ (h2.le (by decide)) q60
      have q151 : At (Ty.bool nb46) t9 a19 (.tmp 47) := Ty.up _ (h2.le (by decide)) q61
      have o170 := Own.keepL o88 h2 (by decide) (by decide); have o171 := Own.keepL o89 h2 (by decide) (by decide); have o172 := OwnP.keepL o90 h2 (by decide) (by decide); have o173 := Own.keepL o91 h2 (by decide) (by decide)
      have o174 : ChnU t9 42 22 108 cs n c us := cvch (by exact upd_back rfl) o169
      refine gI a19 t9 ok17 (gM q146 (gB 0 (gE ok17 fun a30 s24 ok27 D17 => ?_))); have o175 := Own.k0 o170 D17.stp; have o176 := Own.k0 o171 D17.stp; have o177 := OwnP.k0 o172 D17.stp; have o178 := Own.k0 o173 D17.stp; have o179 := ChnU.k0 o174 D17.stp
      have q154 : At (Ty.val x8_1) s24 a30 (.tmp 6) := D17.done 1
      obtain ⟨t10, e3, h3, o180⟩ := Own.retag (k' := 20) o175 (by decide) (by decide)
      rw [← e3]
      have F30 := (F28.step0 D17.stp).step h3 (by decide); have o181 := OwnP.keepL o177 (h3.toL (L := [21]) (by simp)) (by decide) (by decide); have o182 := Own.keepL o178 (h3.toL (L := [21]) (by simp)) (by decide) (by decide); have o183 := ChnU.keepL o179 (h3.toL (L := [21]) (by simp)) (by decide) (by decide); have q155 := Ty.up (Ty.nat (k - 1)) (h3.le (by decide)) (D17.kt q147 rfl); have q156 := Ty.up (Ty.val gv) (h3.le (by decide)) (D17.kt q149 rfl); have q157 := Ty.up (Ty.val x8_1) (h3.le (by decide)) q154; refine bn (tn ?_)
      refine gI a30 t10 ok27 (gM q155 (gT (Ty.int ((((k - 1) : Nat) : Int) - (1 : Int))) rfl (fun A B G H I d0 => rP (y_sub (ed d0 rfl rfl rfl) rfl (w64 (by omega) (by omega)))) (gB 0 (gE ok27 fun a31 s25 ok28 D18 => ?_)))); have o184 := OwnP.k0 o181 D18.stp; have o185 := Own.k0 o182 D18.stp; have o186 := ChnU.k0 o183 D18.stp; have o187 := Own.k0 o180 D18.stp
      exact tn ⟨((k - 1)) + 1, by omega, s25, (k - 1), N, x8_1, rfl, (F30.step0 D18.stp), ok28, (cvi (by (first | rfl | omega | (simp_all; done) | (simp_all; omega))) (D18.dn 2 rfl rfl)), (D18.kt q157 rfl), (D18.kt q156 rfl), (cvo (by (simp)) (by (simp)) o187), o184, o186, o185, by omega, hE2, rfl⟩
   ·
    have ek : k = 0 := (by omega)
    refine wp_exit (tx (tx (bx (tn (wp_seq ?_)))))
    refine gI a12 s10 ok11 (gM q23 (gE2 ok11 fun a32 s26 ok29 D19 => ?_)); have o188 := Own.k0 o38 D19.stp; have o189 := OwnP.k0 o39 D19.stp; have o190 := ChnU.k0 o40 D19.stp; have o191 := Own.k0 o41 D19.stp
    have q162 : At (Ty.val x6_0) s26 a32 (.tmp 64) := D19.done 0 (by decide)
    refine tL (R := (fun _ τ => ∃ S_ : List (List Int), S_.Perm L ∧ S_.Pairwise (fun x_ y_ => leL x_ y_ = true) ∧ Own τ 20 22 1 x6_0 (List.length L) (List.map Ty.ints S_))) ok29 (m_sortP (D := L) (by decide) o188 q162 (by omega) Try.func98 rfl rfl sort_all sort_nil cmpG) fun a33 s27 hs8 ok30 r8 sm8 => ?_
    have F33 := (F11.step0 D19.stp).stepL hs8 (by decide); have q163 := kpL hs8 (by decide) (sm8 6 (by decide)) (D19.kt q23 rfl); have o194 := OwnP.keepL o189 hs8 (by decide) (by decide); have o195 := ChnU.keepL o190 hs8 (by decide) (by decide); have o196 := Own.keepL o191 hs8 (by decide) (by decide)
    obtain ⟨SL, hSP, hSS, o192⟩ := r8
    have o193 : Own s27 20 22 1 x6_0 (List.length SL) (List.map Ty.ints SL) := cvo (by rw [hSP.length_eq]) rfl o192
    refine wpList_nil (tn (wp_seq ?_))
    refine gI a33 s27 ok30 (gM q163 (gB 0 (gC (Ty.int (0 : Int)) (gE ok30 fun a34 s28 ok31 D20 => ?_)))); have o197 := OwnP.k0 o194 D20.stp; have o198 := ChnU.k0 o195 D20.stp; have o199 := Own.k0 o196 D20.stp; have o200 := Own.k0 o193 D20.stp
    have q165 : At (Ty.val x6_0) s28 a34 (.tmp 2) := D20.done 1
    refine tn (wp_ret ?_)
    obtain ⟨t11, e4, h4, q167⟩ := Own.seal o200 (by decide)
    rw [← e4]
    have F35 := (F33.step0 D20.stp).step h4 (by decide); have o201 := OwnP.keepL o197 (h4.toL (L := [20]) (by simp)) (by decide) (by decide); have o202 := ChnU.keepL o198 (h4.toL (L := [20]) (by simp)) (by decide) (by decide); have o203 := Own.keepL o199 (h4.toL (L := [20]) (by simp)) (by decide) (by decide)
    have q168 : At (Ty.lst Ty.ints SL) t11 a34 (.tmp 2) := by have e : a34.eval (.tmp 2) = x6_0 := q165; show Ty.has _ _ _; rw [e]; exact q167
    have q169 := Ty.up (Ty.int (0 : Int)) (h4.le (by decide)) (D20.dn 2 rfl rfl)
    exact retL2 rfl ok31 F35 ⟨SL, (hasT2 (cvt (by (rfl)) q168) (cvi (by (unfold eltE; rw [if_pos hsz])) q169)), o201, o202, o203, (by exact ⟨fun _ => EltK.sorted hC hG (ek ▸ hE) hSP hSS, fun h_ => absurd hsz h_⟩)⟩


set_option maxHeartbeats 4000000 in
set_option maxRecDepth 100000 in
theorem rowPlace_fn (r : List Int) (σ : GW)  (v0 : Value) (hv0 : Ty.has (Ty.lst Ty.int r) σ v0)  (hr : r.length ≤ 12) :
    FnC Try.prog 94 #[v0] σ (Ty.nat (rankL r)) := by
 refine fn_intro0 Try.func94 rfl Try.ntmps94 (Nat.le_of_ble_eq_true rfl) (fun s0 a0 hle F0 ok0 hargs => ?_)
 have p0 := pA hle (hargs 0 _ rfl) hv0
 have b1 := sl_le p0
 clear hargs; refine wp_seq ?_
 refine gI a0 s0 ok0 (gC (Ty.int (0 : Int)) (gE ok0 fun a1 s1 ok1 D1 => ?_)); refine tn (wp_seq ?_)
 refine gI a1 s1 ok1 (gC (Ty.int (0 : Int)) (gE ok1 fun a2 s2 ok2 D2 => ?_)); have q2 := D2.kt (D1.kt p0 rfl) rfl; refine tn (wp_seq (wp_seq ?_))
 refine gI a2 s2 ok2 (gM q2 (gS rfl (fun A B G H I d0 => rP (y_len Try.underlying22 (ed d0 rfl rfl rfl))) (gT (Ty.int (0 : Int)) rfl (fun A B G H I => rP (y_move rfl)) (gE ok2 fun a3 s3 ok3 D3 => ?_)))); refine tn (wp_block ?_)
 refine loop (fun n1 a4 w1 => ∃ (t1 : GW) (i : Nat) (q : Nat), t1.w = w1 ∧ FromL [] s0 t1 ∧ Ok 41 [] a4 ∧ At (Ty.nat i) t1 a4 (.tmp 11) ∧ At (Ty.nat q) t1 a4 (.tmp 3) ∧ At (Ty.lst Ty.int r) t1 a4 (.tmp 0) ∧ At (Ty.lst Ty.int r) t1 a4 (.tmp 9) ∧ At (Ty.nat (List.length r)) t1 a4 (.tmp 10) ∧ (i ≤ r.length) ∧ (q * fct (r.length - i) + rankL (r.drop i) = rankL r) ∧ n1 = r.length - i) (r.length - (0)) ?_ ?_
 ·
  exact ⟨s3, 0, 0, rfl, (((F0.step0 D1.stp).step0 D2.stp).step0 D3.stp), ok3, (cvi (by (first | rfl | omega | (simp_all; done) | (simp_all; omega))) (D3.dn 2 rfl rfl)), (cvi (by (first | rfl | omega | (simp_all; done) | (simp_all; omega))) (D3.kt (D2.dn 0 rfl rfl) rfl)), (D3.kt q2 rfl), (D3.dn 0 rfl rfl), (D3.dn 1 rfl rfl), by omega, by simp, rfl⟩
 ·
  rintro n2 a5 w2 ⟨t2, i, q, rfl, F4, ok4, q9, q10, q11, q12, q13, hi, hq, rfl⟩
  have hpl := place_le hq
  have hrl := rank_le12 hr
  refine wp_seq ?_
  refine gI a5 t2 ok4 (gS rfl (fun A B G H I => rP (y_lss (kp (I 11 rfl) G q9) (kp (I 10 rfl) G q13))) (gE ok4 fun a6 s4 ok5 D4 => ?_)); have F5 := F4.step0 D4.stp; have q14 := D4.kt q9 rfl; have q15 := D4.kt q10 rfl; have q17 := D4.kt q12 rfl; refine tn (wp_seq ?_)
  refine cond_p (p := (((i : Nat) : Int) < (((List.length r) : Nat) : Int))) (D4.dn 0 rfl rfl) (fun c1 => ?_) (fun c1 => ?_)
  ·
   have hmb := place_mul hr (by omega) hq
   refine wp_skip (tn (wp_seq (wp_block (wp_seq ?_))))
   refine gI a6 s4 ok5 (gM q14 (gT (Ty.ref [(Ty.int (r.getD i 0))]) rfl (fun A B G H I => rP (y_index1 Try.underlying22 Try.inf3 (kp (I 9 rfl) G q17) (kp (I 11 rfl) G q14) (by omega) (lst_get Ty.int r 0 i (by omega)))) (gS rfl (fun A B G H I d0 => rP (y_load Try.underlying3 rfl (ed d0 rfl rfl rfl) rfl)) (gB 0 (gB 0 (gE ok5 fun a7 s5 ok6 D5 => ?_)))))); refine tn (wp_seq ?_)
   refine gI a7 s5 ok6 (gC (Ty.int (0 : Int)) (gE ok6 fun a8 s6 ok7 D6 => ?_)); have q29 := D6.kt (D5.kt (D4.kt q11 rfl) rfl) rfl; have q32 := D6.kt (D5.dn 3 rfl rfl) rfl; refine tn (wp_seq (wp_seq ?_))
   refine gI a8 s6 ok7 (gM q29 (gM q32 (gT (Ty.nat (i + 1)) rfl (fun A B G H I d0 => rP ((y_add (ed d0 rfl rfl rfl) rfl (w64 (by omega) (by omega))).mono (fun τ _ h => cvi (σ := τ) (by first | omega | exact (Int.natCast_mul _ _).symm) h))) (gT (Ty.lst Ty.int (r.drop (i + 1))) rfl (fun A B G H I d0 d1 => rP (y_drop Try.underlying22 Try.inf3 (ed d0 rfl rfl rfl) (ed d1 rfl rfl rfl) (by omega))) (gS rfl (fun A B G H I d0 => rP (y_len Try.underlying22 (ed d0 rfl rfl rfl))) (gT (Ty.int (0 : Int)) rfl (fun A B G H I => rP (y_move rfl)) (gE ok7 fun a9 s7 ok8 D7 => ?_))))))); have q43 := D7.dn 3 rfl rfl
   have b2 := sl_le q43
   refine tn (wp_block ?_)
   refine loop (fun n3 a10 w3 => ∃ (t3 : GW) (j : Nat), t3.w = w3 ∧ FromL [] s0 t3 ∧ Ok 41 [] a10 ∧ At (Ty.nat j) t3 a10 (.tmp 21) ∧ At (Ty.nat (lessN (r.getD i 0) ((r.drop (i + 1)).take j))) t3 a10 (.tmp 6) ∧ At (Ty.nat i) t3 a10 (.tmp 11) ∧ At (Ty.nat q) t3 a10 (.tmp 3) ∧ At (Ty.lst Ty.int r) t3 a10 (.tmp 0) ∧ At (Ty.lst Ty.int r) t3 a10 (.tmp 9) ∧ At (Ty.nat (List.length r)) t3 a10 (.tmp 10) ∧ At (Ty.nat i) t3 a10 (.tmp 4) ∧ At (Ty.int (r.getD i 0)) t3 a10 (.tmp 5) ∧ At (Ty.lst Ty.int (r.drop (i + 1))) t3 a10 (.tmp 19) ∧ At (Ty.nat (List.length (r.drop (i + 1)))) t3 a10 (.tmp 20) ∧ (j ≤ (r.drop (i + 1)).length) ∧ n3 = (r.drop (i + 1)).length - j) ((r.drop (i + 1)).length - (0)) ?_ ?_
   ·
    exact ⟨s7, 0, rfl, (((F5.step0 D5.stp).step0 D6.stp).step0 D7.stp), ok8, (cvi (by (first | rfl | omega | (simp_all; done) | (simp_all; omega))) (D7.dn 5 rfl rfl)), (cvi (by (simp [lessN])) (D7.kt (D6.dn 0 rfl rfl) rfl)), (D7.kt (D6.kt (D5.kt q14 rfl) rfl) rfl), (D7.kt (D6.kt (D5.kt q15 rfl) rfl) rfl), (D7.kt q29 rfl), (D7.kt (D6.kt (D5.kt q17 rfl) rfl) rfl), (D7.kt (D6.kt (D5.kt (D4.kt q13 rfl) rfl) rfl) rfl), (D7.kt q32 rfl), (D7.kt (D6.kt (D5.dn 4 rfl rfl) rfl) rfl), q43, (D7.dn 4 rfl rfl), by omega, rfl⟩
   ·
    rintro n4 a11 w4 ⟨t4, j, rfl, F9, ok9, q46, q47, q48, q49, q50, q51, q52, q53, q54, q55, q56, hj, rfl⟩
    have hll := lessN_le (r.getD i 0) ((r.drop (i + 1)).take j)
    have htl := List.length_take_le j (r.drop (i + 1))
    have hdl : (r.drop (i + 1)).length = r.length - (i + 1) := List.length_drop
    refine wp_seq ?_
    refine gI a11 t4 ok9 (gS rfl (fun A B G H I => rP (y_lss (kp (I 21 rfl) G q46) (kp (I 20 rfl) G q56))) (gE ok9 fun a12 s8 ok10 D8 => ?_)); have F10 := F9.step0 D8.stp; have q57 := D8.kt q46 rfl; have q58 := D8.kt q47 rfl; have q59 := D8.kt q48 rfl; have q60 := D8.kt q49 rfl; have q61 := D8.kt q50 rfl; have q62 := D8.kt q51 rfl; have q63 := D8.kt q52 rfl; have q64 := D8.kt q53 rfl; have q66 := D8.kt q55 rfl; refine tn (wp_seq ?_)
    refine cond_p (p := (((j : Nat) : Int) < (((List.length (r.drop (i + 1))) : Nat) : Int))) (D8.dn 0 rfl rfl) (fun c2 => ?_) (fun c2 => ?_)
    ·
     refine wp_skip (tn (wp_seq (wp_block (wp_seq ?_))))
     refine gI a12 s8 ok10 (gT (Ty.ref [(Ty.int ((r.drop (i + 1)).getD j 0))]) rfl (fun A B G H I => rP (y_index1 Try.underlying22 Try.inf3 (kp (I 19 rfl) G q66) (kp (I 21 rfl) G q57) (by omega) (lst_get Ty.int (r.drop (i + 1)) 0 j (by omega)))) (gS rfl (fun A B G H I d0 => rP (y_load Try.underlying3 rfl (ed d0 rfl rfl rfl) rfl)) (gB 0 (gE ok10 fun a13 s9 ok11 D9 => ?_)))); have q77 := D9.kt (D8.kt q54 rfl) rfl; refine tn (wp_seq ?_)
     refine gI a13 s9 ok11 (gM (D9.dn 2 rfl rfl) (gM q77 (gS rfl (fun A B G H I d0 d1 => rP (y_lss (ed d0 rfl rfl rfl) (ed d1 rfl rfl rfl))) (gE ok11 fun a14 s10 ok12 D10 => ?_)))); have F12 := (F10.step0 D9.stp).step0 D10.stp; have q81 := D10.kt (D9.kt q57 rfl) rfl; have q82 := D10.kt (D9.kt q58 rfl) rfl; have q83 := D10.kt (D9.kt q59 rfl) rfl; have q84 := D10.kt (D9.kt q60 rfl) rfl; have q85 := D10.kt (D9.kt q61 rfl) rfl; have q86 := D10.kt (D9.kt q62 rfl) rfl; have q87 := D10.kt (D9.kt q63 rfl) rfl; have q88 := D10.kt (D9.kt q64 rfl) rfl; have q89 := D10.kt q77 rfl; have q90 := D10.kt (D9.kt q66 rfl) rfl; have q91 := D10.kt (D9.kt (D8.kt q56 rfl) rfl) rfl; refine tn ?_
     refine cond_p (p := (((r.drop (i + 1)).getD j 0) < (r.getD i 0))) (D10.dn 2 rfl rfl) (fun c3 => ?_) (fun c3 => ?_)
     ·
      refine gI a14 s10 ok12 (gM q82 (gT (Ty.nat ((lessN (r.getD i 0) ((r.drop (i + 1)).take j)) + 1)) rfl (fun A B G H I d0 => rP ((y_add (ed d0 rfl rfl rfl) rfl (w64 (by omega) (by omega))).mono (fun τ _ h => cvi (σ := τ) (by first | omega | exact (Int.natCast_mul _ _).symm) h))) (gB 0 (gE ok12 fun a15 s11 ok13 D11 => ?_)))); refine bn (tn ?_)
      refine gI a15 s11 ok13 (gT (Ty.nat (j + 1)) rfl (fun A B G H I => rP ((y_add (kp (I 21 rfl) G (D11.kt q81 rfl)) rfl (w64 (by omega) (by omega))).mono (fun τ _ h => cvi (σ := τ) (by first | omega | exact (Int.natCast_mul _ _).symm) h))) (gS rfl (fun A B G H I d0 => rP (y_move (ed d0 rfl rfl rfl))) (gE ok13 fun a16 s12 ok14 D12 => ?_)))
      exact tn ⟨(r.drop (i + 1)).length - ((j+1)), by omega, s12, (j+1), rfl, ((F12.step0 D11.stp).step0 D12.stp), ok14, (cvi (by (first | rfl | omega | (simp_all; done) | (simp_all; omega))) (D12.dn 1 rfl rfl)), (cvi (by (rw [lessN_snoc _ _ _ (by omega), if_pos (by assumption)])) (D12.kt (D11.dn 2 rfl rfl) rfl)), (D12.kt (D11.kt q83 rfl) rfl), (D12.kt (D11.kt q84 rfl) rfl), (D12.kt (D11.kt q85 rfl) rfl), (D12.kt (D11.kt q86 rfl) rfl), (D12.kt (D11.kt q87 rfl) rfl), (D12.kt (D11.kt q88 rfl) rfl), (D12.kt (D11.kt q89 rfl) rfl), (D12.kt (D11.kt q90 rfl) rfl), (D12.kt (D11.kt q91 rfl) rfl), by omega, rfl⟩
     ·
      refine wp_skip (bn (tn ?_))
      refine gI a14 s10 ok12 (gT (Ty.nat (j + 1)) rfl (fun A B G H I => rP ((y_add (kp (I 21 rfl) G q81) rfl (w64 (by omega) (by omega))).mono (fun τ _ h => cvi (σ := τ) (by first | omega | exact (Int.natCast_mul _ _).symm) h))) (gS rfl (fun A B G H I d0 => rP (y_move (ed d0 rfl rfl rfl))) (gE ok12 fun a17 s13 ok15 D13 => ?_)))
      exact tn ⟨(r.drop (i + 1)).length - ((j+1)), by omega, s13, (j+1), rfl, (F12.step0 D13.stp), ok15, (cvi (by (first | rfl | omega | (simp_all; done) | (simp_all; omega))) (D13.dn 1 rfl rfl)), (cvi (by (rw [lessN_snoc _ _ _ (by omega), if_neg (by assumption)]; rfl)) (D13.kt q82 rfl)), (D13.kt q83 rfl), (D13.kt q84 rfl), (D13.kt q85 rfl), (D13.kt q86 rfl), (D13.kt q87 rfl), (D13.kt q88 rfl), (D13.kt q89 rfl), (D13.kt q90 rfl), (D13.kt q91 rfl), by omega, rfl⟩
    ·
     refine wp_exit (tx (tx (bx (tn ?_))))
     refine gI a12 s8 ok10 (gM q60 (gM q61 (gS rfl (fun A B G H I d0 => rP (y_len Try.underlying22 (ed d0 rfl rfl rfl))) (gM q64 (gT (Ty.nat ((List.length r) - i)) rfl (fun A B G H I d0 d1 => rP ((y_sub (ed d0 rfl rfl rfl) (ed d1 rfl rfl rfl) (w64 (by omega) (by omega))).mono (fun τ _ h => cvi (σ := τ) (by omega) h))) (gT (Ty.nat (q * ((List.length r) - i))) rfl (fun A B G H I d0 d1 => rP ((y_mul (ed d0 rfl rfl rfl) (ed d1 rfl rfl rfl) (w64 (by omega) (by omega))).mono (fun τ _ h => cvi (σ := τ) (by first | omega | exact (Int.natCast_mul _ _).symm) h))) (gM q58 (gT (Ty.nat ((q * ((List.length r) - i)) + (lessN (r.getD i 0) ((r.drop (i + 1)).take j)))) rfl (fun A B G H I d0 d1 => rP ((y_add (ed d0 rfl rfl rfl) (ed d1 rfl rfl rfl) (w64 (by omega) (by omega))).mono (fun τ _ h => cvi (σ := τ) (by first | omega | exact (Int.natCast_mul _ _).symm) h))) (gB 0 (gE ok10 fun a18 s14 ok16 D14 => ?_)))))))))); refine bn (tn ?_)
     refine gI a18 s14 ok16 (gT (Ty.nat (i + 1)) rfl (fun A B G H I => rP ((y_add (kp (I 11 rfl) G (D14.kt q59 rfl)) rfl (w64 (by omega) (by omega))).mono (fun τ _ h => cvi (σ := τ) (by first | omega | exact (Int.natCast_mul _ _).symm) h))) (gS rfl (fun A B G H I d0 => rP (y_move (ed d0 rfl rfl rfl))) (gE ok16 fun a19 s15 ok17 D15 => ?_)))
     obtain rfl : j = (r.drop (i + 1)).length := (by omega)
     exact tn ⟨r.length - ((i+1)), by omega, s15, (i+1), (q * (r.length - i) + lessN (r.getD i 0) (r.drop (i + 1))), rfl, ((F10.step0 D14.stp).step0 D15.stp), ok17, (cvi (by (first | rfl | omega | (simp_all; done) | (simp_all; omega))) (D15.dn 1 rfl rfl)), (cvi (by (rw [List.take_length])) (D15.kt (D14.dn 8 rfl rfl) rfl)), (D15.kt (D14.kt q61 rfl) rfl), (D15.kt (D14.kt q62 rfl) rfl), (D15.kt (D14.kt q63 rfl) rfl), by omega, place_step (by omega) hq, rfl⟩
  ·
   refine wp_exit (tx (tx (bx (tn (wp_seq ?_)))))
   refine gI a6 s4 ok5 (gM q15 (gB 0 (gE ok5 fun a20 s16 ok18 D16 => ?_))); refine tn (wp_ret ?_)
   exact retL1 rfl ok18 (F5.step0 D16.stp) (cvi (by (obtain rfl : i = r.length := (by omega); exact congrArg _ (place_end hq))) (D16.dn 1 rfl rfl))

theorem Try.inf100 : Info Try.prog 100 (.map none) 1 8 := by unfold Info; kernel_rfl
theorem Try.inf101 : Info Try.prog 101 (.agg (Array.replicate 2 (.slice none 0 0))) 2 48 := by unfold Info; kernel_rfl
theorem Try.inf103 : Info Try.prog 103 (.agg #[.slice none 0 0, .map none, .slice none 0 0, .slice none 0 0]) 4 80 := by unfold Info; kernel_rfl
theorem Try.fld103_0 : fieldOf Try.prog 103 0 = some (24, 0) := by kernel_rfl
theorem Try.fld103_1 : fieldOf Try.prog 103 1 = some (100, 1) := by kernel_rfl
theorem Try.fld103_2 : fieldOf Try.prog 103 2 = some (101, 2) := by kernel_rfl
set_option maxHeartbeats 4000000 in
set_option maxRecDepth 100000 in
theorem mk2_fn (ra : List Int) (rb : List Int) (σ : GW) (hlow : Low [] σ) (v0 v1 : Value) (hv0 : Ty.has (Ty.lst Ty.int ra) σ v0) (hv1 : Ty.has (Ty.lst Ty.int rb) σ v1)  (hM : gensMay ((ra.length : Nat) : Int) [ra, rb] = 0) (hS : szTo ra.length (fun z => z ∈ [ra, rb]) ra.length ≤ 5040) :
    FnL Try.prog 68 #[v0, v1] σ [] (fun v τ => ∃ (E : (List (List Int))), ∃ (pm : Value), (Ty.has (Ty.tup2 (Ty.ref [(Ty.lst Ty.ints E), (Ty.val pm), (Ty.lst Ty.int (actL E ra E.length)), (Ty.lst Ty.int (actL E rb E.length))]) (Ty.int (0 : Int))) τ v) ∧ (EltsOk ra.length [ra, rb] E)) := by
 have hT2 := TwoP.of hM
 have hn := hT2.hn
 have hG := hT2.g
 have hra := hT2.cx
 have hrb := hT2.cy
 have hl8 : [ra, rb].length ≤ 8 := (by simp)
 refine fn_introL hlow Try.func68 rfl Try.ntmps68 (Nat.le_of_ble_eq_true rfl) (fun a0 F0 ok0 hargs => ?_)
 have p0 := pB (hargs 0 _ rfl) hv0
 have b1 := sl_le p0
 have p1 := pB (hargs 1 _ rfl) hv1
 have b2 := sl_le p1
 clear hargs; refine wp_seq ?_
 refine gI a0 σ ok0 (gC (Ty.val (Value.pointer none)) (gC (Ty.int (0 : Int)) (gE ok0 fun a1 s1 ok1 D1 => ?_))); have q1 := D1.kt p0 rfl; have q2 := D1.kt p1 rfl; refine tn (wp_seq ?_)
 refine gI a1 s1 ok1 (gM q1 (gS rfl (fun A B G H I d0 => rP (y_len Try.underlying22 (ed d0 rfl rfl rfl))) (gM q1 (gM q2 (gT (Ty.sl 1 2 [(Ty.lst Ty.int ra), (Ty.lst Ty.int rb)]) rfl (fun A B G H I d0 d1 => rP (y_build2 Try.underlying24 Try.inf22 rfl (one_sl) (one_sl) (ed d0 rfl rfl rfl) (ed d1 rfl rfl rfl))) (gE2 ok1 fun a2 s2 ok2 D2 => ?_)))))); have q6 := D2.dn 4 (by decide) rfl rfl
 have b3 := sl_le q6
 refine tL ok2 (y_callL (L := []) [] [(41, 61), (42, 62), (43, 63)] _ rfl (by decide) Try.func17 rfl rfl my2 (gMake_fn ((List.length ra)) ([ra, rb]) _ (GW.low_lend _ (by decide)) _ _ (Ty.up _ (GW.le_lend _ _) (cvi (σ := s2) (by first | omega | assumption) (D2.dn 1 (by decide) rfl rfl))) (Ty.up _ (GW.le_lend _ _) q6)  (by first | omega | assumption) (by first | omega | assumption) (by first | omega | assumption))) fun a3 s3 hs1 ok3 r1 sm1 => ?_
 have F3 := ((F0.step0 D1.stp).step0 D2.stp).stepL hs1 (by decide); have q7 := kpL hs1 (by decide) (sm1 0 (by decide)) (D2.kt q1 rfl); have q8 := kpL hs1 (by decide) (sm1 1 (by decide)) (D2.kt q2 rfl)
 obtain ⟨t1, ⟨g1, g2, x1, x2, x3, hT1, o1, o2, o3, hp1⟩, B1⟩ := r1
 have q9 : At (Ty.tup2 (Ty.val x1) (Ty.int (0 : Int))) s3 a3 (.tmp 21) := Ty.up _ B1.le hT1
 have o4 : OwnP s3 61 x1 [(Ty.nat ((List.length ra))), (Ty.val x3), (Ty.val x2)] := OwnP.ren o1 (B1.ren (by decide) rfl)
 have o5 : ChnU s3 62 22 108 x2 ((List.length ra)) (g1) (g2) := ChnU.ren o2 (B1.ren (by decide) rfl)
 have o6 : Own s3 63 22 1 x3 (List.length ([ra, rb])) (List.map Ty.ints ([ra, rb])) := Own.ren o3 (B1.ren (by decide) rfl)
 refine tL ok3 (Yld.toL (y_mv q9)) fun a4 s4 hs2 ok4 r2 sm2 => ?_
 have F4 := F3.stepL hs2 (by decide); have q10 := kpL hs2 (by decide) (sm2 0 (by decide)) q7; have q11 := kpL hs2 (by decide) (sm2 1 (by decide)) q8; have o7 := OwnP.keepL o4 hs2 (by decide) (by decide); have o8 := ChnU.keepL o5 hs2 (by decide) (by decide); have o9 := Own.keepL o6 hs2 (by decide) (by decide)
 have q12 : At (Ty.tup2 (Ty.val x1) (Ty.int (0 : Int))) s4 a4 (.tmp 15) := r2
 clear r2
 refine tL (R := (fun v τ => Pr.has (Ty.pr (Ty.val x1)) τ v)) ok4 (Yld.toL (y_ext2_0 q12)) fun a5 s5 hs3 ok5 r3 sm3 => ?_
 have F5 := F4.stepL hs3 (by decide); have q13 := kpL hs3 (by decide) (sm3 0 (by decide)) q10; have q14 := kpL hs3 (by decide) (sm3 1 (by decide)) q11; have q15 := kpL hs3 (by decide) (sm3 15 (by decide)) q12; have o10 := OwnP.keepL o7 hs3 (by decide) (by decide); have o11 := ChnU.keepL o8 hs3 (by decide) (by decide); have o12 := Own.keepL o9 hs3 (by decide) (by decide)
 have q16 : At (Ty.val x1) s5 a5 (.tmp 22) := r3
 clear r3
 refine tL (R := (fun v τ => Pr.has (Ty.pr (Ty.int (0 : Int))) τ v)) ok5 (Yld.toL (y_ext2_1 q15)) fun a6 s6 hs4 ok6 r4 sm4 => ?_
 have F6 := F5.stepL hs4 (by decide); have q17 := kpL hs4 (by decide) (sm4 0 (by decide)) q13; have q18 := kpL hs4 (by decide) (sm4 1 (by decide)) q14; have q19 := kpL hs4 (by decide) (sm4 22 (by decide)) q16; have o13 := OwnP.keepL o10 hs4 (by decide) (by decide); have o14 := ChnU.keepL o11 hs4 (by decide) (by decide); have o15 := Own.keepL o12 hs4 (by decide) (by decide)
 have q20 : At (Ty.int (0 : Int)) s6 a6 (.tmp 23) := r4
 clear r4
 refine tL ok6 (Yld.toL (y_as q19)) fun a7 s7 hs5 ok7 r5 sm5 => ?_
 have F7 := F6.stepL hs5 (by decide); have q21 := kpL hs5 (by decide) (sm5 0 (by decide)) q17; have q22 := kpL hs5 (by decide) (sm5 1 (by decide)) q18; have q23 := kpL hs5 (by decide) (sm5 23 (by decide)) q20; have o16 := OwnP.keepL o13 hs5 (by decide) (by decide); have o17 := ChnU.keepL o14 hs5 (by decide) (by decide); have o18 := Own.keepL o15 hs5 (by decide) (by decide)
 have q24 : At (Ty.val x1) s7 a7 (.tmp 6) := r5
 clear r5
 refine tL ok7 (Yld.toL (y_as q23)) fun a8 s8 hs6 ok8 r6 sm6 => ?_
 have F8 := F7.stepL hs6 (by decide); have q25 := kpL hs6 (by decide) (sm6 0 (by decide)) q21; have q26 := kpL hs6 (by decide) (sm6 1 (by decide)) q22; have q27 := kpL hs6 (by decide) (sm6 6 (by decide)) q24; have o19 := OwnP.keepL o16 hs6 (by decide) (by decide); have o20 := ChnU.keepL o17 hs6 (by decide) (by decide); have o21 := Own.keepL o18 hs6 (by decide) (by decide)
 have q28 : At (Ty.int (0 : Int)) s8 a8 (.tmp 7) := r6
 clear r6; refine wpList_nil (tn (wp_seq (wp_seq ?_)))
 refine gI a8 s8 ok8 (gM q28 (gT (Ty.bool false) rfl (fun A B G H I d0 => rP ((y_neq (ed d0 rfl rfl rfl) rfl).mono (fun τ _ h => cvb (σ := τ) (by decide) h))) (gE ok8 fun a9 s9 ok9 D3 => ?_))); have o22 := OwnP.k0 o19 D3.stp; have o23 := ChnU.k0 o20 D3.stp; have o24 := Own.k0 o21 D3.stp; refine tn ?_
 refine cond_t (D3.dn 1 rfl rfl) (fun c1 => (by cases c1)) (fun _ => ?_)
 refine wp_skip (tn (wp_seq ?_))
 refine gI a9 s9 ok9 (gR (Pr.ownm Ty.int kI 6 (fun _ => none : Int → Option Int)) rfl (by intro A B G H I; exact rP (y_makemap 6)) (gE2 ok9 fun a10 s10 ok10 D4 => ?_)); have o25 := OwnP.k0 o22 D4.stp; have o26 := ChnU.k0 o23 D4.stp; have o27 := Own.k0 o24 D4.stp
 obtain ⟨x4, hx1⟩ : ∃ x, a10.eval (.tmp 27) = x := ⟨_, rfl⟩
 have q37 : At (Ty.val x4) s10 a10 (.tmp 27) := hx1
 have o28 := al2 (R := (Pr.ownm Ty.int kI 6 (fun _ => none : Int → Option Int))) hx1 (D4.done 0 (by decide))
 refine tL (R := (fun v τ => Pr.has (Ty.pr (Ty.agg [(Ty.val (Value.slice none 0 0)), (Ty.val x4), (Ty.val (Value.slice none 0 0)), (Ty.val (Value.slice none 0 0))])) τ v)) ok10 (Yld.toL (y_bld [(1, (.tmp 27), (Ty.val x4))] [(Ty.val (Value.slice none 0 0)), (Ty.val (Value.map none)), (Ty.val (Value.slice none 0 0)), (Ty.val (Value.slice none 0 0))] (l := [(0, 1), (1, 1), (2, 2)]) rfl Try.inf103 rfl (alloc_vals (vs := [.slice none 0 0, .map none, .slice none 0 0, .slice none 0 0]) rfl) rfl (by intro p hp; simp only [List.mem_cons, List.not_mem_nil, or_false] at hp; rcases hp with rfl; exact ⟨one_val (OwnM.one o28), q37⟩))) fun a11 s11 hs7 ok11 r7 sm7 => ?_
 have F11 := ((F8.step0 D3.stp).step0 D4.stp).stepL hs7 (by decide); have q38 := kpL hs7 (by decide) (sm7 0 (by decide)) (D4.kt (D3.kt q25 rfl) rfl); have q39 := kpL hs7 (by decide) (sm7 1 (by decide)) (D4.kt (D3.kt q26 rfl) rfl); have q40 := kpL hs7 (by decide) (sm7 6 (by decide)) (D4.kt (D3.kt q27 rfl) rfl); have o29 := OwnP.keepL o25 hs7 (by decide) (by decide); have o30 := ChnU.keepL o26 hs7 (by decide) (by decide); have o31 := Own.keepL o27 hs7 (by decide) (by decide); have o32 := OwnM.keepL o28 hs7 (by decide) (by decide)
 have q41 : At (Ty.agg [(Ty.val (Value.slice none 0 0)), (Ty.val x4), (Ty.val (Value.slice none 0 0)), (Ty.val (Value.slice none 0 0))]) s11 a11 (.tmp 28) := r7
 clear r7
 refine tL (R := (fun v τ => Pr.has (Pr.ownp 5 [(Ty.val (Value.slice none 0 0)), (Ty.val x4), (Ty.val (Value.slice none 0 0)), (Ty.val (Value.slice none 0 0))]) τ v)) ok11 (Yld.toL (y_boxo 5 q41)) fun a12 s12 hs8 ok12 r8 sm8 => ?_
 have F12 := F11.stepL hs8 (by decide); have q42 := kpL hs8 (by decide) (sm8 0 (by decide)) q38; have q43 := kpL hs8 (by decide) (sm8 1 (by decide)) q39; have q44 := kpL hs8 (by decide) (sm8 6 (by decide)) q40; have o34 := OwnP.keepL o29 hs8 (by decide) (by decide); have o35 := ChnU.keepL o30 hs8 (by decide) (by decide); have o36 := Own.keepL o31 hs8 (by decide) (by decide); have o37 := OwnM.keepL o32 hs8 (by decide) (by decide)
 obtain ⟨x5, hx2⟩ : ∃ x, a12.eval (.tmp 29) = x := ⟨_, rfl⟩
 have q45 : At (Ty.val x5) s12 a12 (.tmp 29) := hx2
 have o33 := al2 (R := (Pr.ownp 5 [(Ty.val (Value.slice none 0 0)), (Ty.val x4), (Ty.val (Value.slice none 0 0)), (Ty.val (Value.slice none 0 0))])) hx2 r8
 clear r8
 refine tL ok12 (Yld.toL (y_as q45)) fun a13 s13 hs9 ok13 r9 sm9 => ?_
 have F13 := F12.stepL hs9 (by decide); have q46 := kpL hs9 (by decide) (sm9 0 (by decide)) q42; have q47 := kpL hs9 (by decide) (sm9 1 (by decide)) q43; have q48 := kpL hs9 (by decide) (sm9 6 (by decide)) q44; have o38 := OwnP.keepL o34 hs9 (by decide) (by decide); have o39 := ChnU.keepL o35 hs9 (by decide) (by decide); have o40 := Own.keepL o36 hs9 (by decide) (by decide); have o41 := OwnM.keepL o37 hs9 (by decide) (by decide); have o42 := OwnP.keepL o33 hs9 (by decide) (by decide)
 have q49 : At (Ty.val x5) s13 a13 (.tmp 8) := r9
 clear r9; refine wpList_nil (tn (wp_seq (wp_seq ?_)))
 refine gI a13 s13 ok13 (gM q49 (gM q48 (gE2 ok13 fun a14 s14 ok14 D5 => ?_))); have o43 := OwnP.k0 o38 D5.stp; have o44 := ChnU.k0 o39 D5.stp; have o45 := Own.k0 o40 D5.stp; have o46 := OwnM.k0 o41 D5.stp; have o47 := OwnP.k0 o42 D5.stp
 have q53 : At (Ty.val x5) s14 a14 (.tmp 31) := D5.done 0 (by decide)
 have q54 : At (Ty.val x1) s14 a14 (.tmp 32) := D5.done 1 (by decide)
 refine tL ok14 (y_callL (L := [41, 42, 43]) [(61, 41), (62, 42), (63, 43)] [(41, 61), (42, 62), (43, 63)] #[a14.eval (.tmp 32)] rfl (by decide) Try.func60 rfl rfl my1 (gElts_fn (x1) (x3) (x2) ((g2)) (((List.length ra))) ((g1)) (([ra, rb])) _ (GW.low_lend _ (by decide)) _ (Ty.up _ (GW.le_lend _ _) q54) (OwnP.ren (ownp_cell 0 (Ty.nat (((List.length ra)))) o43 rfl (fun _ _ h => (cvi (by (first | rfl | omega | (simp_all; done) | (simp_all; omega))) h))) (GW.ren_lend _ _ (by decide) rfl)) (ChnU.ren (cvch (by (rfl)) o44) (GW.ren_lend _ _ (by decide) rfl)) (Own.ren (cvo (by (simp)) (by (simp)) o45) (GW.ren_lend _ _ (by decide) rfl)) (by first | omega | assumption) (by first | omega | assumption))) fun a15 s15 hs10 ok15 r10 sm10 => ?_
 have F15 := (F13.step0 D5.stp).stepL hs10 (by decide); have q55 := kpL hs10 (by decide) (sm10 0 (by decide)) (D5.kt q46 rfl); have q56 := kpL hs10 (by decide) (sm10 1 (by decide)) (D5.kt q47 rfl); have q57 := kpL hs10 (by decide) (sm10 8 (by decide)) (D5.kt q49 rfl); have q58 := kpL hs10 (by decide) (sm10 31 (by decide)) q53; have o54 := OwnM.keepL o46 hs10 (by decide) (by decide); have o55 := OwnP.keepL o47 hs10 (by decide) (by decide)
 obtain ⟨t2, ⟨g3, hT2, o48, o49, o50, hp2⟩, B2⟩ := r10
 have q59 : At (Ty.tup2 (Ty.lst Ty.ints (g3)) (Ty.int (eltE (((List.length ra))) (([ra, rb]))))) s15 a15 (.tmp 33) := Ty.up _ B2.le hT2
 have o51 : OwnP s15 61 x1 [(Ty.nat (((List.length ra)))), (Ty.val x3), (Ty.val x2)] := OwnP.ren o48 (B2.ren (by decide) rfl)
 have o52 : ChnU s15 62 22 108 x2 (((List.length ra))) ((g1)) ((g2)) := ChnU.ren o49 (B2.ren (by decide) rfl)
 have o53 : Own s15 63 22 1 x3 (List.length (([ra, rb]))) (List.map Ty.ints (([ra, rb]))) := Own.ren o50 (B2.ren (by decide) rfl)
 refine tL ok15 (Yld.toL (y_mv q59)) fun a16 s16 hs11 ok16 r11 sm11 => ?_
 have F16 := F15.stepL hs11 (by decide); have q60 := kpL hs11 (by decide) (sm11 0 (by decide)) q55; have q61 := kpL hs11 (by decide) (sm11 1 (by decide)) q56; have q62 := kpL hs11 (by decide) (sm11 8 (by decide)) q57; have q63 := kpL hs11 (by decide) (sm11 31 (by decide)) q58; have o56 := OwnM.keepL o54 hs11 (by decide) (by decide); have o57 := OwnP.keepL o55 hs11 (by decide) (by decide); have o58 := OwnP.keepL o51 hs11 (by decide) (by decide); have o59 := ChnU.keepL o52 hs11 (by decide) (by decide); have o60 := Own.keepL o53 hs11 (by decide) (by decide)
 have q64 : At (Ty.tup2 (Ty.lst Ty.ints (g3)) (Ty.int (eltE (((List.length ra))) (([ra, rb]))))) s16 a16 (.tmp 30) := r11
 clear r11
 refine tL (R := (fun v τ => Pr.has (Ty.pr (Ty.lst Ty.ints (g3))) τ v)) ok16 (Yld.toL (y_ext2_0 q64)) fun a17 s17 hs12 ok17 r12 sm12 => ?_
 have F17 := F16.stepL hs12 (by decide); have q65 := kpL hs12 (by decide) (sm12 0 (by decide)) q60; have q66 := kpL hs12 (by decide) (sm12 1 (by decide)) q61; have q67 := kpL hs12 (by decide) (sm12 8 (by decide)) q62; have q68 := kpL hs12 (by decide) (sm12 31 (by decide)) q63; have q69 := kpL hs12 (by decide) (sm12 30 (by decide)) q64; have o61 := OwnM.keepL o56 hs12 (by decide) (by decide); have o62 := OwnP.keepL o57 hs12 (by decide) (by decide); have o63 := OwnP.keepL o58 hs12 (by decide) (by decide); have o64 := ChnU.keepL o59 hs12 (by decide) (by decide); have o65 := Own.keepL o60 hs12 (by decide) (by decide)
 have q70 : At (Ty.lst Ty.ints (g3)) s17 a17 (.tmp 34) := r12
 clear r12
 refine tL (R := (fun v τ => Pr.has (Ty.pr (Ty.int (eltE (((List.length ra))) (([ra, rb]))))) τ v)) ok17 (Yld.toL (y_ext2_1 q69)) fun a18 s18 hs13 ok18 r13 sm13 => ?_
 have F18 := F17.stepL hs13 (by decide); have q71 := kpL hs13 (by decide) (sm13 0 (by decide)) q65; have q72 := kpL hs13 (by decide) (sm13 1 (by decide)) q66; have q73 := kpL hs13 (by decide) (sm13 8 (by decide)) q67; have q74 := kpL hs13 (by decide) (sm13 31 (by decide)) q68; have q75 := kpL hs13 (by decide) (sm13 34 (by decide)) q70; have o66 := OwnM.keepL o61 hs13 (by decide) (by decide); have o67 := OwnP.keepL o62 hs13 (by decide) (by decide); have o68 := OwnP.keepL o63 hs13 (by decide) (by decide); have o69 := ChnU.keepL o64 hs13 (by decide) (by decide); have o70 := Own.keepL o65 hs13 (by decide) (by decide)
 have q76 : At (Ty.int (eltE (((List.length ra))) (([ra, rb])))) s18 a18 (.tmp 35) := r13
 clear r13
 refine tL (R := (fun v τ => Pr.has (Ty.pr (Ty.val x5)) τ v)) ok18 (Yld.toL (y_nilp o67 q74)) fun a19 s19 hs14 ok19 r14 sm14 => ?_
 have F19 := F18.stepL hs14 (by decide); have q77 := kpL hs14 (by decide) (sm14 0 (by decide)) q71; have q78 := kpL hs14 (by decide) (sm14 1 (by decide)) q72; have q79 := kpL hs14 (by decide) (sm14 8 (by decide)) q73; have q80 := kpL hs14 (by decide) (sm14 34 (by decide)) q75; have q81 := kpL hs14 (by decide) (sm14 35 (by decide)) q76; have o71 := OwnM.keepL o66 hs14 (by decide) (by decide); have o72 := OwnP.keepL o67 hs14 (by decide) (by decide); have o73 := OwnP.keepL o68 hs14 (by decide) (by decide); have o74 := ChnU.keepL o69 hs14 (by decide) (by decide); have o75 := Own.keepL o70 hs14 (by decide) (by decide)
 have q82 : At (Ty.val x5) s19 a19 (.tmp 36) := r14
 clear r14
 refine tL (R := (fun v τ => Pr.has (Ty.pr (Ty.val (ptrAt x5 0))) τ v)) ok19 (Yld.toL (ownp_field Try.fld103_0 Try.inf24 (by decide) o72 q82)) fun a20 s20 hs15 ok20 r15 sm15 => ?_
 have F20 := F19.stepL hs15 (by decide); have q83 := kpL hs15 (by decide) (sm15 0 (by decide)) q77; have q84 := kpL hs15 (by decide) (sm15 1 (by decide)) q78; have q85 := kpL hs15 (by decide) (sm15 8 (by decide)) q79; have q86 := kpL hs15 (by decide) (sm15 34 (by decide)) q80; have q87 := kpL hs15 (by decide) (sm15 35 (by decide)) q81; have o76 := OwnM.keepL o71 hs15 (by decide) (by decide); have o77 := OwnP.keepL o72 hs15 (by decide) (by decide); have o78 := OwnP.keepL o73 hs15 (by decide) (by decide); have o79 := ChnU.keepL o74 hs15 (by decide) (by decide); have o80 := Own.keepL o75 hs15 (by decide) (by decide)
 have q88 : At (Ty.val (ptrAt x5 0)) s20 a20 (.tmp 37) := r15
 clear r15
 refine tailL0 (L := [5]) (R := (fun _ τ => OwnP τ 5 x5 ([(Ty.val (Value.slice none 0 0)), (Ty.val x4), (Ty.val (Value.slice none 0 0)), (Ty.val (Value.slice none 0 0))].set 0 (Ty.lst Ty.ints (g3))))) rfl rfl (YldM.toL (m_storep Try.inf24 (by decide) o77 q88 (Nat.le_of_ble_eq_true rfl) q86 (one_sl))) (fun v1 s21 hs16 r16 => ?_)
 have F21 := F20.stepL hs16 (by decide); have q89 := kpL hs16 (by decide) rfl q83; have q90 := kpL hs16 (by decide) rfl q84; have q91 := kpL hs16 (by decide) rfl q85; have q92 := kpL hs16 (by decide) rfl q87; have o82 := OwnM.keepL o76 hs16 (by decide) (by decide); have o83 := OwnP.keepL o78 hs16 (by decide) (by decide); have o84 := ChnU.keepL o79 hs16 (by decide) (by decide); have o85 := Own.keepL o80 hs16 (by decide) (by decide)
 have o81 : OwnP s21 5 x5 [(Ty.lst Ty.ints (g3)), (Ty.val x4), (Ty.val (Value.slice none 0 0)), (Ty.val (Value.slice none 0 0))] := r16
 clear r16
 refine tL ok20 (Yld.toL (y_as q92)) fun a21 s22 hs17 ok21 r17 sm16 => ?_
 have F22 := F21.stepL hs17 (by decide); have q94 := kpL hs17 (by decide) (sm16 0 (by decide)) q89; have q95 := kpL hs17 (by decide) (sm16 1 (by decide)) q90; have q96 := kpL hs17 (by decide) (sm16 8 (by decide)) q91; have o86 := OwnM.keepL o82 hs17 (by decide) (by decide); have o87 := OwnP.keepL o83 hs17 (by decide) (by decide); have o88 := ChnU.keepL o84 hs17 (by decide) (by decide); have o89 := Own.keepL o85 hs17 (by decide) (by decide); have o90 := OwnP.keepL o81 hs17 (by decide) (by decide)
 have q97 : At (Ty.int (eltE (((List.length ra))) (([ra, rb])))) s22 a21 (.tmp 7) := r17
 clear r17; refine wpList_nil (tn (wp_seq ?_))
 refine gI a21 s22 ok21 (gM q97 (gS rfl (fun A B G H I d0 => rP (y_neq (ed d0 rfl rfl rfl) rfl)) (gE ok21 fun a22 s23 ok22 D6 => ?_))); have q100 := D6.kt q96 rfl; have o91 := OwnM.k0 o86 D6.stp; have o92 := OwnP.k0 o90 D6.stp; refine tn ?_
 refine cond_p (p := ((eltE (((List.length ra))) (([ra, rb]))) ≠ (0 : Int))) (D6.dn 1 rfl rfl) (fun c2 => ?_) (fun c2 => ?_)
 ·
  exfalso
  unfold eltE at c2; rw [if_pos hS] at c2; exact c2 rfl
 ·
  have hEO := hp2.ok hS; have hrE := hEO.rows hn hG; have hEl := hEO.len
  refine wp_skip (tn (wp_seq (wp_seq ?_)))
  refine gI a22 s23 ok22 (gM q100 (gT (Ty.val x5) rfl (fun A B G H I d0 => rP (y_nilp (OwnP.k0 o92 G) (ed d0 rfl rfl rfl))) (gT (Ty.val (ptrAt x5 0)) rfl (fun A B G H I d0 => rP (ownp_field Try.fld103_0 Try.inf24 (by decide) (OwnP.k0 o92 G) (ed d0 rfl rfl rfl))) (gS rfl (fun A B G H I d0 => rP (ownp_load Try.underlying24 rfl (OwnP.k0 o92 G) (ed d0 rfl rfl rfl) rfl)) (gS rfl (fun A B G H I d0 => rP (y_len Try.underlying24 (ed d0 rfl rfl rfl))) (gT (Ty.int (0 : Int)) rfl (fun A B G H I => rP (y_move rfl)) (gE ok22 fun a23 s24 ok23 D7 => ?_))))))); have o93 := OwnM.k0 o91 D7.stp; have o94 := OwnP.k0 o92 D7.stp; have q106 := D7.dn 3 rfl rfl
  have b4 := sl_le q106
  refine tn (wp_block ?_)
  refine loop (fun n1 a24 w1 => ∃ (t3 : GW) (a : Nat), t3.w = w1 ∧ FromL [] σ t3 ∧ Ok 100 [] a24 ∧ At (Ty.nat a) t3 a24 (.tmp 46) ∧ At (Ty.lst Ty.int ra) t3 a24 (.tmp 0) ∧ At (Ty.lst Ty.int rb) t3 a24 (.tmp 1) ∧ At (Ty.val x5) t3 a24 (.tmp 8) ∧ At (Ty.lst Ty.ints (g3)) t3 a24 (.tmp 44) ∧ At (Ty.nat (List.length (g3))) t3 a24 (.tmp 45) ∧ OwnM Ty.int kI t3 6 x4 (plF g3 a) ∧ OwnP t3 5 x5 [(Ty.lst Ty.ints g3), (Ty.val x4), (Ty.val (Value.slice none 0 0)), (Ty.val (Value.slice none 0 0))] ∧ (a ≤ g3.length) ∧ n1 = g3.length - a) (g3.length - (0)) ?_ ?_
  ·
   exact ⟨s24, 0, rfl, ((F22.step0 D6.stp).step0 D7.stp), ok23, (cvi (by (first | rfl | omega | (simp_all; done) | (simp_all; omega))) (D7.dn 5 rfl rfl)), (D7.kt (D6.kt q94 rfl) rfl), (D7.kt (D6.kt q95 rfl) rfl), (D7.kt q100 rfl), q106, (D7.dn 4 rfl rfl), (cvm (by (rfl)) o93), (ownp_cell 0 (Ty.lst Ty.ints g3) o94 rfl (fun _ _ h => (cvt (by (first | rfl | omega | (simp_all; done) | (simp_all; omega))) h))), by omega, rfl⟩
  ·
   rintro n2 a25 w2 ⟨t4, a, rfl, F25, ok24, q109, q110, q111, q112, q113, q114, o95, o96, ha, rfl⟩
   refine wp_seq ?_
   refine gI a25 t4 ok24 (gS rfl (fun A B G H I => rP (y_lss (kp (I 46 rfl) G q109) (kp (I 45 rfl) G q114))) (gE ok24 fun a26 s25 ok25 D8 => ?_)); have F26 := F25.step0 D8.stp; have q115 := D8.kt q109 rfl; have q116 := D8.kt q110 rfl; have q117 := D8.kt q111 rfl; have q118 := D8.kt q112 rfl; have q119 := D8.kt q113 rfl; have o97 := OwnM.k0 o95 D8.stp; have o98 := OwnP.k0 o96 D8.stp; refine tn (wp_seq ?_)
   refine cond_p (p := (((a : Nat) : Int) < (((List.length (g3)) : Nat) : Int))) (D8.dn 0 rfl rfl) (fun c3 => ?_) (fun c3 => ?_)
   ·
    have her := hrE _ (mem_atD [] (show a < g3.length by omega)); have hea := her.row; have hel := her.len
    refine wp_skip (tn (wp_seq (wp_block (wp_seq ?_))))
    refine gI a26 s25 ok25 (gM q115 (gT (Ty.ref [(Ty.lst Ty.int ((g3).getD a []))]) rfl (fun A B G H I => rP (y_index1 Try.underlying24 Try.inf22 (kp (I 44 rfl) G q119) (kp (I 46 rfl) G q115) (by omega) (lst_get Ty.ints (g3) [] a (by omega)))) (gS rfl (fun A B G H I d0 => rP (y_load Try.underlying22 rfl (ed d0 rfl rfl rfl) rfl)) (gB 0 (gB 0 (gE ok25 fun a27 s26 ok26 D9 => ?_)))))); have q125 := D9.kt q118 rfl; have o99 := OwnM.k0 o97 D9.stp; have o100 := OwnP.k0 o98 D9.stp; refine tn ?_
    refine gI a27 s26 ok26 (gM q125 (gT (Ty.val x5) rfl (fun A B G H I d0 => rP (y_nilp (OwnP.k0 o100 G) (ed d0 rfl rfl rfl))) (gT (Ty.val (ptrAt x5 1)) rfl (fun A B G H I d0 => rP (ownp_field Try.fld103_1 Try.inf100 (by decide) (OwnP.k0 o100 G) (ed d0 rfl rfl rfl))) (gS rfl (fun A B G H I d0 => rP (ownp_load Try.underlying100 rfl (OwnP.k0 o100 G) (ed d0 rfl rfl rfl) rfl)) (gM (D9.dn 4 rfl rfl) (gS rfl (fun A B G H I d0 => rP (y_call _ Try.func94 rfl rfl my1 (rowPlace_fn (((g3).getD a [])) _ _ (ed d0 rfl rfl rfl) (by omega)))) (gM (D9.dn 3 rfl rfl) (gE2 ok26 fun a28 s27 ok27 D10 => ?_)))))))); have o101 := OwnM.k0 o99 D10.stp; have o102 := OwnP.k0 o100 D10.stp
    have q136 : At (Ty.val x4) s27 a28 (.tmp 54) := D10.done 3 (by decide)
    refine tailL0 (L := [6]) (R := (fun _ τ => OwnM Ty.int kI τ 6 x4 (fun x_ => if x_ = (((rankL (((g3).getD a []))) : Nat) : Int) then some ((a : Nat) : Int) else (plF g3 a) x_))) rfl rfl (YldM.toL (m_mapset (i := (((rankL (((g3).getD a []))) : Nat) : Int)) Try.underlying100 (keyInt Try.underlying3) (by decide) o101 q136 (D10.dn 5 (by decide) rfl rfl) (D10.dn 6 (by decide) rfl rfl))) (fun v2 s28 hs18 r18 => ?_)
    have F29 := ((F26.step0 D9.stp).step0 D10.stp).stepL hs18 (by decide); have q139 := kpL hs18 (by decide) rfl (D10.kt (D9.kt q115 rfl) rfl); have q140 := kpL hs18 (by decide) rfl (D10.kt (D9.kt q116 rfl) rfl); have q141 := kpL hs18 (by decide) rfl (D10.kt (D9.kt q117 rfl) rfl); have q142 := kpL hs18 (by decide) rfl (D10.kt q125 rfl); have q143 := kpL hs18 (by decide) rfl (D10.kt (D9.kt q119 rfl) rfl); have q144 := kpL hs18 (by decide) rfl (D10.kt (D9.kt (D8.kt q114 rfl) rfl) rfl); have o104 := OwnP.keepL o102 hs18 (by decide) (by decide)
    have o103 : OwnM Ty.int kI s28 6 x4 (fun x_ => if x_ = (((rankL (((g3).getD a []))) : Nat) : Int) then some ((a : Nat) : Int) else (plF g3 a) x_) := r18
    clear r18; refine wpList_nil (bn (tn ?_))
    refine gI a28 s28 ok27 (gT (Ty.nat (a + 1)) rfl (fun A B G H I => rP ((y_add (kp (I 46 rfl) G q139) rfl (w64 (by omega) (by omega))).mono (fun τ _ h => cvi (σ := τ) (by first | omega | exact (Int.natCast_mul _ _).symm) h))) (gS rfl (fun A B G H I d0 => rP (y_move (ed d0 rfl rfl rfl))) (gE ok27 fun a29 s29 ok28 D11 => ?_))); have o105 := OwnP.k0 o104 D11.stp; have o106 := OwnM.k0 o103 D11.stp
    exact tn ⟨g3.length - ((a+1)), by omega, s29, (a+1), rfl, (F29.step0 D11.stp), ok28, (cvi (by (first | rfl | omega | (simp_all; done) | (simp_all; omega))) (D11.dn 1 rfl rfl)), (D11.kt q140 rfl), (D11.kt q141 rfl), (D11.kt q142 rfl), (D11.kt q143 rfl), (D11.kt q144 rfl), (cvm (by (rfl)) o106), o105, by omega, rfl⟩
   ·
    have ea : a = g3.length := (by omega)
    refine wp_exit (tx (tx (bx (tn (wp_seq (wp_seq ?_))))))
    refine gI a26 s25 ok25 (gM q116 (gM q117 (gT (Ty.agg [(Ty.lst Ty.int ra), (Ty.lst Ty.int rb)]) rfl (fun A B G H I d0 d1 => rP (y_arr2 Try.underlying101 Try.inf22 Try.inf101 (by simp [Value.cells]) one_sl one_sl (ed d0 rfl rfl rfl) (ed d1 rfl rfl rfl))) (gT (Ty.int (0 : Int)) rfl (fun A B G H I => rP (y_move rfl)) (gE ok25 fun a30 s30 ok29 D12 => ?_))))); have o107 := OwnM.k0 o97 D12.stp; have o108 := OwnP.k0 o98 D12.stp; refine tn (wp_block ?_)
    refine loop (fun n3 a31 w3 => ∃ (t5 : GW) (k : Nat), t5.w = w3 ∧ FromL [] σ t5 ∧ Ok 100 [] a31 ∧ At (Ty.nat k) t5 a31 (.tmp 62) ∧ At (Ty.val x5) t5 a31 (.tmp 8) ∧ At (Ty.agg [(Ty.lst Ty.int ra), (Ty.lst Ty.int rb)]) t5 a31 (.tmp 61) ∧ OwnP t5 5 x5 [(Ty.lst Ty.ints g3), (Ty.val x4), (cell0 (actL g3 ra g3.length) k), (cell1 (actL g3 rb g3.length) k)] ∧ OwnM Ty.int kI t5 6 x4 (plF g3 a) ∧ (k ≤ 2) ∧ n3 = 2 - k) (2 - (0)) ?_ ?_
    ·
     exact ⟨s30, 0, rfl, (F26.step0 D12.stp), ok29, (cvi (by (first | rfl | omega | (simp_all; done) | (simp_all; omega))) (D12.dn 3 rfl rfl)), (D12.kt q118 rfl), (D12.dn 2 rfl rfl), (ownp_cell 3 (cell1 (actL g3 rb g3.length) (0)) (ownp_cell 2 (cell0 (actL g3 ra g3.length) (0)) o108 rfl (fun _ _ h => (cvt (by (first | rfl | omega | (simp_all; done) | (simp_all; omega))) h))) rfl (fun _ _ h => (cvt (by (first | rfl | omega | (simp_all; done) | (simp_all; omega))) h))), o107, by omega, rfl⟩
    ·
     rintro n4 a32 w4 ⟨t6, k, rfl, F32, ok30, q155, q156, q157, o109, o110, hk, rfl⟩
     rcases (show k = 0 ∨ k = 1 ∨ k = 2 by omega) with rfl | rfl | rfl
     ·
      have o111 : OwnP t6 5 x5 [(Ty.lst Ty.ints g3), (Ty.val x4), (Ty.val (Value.slice none 0 0)), (Ty.val (Value.slice none 0 0))] := (ownp_cell 3 (Ty.val (Value.slice none 0 0)) (ownp_cell 2 (Ty.val (Value.slice none 0 0)) o109 rfl (fun _ _ h => (cvt (by (rfl)) h))) rfl (fun _ _ h => (cvt (by (rfl)) h)))
      refine wp_seq ?_
      refine gI a32 t6 ok30 (gS rfl (fun A B G H I => rP (y_lss (kp (I 62 rfl) G q155) rfl)) (gE ok30 fun a33 s31 ok31 D13 => ?_)); have q158 := D13.kt q155 rfl; have q160 := D13.kt q157 rfl; have o112 := OwnP.k0 o111 D13.stp; have o113 := OwnM.k0 o110 D13.stp; refine tn (wp_seq ?_)
      refine cond_p (p := ((((0) : Nat) : Int) < (2 : Int))) (D13.dn 0 rfl rfl) (fun c4 => ?_) (fun c4 => ?_)
      ·
       refine wp_skip (tn (wp_seq (wp_block (wp_seq ?_))))
       refine gI a33 s31 ok31 (gM q158 (gT (Ty.lst Ty.int ([ra, rb].getD (0) [])) rfl (fun A B G H I => rP (y_arri (f := (Ty.lst Ty.int)) (xs := [ra, rb]) (i := (0)) [] Try.underlying101 Try.underlying22 rfl Try.inf22 (kp (I 61 rfl) G q160) (kp (I 62 rfl) G q158) (by show (0) < 2; omega) rfl)) (gB 0 (gB 0 (gE ok31 fun a34 s32 ok32 D14 => ?_))))); have q163 := D14.kt (D13.kt q156 rfl) rfl; have o114 := OwnP.k0 o112 D14.stp; have o115 := OwnM.k0 o113 D14.stp; refine tn (wp_seq ?_)
       have q167 : At (Ty.lst Ty.int ra) s32 a34 (.tmp 12) := (D14.dn 3 rfl rfl)
       refine gI a34 s32 ok32 (gM q163 (gT (Ty.val x5) rfl (fun A B G H I d0 => rP (y_nilp (OwnP.k0 o114 G) (ed d0 rfl rfl rfl))) (gT (Ty.val (ptrAt x5 0)) rfl (fun A B G H I d0 => rP (ownp_field Try.fld103_0 Try.inf24 (by decide) (OwnP.k0 o114 G) (ed d0 rfl rfl rfl))) (gS rfl (fun A B G H I d0 => rP (ownp_load Try.underlying24 rfl (OwnP.k0 o114 G) (ed d0 rfl rfl rfl) rfl)) (gS rfl (fun A B G H I d0 => rP (y_len Try.underlying24 (ed d0 rfl rfl rfl))) (gT (Ty.int (0 : Int)) rfl (fun A B G H I => rP (y_move rfl)) (gE ok32 fun a35 s33 ok33 D15 => ?_))))))); have o116 := OwnP.k0 o114 D15.stp; have o117 := OwnM.k0 o115 D15.stp; have q173 := D15.dn 3 rfl rfl
       have b5 := sl_le q173
       refine tn (wp_block ?_)
       have o118 : Own s33 9 3 1 (Value.slice none 0 0) 0 (List.map Ty.int ([] : List Int)) := Own.nil _ _ _ _
       refine loop (fun n5 a36 w5 => ∃ (t7 : GW) (j : Nat) (xr : Value), t7.w = w5 ∧ FromL [] σ t7 ∧ Ok 100 [] a36 ∧ At (Ty.nat j) t7 a36 (.tmp 71) ∧ At (Ty.nat (0)) t7 a36 (.tmp 62) ∧ At (Ty.val x5) t7 a36 (.tmp 8) ∧ At (Ty.agg [(Ty.lst Ty.int ra), (Ty.lst Ty.int rb)]) t7 a36 (.tmp 61) ∧ At (Ty.nat (0)) t7 a36 (.tmp 11) ∧ At (Ty.lst Ty.int ra) t7 a36 (.tmp 12) ∧ At (Ty.lst Ty.ints g3) t7 a36 (.tmp 69) ∧ At (Ty.nat (List.length g3)) t7 a36 (.tmp 70) ∧ OwnP t7 5 x5 [(Ty.lst Ty.ints g3), (Ty.val x4), (Ty.val xr), (Ty.val (Value.slice none 0 0))] ∧ Own t7 9 3 1 xr (List.length (actL g3 ra j)) (List.map Ty.int (actL g3 ra j)) ∧ OwnM Ty.int kI t7 6 x4 (plF g3 a) ∧ (j ≤ g3.length) ∧ n5 = g3.length - j) (g3.length - (0)) ?_ ?_
       ·
        exact ⟨s33, 0, (Value.slice none 0 0), rfl, (((F32.step0 D13.stp).step0 D14.stp).step0 D15.stp), ok33, (cvi (by (first | rfl | omega | (simp_all; done) | (simp_all; omega))) (D15.dn 5 rfl rfl)), (D15.kt (D14.kt q158 rfl) rfl), (D15.kt q163 rfl), (D15.kt (D14.kt q160 rfl) rfl), (D15.kt (D14.dn 2 rfl rfl) rfl), (D15.kt q167 rfl), q173, (D15.dn 4 rfl rfl), o116, (cvo (by (first | rfl | simp [actL])) (by (first | rfl | simp [actL])) o118), o117, by omega, rfl⟩
       ·
        rintro n6 a37 w6 ⟨t8, j, xr, rfl, F36, ok34, q176, q177, q178, q179, q180, q181, q182, q183, o119, o120, o121, hj, rfl⟩
        refine wp_seq ?_
        refine gI a37 t8 ok34 (gS rfl (fun A B G H I => rP (y_lss (kp (I 71 rfl) G q176) (kp (I 70 rfl) G q183))) (gE ok34 fun a38 s34 ok35 D16 => ?_)); have F37 := F36.step0 D16.stp; have q184 := D16.kt q176 rfl; have q185 := D16.kt q177 rfl; have q186 := D16.kt q178 rfl; have q187 := D16.kt q179 rfl; have q188 := D16.kt q180 rfl; have q189 := D16.kt q181 rfl; have q190 := D16.kt q182 rfl; have q191 := D16.kt q183 rfl; have o122 := OwnP.k0 o119 D16.stp; have o123 := Own.k0 o120 D16.stp; have o124 := OwnM.k0 o121 D16.stp; have q192 := D16.dn 0 rfl rfl; refine tn (wp_seq ?_)
        refine cond_p (p := (((j : Nat) : Int) < (((List.length g3) : Nat) : Int))) q192 (fun c5 => ?_) (fun c5 => ?_)
        ·
         have hqr := hrE _ (mem_atD [] (show j < g3.length by omega)); have hcr : RowN ra.length ra := hra.row hn hG; have hb1 := hcr.bds hqr.len; have hrr := (hqr.by hcr).row; have hrl := (hqr.by hcr).len; have hcl := hcr.len; have hql := hqr.len; have hs1 : actL g3 ra j ++ [(plF g3 a ((rankL (byL (g3.getD j []) ra) : Nat) : Int)).getD 0] = actL g3 ra (j + 1) := (by rw [ea]; exact (actL_succ (by omega)).symm); have hal : (actL g3 ra j).length = j := actL_len (by omega)
         refine wp_skip (tn (wp_seq (wp_block (wp_seq ?_))))
         refine gI a38 s34 ok35 (gT (Ty.ref [(Ty.lst Ty.int (g3.getD j []))]) rfl (fun A B G H I => rP (y_index1 Try.underlying24 Try.inf22 (kp (I 69 rfl) G q190) (kp (I 71 rfl) G q184) (by omega) (lst_get Ty.ints g3 [] j (by omega)))) (gS rfl (fun A B G H I d0 => rP (y_load Try.underlying22 rfl (ed d0 rfl rfl rfl) rfl)) (gB 0 (gE ok35 fun a39 s35 ok36 D17 => ?_)))); have q195 := D17.kt q186 rfl; have q197 := D17.kt q188 rfl; have q198 := D17.kt q189 rfl; have o125 := OwnP.k0 o122 D17.stp; have o126 := Own.k0 o123 D17.stp; have o127 := OwnM.k0 o124 D17.stp; refine tn ?_
         refine reg3 (a := a39) (σ := s35) rfl 21 18 93 [9] (by decide) (Pr.own 9 3 1 ((List.length (actL g3 ra j)) + 1) ((List.map Ty.int (actL g3 ra j)) ++ [(Ty.int (((plF g3 a) (((rankL ((byL ((g3.getD j [])) (ra)))) : Nat) : Int)).getD 0))])) (fun i_ => List.getD [(Ty.val x5), (Ty.nat (0)), (Ty.val x5), (Ty.nat (0)), (Ty.val x5), (Ty.val (ptrAt x5 2)), (Ty.val (ptrAt x5 2)), (Ty.val xr), (Ty.val x5), (Ty.val x5), (Ty.val (ptrAt x5 1)), (Ty.val x4), (Ty.lst Ty.int (g3.getD j [])), (Ty.lst Ty.int ra), (Ty.lst Ty.int (byL ((g3.getD j [])) (ra))), (Ty.nat (rankL ((byL ((g3.getD j [])) (ra))))), (Ty.int (((plF g3 a) (((rankL ((byL ((g3.getD j [])) (ra)))) : Nat) : Int)).getD 0)), (Ty.sl 1 1 [(Ty.int (((plF g3 a) (((rankL ((byL ((g3.getD j [])) (ra)))) : Nat) : Int)).getD 0))]), Ty.any, (Ty.val x5), (Ty.val (ptrAt x5 2))] i_ Ty.any) ok36 rfl (by decide) rfl (by decide) rfl (fun _ _ => trivial) rfl ⟨?_, ?_, ?_, ?_, ?_, ?_, ?_, ?_, ?_, ?_, ?_, ?_, ?_, ?_, ?_, ?_, ?_, ?_, ?_, ?_, ?_, trivial⟩ ?_
         · refine obR3 (by decide) ?_
           intro A B G H I
           exact rP (y_move (kpL G (by decide) (I 8 rfl) q195))
         · refine obR3 (by decide) ?_
           intro A B G H I
           exact rP (y_move (kpL G (by decide) (I 11 rfl) q197))
         · refine obR3 (by decide) ?_
           intro A B G H I
           exact rP (y_move (kpL G (by decide) (I 8 rfl) q195))
         · refine obR3 (by decide) ?_
           intro A B G H I
           exact rP (y_move (kpL G (by decide) (I 11 rfl) q197))
         · refine obR3 (by decide) ?_
           intro A B G H I d0
           have e2 : At (Ty.val x5) B A (.tmp 77) := d0 rfl
           exact rP (y_nilp (OwnP.keepL o125 G (by decide) (by decide)) e2)
         · refine obR3 (by decide) ?_
           intro A B G H I d0
           have e4 : At (Ty.val x5) B A (.tmp 79) := d0 rfl
           exact rP (ownp_field Try.fld103_2 Try.inf101 (by decide) (OwnP.keepL o125 G (by decide) (by decide)) e4)
         · refine obR3 (by decide) ?_
           intro A B G H I d0 d1
           have e5 : At (Ty.val (ptrAt x5 2)) B A (.tmp 80) := d0 rfl
           have e3 : At (Ty.nat (0)) B A (.tmp 78) := d1 rfl
           exact rP (ownp_idxsub (m := 0) Try.underlying101 Try.inf22 (OwnP.keepL o125 G (by decide) (by decide)) e5 e3 (by decide))
         · refine obR3 (by decide) ?_
           intro A B G H I d0
           have e6 : At (Ty.val (ptrAt x5 2)) B A (.tmp 81) := d0 rfl
           exact rP (ownp_load Try.underlying22 rfl (OwnP.keepL o125 G (by decide) (by decide)) e6 rfl)
         · refine obR3 (by decide) ?_
           intro A B G H I
           exact rP (y_move (kpL G (by decide) (I 8 rfl) q195))
         · refine obR3 (by decide) ?_
           intro A B G H I d0
           have e8 : At (Ty.val x5) B A (.tmp 83) := d0 rfl
           exact rP (y_nilp (OwnP.keepL o125 G (by decide) (by decide)) e8)
         · refine obR3 (by decide) ?_
           intro A B G H I d0
           have e9 : At (Ty.val x5) B A (.tmp 84) := d0 rfl
           exact rP (ownp_field Try.fld103_1 Try.inf100 (by decide) (OwnP.keepL o125 G (by decide) (by decide)) e9)
         · refine obR3 (by decide) ?_
           intro A B G H I d0
           have e10 : At (Ty.val (ptrAt x5 1)) B A (.tmp 85) := d0 rfl
           exact rP (ownp_load Try.underlying100 rfl (OwnP.keepL o125 G (by decide) (by decide)) e10 rfl)
         · refine obR3 (by decide) ?_
           intro A B G H I
           exact rP (y_move (kpL G (by decide) (I 14 rfl) (D17.dn 2 rfl rfl)))
         · refine obR3 (by decide) ?_
           intro A B G H I
           exact rP (y_move (kpL G (by decide) (I 12 rfl) q198))
         · refine obR3 (by decide) ?_
           intro A B G H I d0 d1
           have e12 : At (Ty.lst Ty.int (g3.getD j [])) B A (.tmp 87) := d0 rfl
           have e13 : At (Ty.lst Ty.int ra) B A (.tmp 88) := d1 rfl
           exact rP (y_call _ Try.func64 rfl rfl my2 (product_fn ((g3.getD j [])) (ra) _ _ _ e12 e13 (by first | assumption | omega) (by first | assumption | omega) (by first | assumption | omega)))
         · refine obR3 (by decide) ?_
           intro A B G H I d0 d1
           have e14 : At (Ty.lst Ty.int (byL ((g3.getD j [])) (ra))) B A (.tmp 89) := d0 rfl
           exact rP (y_call _ Try.func94 rfl rfl my1 (rowPlace_fn ((byL ((g3.getD j [])) (ra))) _ _ e14 (by omega)))
         · refine obR3 (by decide) ?_
           intro A B G H I d0 d1
           have e11 : At (Ty.val x4) B A (.tmp 86) := d0 rfl
           have e15 : At (Ty.nat (rankL ((byL ((g3.getD j [])) (ra))))) B A (.tmp 90) := d1 rfl
           exact rP (y_lookup (i := (((rankL ((byL ((g3.getD j [])) (ra)))) : Nat) : Int)) (z := 0) Try.underlying100 (keyInt Try.underlying3) Try.inf3 (fun _ => rfl) (OwnM.keepL o127 G (by decide) (by decide)) e11 e15)
         · refine obR3 (by decide) ?_
           intro A B G H I d0
           have e16 : At (Ty.int (((plF g3 a) (((rankL ((byL ((g3.getD j [])) (ra)))) : Nat) : Int)).getD 0)) B A (.tmp 91) := d0 rfl
           exact rP (y_build1o Try.underlying22 Try.inf3 rfl (one_val rfl) e16)
         · refine obR3w rfl ?_
           intro A B G H I d0 d1 d2
           have e7 : At (Ty.val xr) B A (.tmp 82) := d0 rfl
           have e17 : At (Ty.sl 1 1 [(Ty.int (((plF g3 a) (((rankL ((byL ((g3.getD j [])) (ra)))) : Nat) : Int)).getD 0))]) B A (.tmp 92) := d1 rfl
           exact YldM.toL (m_append Try.underlying22 Try.inf3 (by decide) rfl (by decide) (al (R := (Pr.own 9 3 1 (List.length (actL g3 ra j)) (List.map Ty.int (actL g3 ra j)))) e7 (Own.k0 o126 G)) e17 (by intro U hU; simp at hU; subst hU; exact one_val rfl) (by omega) (by omega))
         · refine obR3 (by decide) ?_
           intro A B G H I d0
           have e0 : At (Ty.val x5) B A (.tmp 75) := d0 rfl
           exact rP (y_nilp (OwnP.keepL o125 G (by decide) (by decide)) e0)
         · refine obR3 (by decide) ?_
           intro A B G H I d0
           have e19 : At (Ty.val x5) B A (.tmp 94) := d0 rfl
           exact rP (ownp_field Try.fld103_2 Try.inf101 (by decide) (OwnP.keepL o125 G (by decide) (by decide)) e19)
         intro a40 s36 D18; have ok37 := D18.ok; have F39 := (F37.step0 D17.stp).stepL D18.stp (by decide)
         have q202 : At (Ty.nat j) s36 a40 (.tmp 71) := D18.kt (by decide) (D17.kt q184 rfl) rfl
         have q203 : At (Ty.nat (0)) s36 a40 (.tmp 62) := D18.kt (by decide) (D17.kt q185 rfl) rfl
         have q204 : At (Ty.val x5) s36 a40 (.tmp 8) := D18.kt (by decide) q195 rfl
         have q205 : At (Ty.agg [(Ty.lst Ty.int ra), (Ty.lst Ty.int rb)]) s36 a40 (.tmp 61) := D18.kt (by decide) (D17.kt q187 rfl) rfl
         have q206 : At (Ty.nat (0)) s36 a40 (.tmp 11) := D18.kt (by decide) q197 rfl
         have q207 : At (Ty.lst Ty.int ra) s36 a40 (.tmp 12) := D18.kt (by decide) q198 rfl
         have q208 : At (Ty.lst Ty.ints g3) s36 a40 (.tmp 69) := D18.kt (by decide) (D17.kt q190 rfl) rfl
         have q209 : At (Ty.nat (List.length g3)) s36 a40 (.tmp 70) := D18.kt (by decide) (D17.kt q191 rfl) rfl
         have o129 := OwnP.keepL o125 D18.stp (by decide) (by decide); have o130 := OwnM.keepL o127 D18.stp (by decide) (by decide)
         have q210 : At (Ty.nat (0)) s36 a40 (.tmp 76) := D18.done 1 (by decide)
         have q211 : At (Ty.val (ptrAt x5 2)) s36 a40 (.tmp 95) := D18.done 20 (by decide)
         obtain ⟨x6, hx3⟩ : ∃ x, a40.eval (.tmp 93) = x := ⟨_, rfl⟩
         have q212 : At (Ty.val x6) s36 a40 (.tmp 93) := hx3
         have o128 := al2 (R := (Pr.own 9 3 1 (List.length ((actL g3 ra j) ++ [(((plF g3 a) (((rankL ((byL ((g3.getD j [])) (ra)))) : Nat) : Int)).getD 0)])) (List.map Ty.int ((actL g3 ra j) ++ [(((plF g3 a) (((rankL ((byL ((g3.getD j [])) (ra)))) : Nat) : Int)).getD 0)])))) hx3 (cvo (by simp) (by first | (rw [List.map_append]; rfl) | simp) D18.donep)
         refine tL (R := (fun v τ => Pr.has (Ty.pr (Ty.val (ptrAt x5 2))) τ v)) ok37 (Yld.toL (ownp_idxsub (m := 0) Try.underlying101 Try.inf22 o129 q211 q210 (by decide))) fun a41 s37 hs19 ok38 r19 sm17 => ?_
         have F40 := F39.stepL hs19 (by decide); have q213 := kpL hs19 (by decide) (sm17 71 (by decide)) q202; have q214 := kpL hs19 (by decide) (sm17 62 (by decide)) q203; have q215 := kpL hs19 (by decide) (sm17 8 (by decide)) q204; have q216 := kpL hs19 (by decide) (sm17 61 (by decide)) q205; have q217 := kpL hs19 (by decide) (sm17 11 (by decide)) q206; have q218 := kpL hs19 (by decide) (sm17 12 (by decide)) q207; have q219 := kpL hs19 (by decide) (sm17 69 (by decide)) q208; have q220 := kpL hs19 (by decide) (sm17 70 (by decide)) q209; have q221 := kpL hs19 (by decide) (sm17 93 (by decide)) q212; have o131 := OwnP.keepL o129 hs19 (by decide) (by decide); have o132 := OwnM.keepL o130 hs19 (by decide) (by decide); have o133 := Own.keepL o128 hs19 (by decide) (by decide)
         have q222 : At (Ty.val (ptrAt x5 2)) s37 a41 (.tmp 96) := r19
         clear r19
         refine tailL0 (L := [5]) (R := (fun _ τ => OwnP τ 5 x5 ([(Ty.lst Ty.ints g3), (Ty.val x4), (Ty.val xr), (Ty.val (Value.slice none 0 0))].set 2 (Ty.val x6)))) rfl rfl (YldM.toL (m_storep Try.inf22 (by decide) o131 q222 (Nat.le_of_ble_eq_true rfl) q221 (one_val (Own.one o133)))) (fun v3 s38 hs20 r20 => ?_)
         have F41 := F40.stepL hs20 (by decide); have q223 := kpL hs20 (by decide) rfl q213; have q224 := kpL hs20 (by decide) rfl q214; have q225 := kpL hs20 (by decide) rfl q215; have q226 := kpL hs20 (by decide) rfl q216; have q227 := kpL hs20 (by decide) rfl q217; have q228 := kpL hs20 (by decide) rfl q218; have q229 := kpL hs20 (by decide) rfl q219; have q230 := kpL hs20 (by decide) rfl q220; have o135 := OwnM.keepL o132 hs20 (by decide) (by decide); have o136 := Own.keepL o133 hs20 (by decide) (by decide)
         have o134 : OwnP s38 5 x5 [(Ty.lst Ty.ints g3), (Ty.val x4), (Ty.val x6), (Ty.val (Value.slice none 0 0))] := r20
         clear r20; refine wpList_nil (bn (tn ?_))
         refine gI a41 s38 ok38 (gT (Ty.nat (j + 1)) rfl (fun A B G H I => rP ((y_add (kp (I 71 rfl) G q223) rfl (w64 (by omega) (by omega))).mono (fun τ _ h => cvi (σ := τ) (by first | omega | exact (Int.natCast_mul _ _).symm) h))) (gS rfl (fun A B G H I d0 => rP (y_move (ed d0 rfl rfl rfl))) (gE ok38 fun a42 s39 ok39 D19 => ?_))); have o137 := OwnM.k0 o135 D19.stp; have o138 := Own.k0 o136 D19.stp; have o139 := OwnP.k0 o134 D19.stp
         exact tn ⟨g3.length - ((j+1)), by omega, s39, (j+1), x6, rfl, (F41.step0 D19.stp), ok39, (cvi (by (first | rfl | omega | (simp_all; done) | (simp_all; omega))) (D19.dn 1 rfl rfl)), (D19.kt q224 rfl), (D19.kt q225 rfl), (D19.kt q226 rfl), (D19.kt q227 rfl), (D19.kt q228 rfl), (D19.kt q229 rfl), (D19.kt q230 rfl), o139, (cvo (by (first | rfl | (rw [hs1]; done) | (rw [← hs1]; simp; done))) (by (first | rfl | (rw [hs1]; done) | (rw [← hs1]; simp; done))) o138), o137, by omega, rfl⟩
        ·
         have ej : j = g3.length := (by omega)
         refine wp_exit (tx (tx (bx (bn (tn ?_)))))
         obtain ⟨t9, e1, h1, q240⟩ := Own.seal o123 (by decide)
         rw [← e1]
         have F43 := F37.step h1 (by decide); have o140 := OwnP.keepL o122 (h1.toL (L := [9]) (by simp)) (by decide) (by decide); have o141 := OwnM.keepL o124 (h1.toL (L := [9]) (by simp)) (by decide) (by decide); have q241 := Ty.up (Ty.nat j) (h1.le (by decide)) q184; have q242 := Ty.up (Ty.nat (0)) (h1.le (by decide)) q185; have q243 := Ty.up (Ty.val x5) (h1.le (by decide)) q186; have q244 := Ty.up (Ty.agg [(Ty.lst Ty.int ra), (Ty.lst Ty.int rb)]) (h1.le (by decide)) q187; have q245 := Ty.up (Ty.nat (0)) (h1.le (by decide)) q188; have q246 := Ty.up (Ty.lst Ty.int ra) (h1.le (by decide)) q189; have q247 := Ty.up (Ty.lst Ty.ints g3) (h1.le (by decide)) q190; have q248 := Ty.up (Ty.nat (List.length g3)) (h1.le (by decide)) q191; have q249 := Ty.up (Ty.bool (decide (((j : Nat) : Int) < (((List.length g3) : Nat) : Int)))) (h1.le (by decide)) q192
         have o142 := ownp_cellq 2 (Ty.lst Ty.int (actL g3 ra j)) o140 rfl q240
         refine gI a38 t9 ok35 (gT (Ty.nat ((0) + 1)) rfl (fun A B G H I => rP ((y_add (kp (I 62 rfl) G q242) rfl (w64 (by omega) (by omega))).mono (fun τ _ h => cvi (σ := τ) (by first | omega | exact (Int.natCast_mul _ _).symm) h))) (gS rfl (fun A B G H I d0 => rP (y_move (ed d0 rfl rfl rfl))) (gE ok35 fun a43 s40 ok40 D20 => ?_))); have o143 := OwnP.k0 o142 D20.stp; have o144 := OwnM.k0 o141 D20.stp
         exact tn ⟨2 - (1), by omega, s40, 1, rfl, (F43.step0 D20.stp), ok40, (cvi (by (first | rfl | omega | (simp_all; done) | (simp_all; omega))) (D20.dn 1 rfl rfl)), (D20.kt q243 rfl), (D20.kt q244 rfl), (ownp_cell 3 (cell1 (actL g3 rb g3.length) (1)) (ownp_cell 2 (cell0 (actL g3 ra g3.length) (1)) o143 rfl (fun _ _ h => (cvt (by (first | rfl | (rw [ej]; rfl))) h))) rfl (fun _ _ h => (cvt (by (first | rfl | (rw [ej]; rfl))) h))), o144, by omega, rfl⟩
      ·
       exfalso
       omega
     ·
      have o145 : OwnP t6 5 x5 [(Ty.lst Ty.ints g3), (Ty.val x4), (Ty.lst Ty.int (actL g3 ra g3.length)), (Ty.val (Value.slice none 0 0))] := (ownp_cell 3 (Ty.val (Value.slice none 0 0)) (ownp_cell 2 (Ty.lst Ty.int (actL g3 ra g3.length)) o109 rfl (fun _ _ h => (cvt (by (rfl)) h))) rfl (fun _ _ h => (cvt (by (rfl)) h)))
      refine wp_seq ?_
      refine gI a32 t6 ok30 (gS rfl (fun A B G H I => rP (y_lss (kp (I 62 rfl) G q155) rfl)) (gE ok30 fun a44 s41 ok41 D21 => ?_)); have q253 := D21.kt q155 rfl; have q255 := D21.kt q157 rfl; have o146 := OwnP.k0 o145 D21.stp; have o147 := OwnM.k0 o110 D21.stp; refine tn (wp_seq ?_)
      refine cond_p (p := ((((1) : Nat) : Int) < (2 : Int))) (D21.dn 0 rfl rfl) (fun c6 => ?_) (fun c6 => ?_)
      ·
       refine wp_skip (tn (wp_seq (wp_block (wp_seq ?_))))
       refine gI a44 s41 ok41 (gM q253 (gT (Ty.lst Ty.int ([ra, rb].getD (1) [])) rfl (fun A B G H I => rP (y_arri (f := (Ty.lst Ty.int)) (xs := [ra, rb]) (i := (1)) [] Try.underlying101 Try.underlying22 rfl Try.inf22 (kp (I 61 rfl) G q255) (kp (I 62 rfl) G q253) (by show (1) < 2; omega) rfl)) (gB 0 (gB 0 (gE ok41 fun a45 s42 ok42 D22 => ?_))))); have q258 := D22.kt (D21.kt q156 rfl) rfl; have o148 := OwnP.k0 o146 D22.stp; have o149 := OwnM.k0 o147 D22.stp; refine tn (wp_seq ?_)
       have q262 : At (Ty.lst Ty.int rb) s42 a45 (.tmp 12) := (D22.dn 3 rfl rfl)
       refine gI a45 s42 ok42 (gM q258 (gT (Ty.val x5) rfl (fun A B G H I d0 => rP (y_nilp (OwnP.k0 o148 G) (ed d0 rfl rfl rfl))) (gT (Ty.val (ptrAt x5 0)) rfl (fun A B G H I d0 => rP (ownp_field Try.fld103_0 Try.inf24 (by decide) (OwnP.k0 o148 G) (ed d0 rfl rfl rfl))) (gS rfl (fun A B G H I d0 => rP (ownp_load Try.underlying24 rfl (OwnP.k0 o148 G) (ed d0 rfl rfl rfl) rfl)) (gS rfl (fun A B G H I d0 => rP (y_len Try.underlying24 (ed d0 rfl rfl rfl))) (gT (Ty.int (0 : Int)) rfl (fun A B G H I => rP (y_move rfl)) (gE ok42 fun a46 s43 ok43 D23 => ?_))))))); have o150 := OwnP.k0 o148 D23.stp; have o151 := OwnM.k0 o149 D23.stp; have q268 := D23.dn 3 rfl rfl
       have b6 := sl_le q268
       refine tn (wp_block ?_)
       have o152 : Own s43 10 3 1 (Value.slice none 0 0) 0 (List.map Ty.int ([] : List Int)) := Own.nil _ _ _ _
       refine loop (fun n7 a47 w7 => ∃ (t10 : GW) (j : Nat) (xr : Value), t10.w = w7 ∧ FromL [] σ t10 ∧ Ok 100 [] a47 ∧ At (Ty.nat j) t10 a47 (.tmp 71) ∧ At (Ty.nat (1)) t10 a47 (.tmp 62) ∧ At (Ty.val x5) t10 a47 (.tmp 8) ∧ At (Ty.agg [(Ty.lst Ty.int ra), (Ty.lst Ty.int rb)]) t10 a47 (.tmp 61) ∧ At (Ty.nat (1)) t10 a47 (.tmp 11) ∧ At (Ty.lst Ty.int rb) t10 a47 (.tmp 12) ∧ At (Ty.lst Ty.ints g3) t10 a47 (.tmp 69) ∧ At (Ty.nat (List.length g3)) t10 a47 (.tmp 70) ∧ OwnP t10 5 x5 [(Ty.lst Ty.ints g3), (Ty.val x4), (Ty.lst Ty.int (actL g3 ra g3.length)), (Ty.val xr)] ∧ Own t10 10 3 1 xr (List.length (actL g3 rb j)) (List.map Ty.int (actL g3 rb j)) ∧ OwnM Ty.int kI t10 6 x4 (plF g3 a) ∧ (j ≤ g3.length) ∧ n7 = g3.length - j) (g3.length - (0)) ?_ ?_
       ·
        exact ⟨s43, 0, (Value.slice none 0 0), rfl, (((F32.step0 D21.stp).step0 D22.stp).step0 D23.stp), ok43, (cvi (by (first | rfl | omega | (simp_all; done) | (simp_all; omega))) (D23.dn 5 rfl rfl)), (D23.kt (D22.kt q253 rfl) rfl), (D23.kt q258 rfl), (D23.kt (D22.kt q255 rfl) rfl), (D23.kt (D22.dn 2 rfl rfl) rfl), (D23.kt q262 rfl), q268, (D23.dn 4 rfl rfl), o150, (cvo (by (first | rfl | simp [actL])) (by (first | rfl | simp [actL])) o152), o151, by omega, rfl⟩
       ·
        rintro n8 a48 w8 ⟨t11, j, xr, rfl, F48, ok44, q271, q272, q273, q274, q275, q276, q277, q278, o153, o154, o155, hj, rfl⟩
        refine wp_seq ?_
        refine gI a48 t11 ok44 (gS rfl (fun A B G H I => rP (y_lss (kp (I 71 rfl) G q271) (kp (I 70 rfl) G q278))) (gE ok44 fun a49 s44 ok45 D24 => ?_)); have F49 := F48.step0 D24.stp; have q279 := D24.kt q271 rfl; have q280 := D24.kt q272 rfl; have q281 := D24.kt q273 rfl; have q282 := D24.kt q274 rfl; have q283 := D24.kt q275 rfl; have q284 := D24.kt q276 rfl; have q285 := D24.kt q277 rfl; have q286 := D24.kt q278 rfl; have o156 := OwnP.k0 o153 D24.stp; have o157 := Own.k0 o154 D24.stp; have o158 := OwnM.k0 o155 D24.stp; have q287 := D24.dn 0 rfl rfl; refine tn (wp_seq ?_)
        refine cond_p (p := (((j : Nat) : Int) < (((List.length g3) : Nat) : Int))) q287 (fun c7 => ?_) (fun c7 => ?_)
        ·
         have hqr := hrE _ (mem_atD [] (show j < g3.length by omega)); have hcr : RowN ra.length rb := hrb.row hn hG; have hb1 := hcr.bds hqr.len; have hrr := (hqr.by hcr).row; have hrl := (hqr.by hcr).len; have hcl := hcr.len; have hql := hqr.len; have hs1 : actL g3 rb j ++ [(plF g3 a ((rankL (byL (g3.getD j []) rb) : Nat) : Int)).getD 0] = actL g3 rb (j + 1) := (by rw [ea]; exact (actL_succ (by omega)).symm); have hal : (actL g3 rb j).length = j := actL_len (by omega)
         refine wp_skip (tn (wp_seq (wp_block (wp_seq ?_))))
         refine gI a49 s44 ok45 (gT (Ty.ref [(Ty.lst Ty.int (g3.getD j []))]) rfl (fun A B G H I => rP (y_index1 Try.underlying24 Try.inf22 (kp (I 69 rfl) G q285) (kp (I 71 rfl) G q279) (by omega) (lst_get Ty.ints g3 [] j (by omega)))) (gS rfl (fun A B G H I d0 => rP (y_load Try.underlying22 rfl (ed d0 rfl rfl rfl) rfl)) (gB 0 (gE ok45 fun a50 s45 ok46 D25 => ?_)))); have q290 := D25.kt q281 rfl; have q292 := D25.kt q283 rfl; have q293 := D25.kt q284 rfl; have o159 := OwnP.k0 o156 D25.stp; have o160 := Own.k0 o157 D25.stp; have o161 := OwnM.k0 o158 D25.stp; refine tn ?_
         refine reg3 (a := a50) (σ := s45) rfl 21 18 93 [10] (by decide) (Pr.own 10 3 1 ((List.length (actL g3 rb j)) + 1) ((List.map Ty.int (actL g3 rb j)) ++ [(Ty.int (((plF g3 a) (((rankL ((byL ((g3.getD j [])) (rb)))) : Nat) : Int)).getD 0))])) (fun i_ => List.getD [(Ty.val x5), (Ty.nat (1)), (Ty.val x5), (Ty.nat (1)), (Ty.val x5), (Ty.val (ptrAt x5 2)), (Ty.val (ptrAt x5 3)), (Ty.val xr), (Ty.val x5), (Ty.val x5), (Ty.val (ptrAt x5 1)), (Ty.val x4), (Ty.lst Ty.int (g3.getD j [])), (Ty.lst Ty.int rb), (Ty.lst Ty.int (byL ((g3.getD j [])) (rb))), (Ty.nat (rankL ((byL ((g3.getD j [])) (rb))))), (Ty.int (((plF g3 a) (((rankL ((byL ((g3.getD j [])) (rb)))) : Nat) : Int)).getD 0)), (Ty.sl 1 1 [(Ty.int (((plF g3 a) (((rankL ((byL ((g3.getD j [])) (rb)))) : Nat) : Int)).getD 0))]), Ty.any, (Ty.val x5), (Ty.val (ptrAt x5 2))] i_ Ty.any) ok46 rfl (by decide) rfl (by decide) rfl (fun _ _ => trivial) rfl ⟨?_, ?_, ?_, ?_, ?_, ?_, ?_, ?_, ?_, ?_, ?_, ?_, ?_, ?_, ?_, ?_, ?_, ?_, ?_, ?_, ?_, trivial⟩ ?_
         · refine obR3 (by decide) ?_
           intro A B G H I
           exact rP (y_move (kpL G (by decide) (I 8 rfl) q290))
         · refine obR3 (by decide) ?_
           intro A B G H I
           exact rP (y_move (kpL G (by decide) (I 11 rfl) q292))
         · refine obR3 (by decide) ?_
           intro A B G H I
           exact rP (y_move (kpL G (by decide) (I 8 rfl) q290))
         · refine obR3 (by decide) ?_
           intro A B G H I
           exact rP (y_move (kpL G (by decide) (I 11 rfl) q292))
         · refine obR3 (by decide) ?_
           intro A B G H I d0
           have e2 : At (Ty.val x5) B A (.tmp 77) := d0 rfl
           exact rP (y_nilp (OwnP.keepL o159 G (by decide) (by decide)) e2)
         · refine obR3 (by decide) ?_
           intro A B G H I d0
           have e4 : At (Ty.val x5) B A (.tmp 79) := d0 rfl
           exact rP (ownp_field Try.fld103_2 Try.inf101 (by decide) (OwnP.keepL o159 G (by decide) (by decide)) e4)
         · refine obR3 (by decide) ?_
           intro A B G H I d0 d1
           have e5 : At (Ty.val (ptrAt x5 2)) B A (.tmp 80) := d0 rfl
           have e3 : At (Ty.nat (1)) B A (.tmp 78) := d1 rfl
           exact rP (ownp_idxsub (m := 1) Try.underlying101 Try.inf22 (OwnP.keepL o159 G (by decide) (by decide)) e5 e3 (by decide))
         · refine obR3 (by decide) ?_
           intro A B G H I d0
           have e6 : At (Ty.val (ptrAt x5 3)) B A (.tmp 81) := d0 rfl
           exact rP (ownp_load Try.underlying22 rfl (OwnP.keepL o159 G (by decide) (by decide)) e6 rfl)
         · refine obR3 (by decide) ?_
           intro A B G H I
           exact rP (y_move (kpL G (by decide) (I 8 rfl) q290))
         · refine obR3 (by decide) ?_
           intro A B G H I d0
           have e8 : At (Ty.val x5) B A (.tmp 83) := d0 rfl
           exact rP (y_nilp (OwnP.keepL o159 G (by decide) (by decide)) e8)
         · refine obR3 (by decide) ?_
           intro A B G H I d0
           have e9 : At (Ty.val x5) B A (.tmp 84) := d0 rfl
           exact rP (ownp_field Try.fld103_1 Try.inf100 (by decide) (OwnP.keepL o159 G (by decide) (by decide)) e9)
         · refine obR3 (by decide) ?_
           intro A B G H I d0
           have e10 : At (Ty.val (ptrAt x5 1)) B A (.tmp 85) := d0 rfl
           exact rP (ownp_load Try.underlying100 rfl (OwnP.keepL o159 G (by decide) (by decide)) e10 rfl)
         · refine obR3 (by decide) ?_
           intro A B G H I
           exact rP (y_move (kpL G (by decide) (I 14 rfl) (D25.dn 2 rfl rfl)))
         · refine obR3 (by decide) ?_
           intro A B G H I
           exact rP (y_move (kpL G (by decide) (I 12 rfl) q293))
         · refine obR3 (by decide) ?_
           intro A B G H I d0 d1
           have e12 : At (Ty.lst Ty.int (g3.getD j [])) B A (.tmp 87) := d0 rfl
           have e13 : At (Ty.lst Ty.int rb) B A (.tmp 88) := d1 rfl
           exact rP (y_call _ Try.func64 rfl rfl my2 (product_fn ((g3.getD j [])) (rb) _ _ _ e12 e13 (by first | assumption | omega) (by first | assumption | omega) (by first | assumption | omega)))
         · refine obR3 (by decide) ?_
           intro A B G H I d0 d1
           have e14 : At (Ty.lst Ty.int (byL ((g3.getD j [])) (rb))) B A (.tmp 89) := d0 rfl
           exact rP (y_call _ Try.func94 rfl rfl my1 (rowPlace_fn ((byL ((g3.getD j [])) (rb))) _ _ e14 (by omega)))
         · refine obR3 (by decide) ?_
           intro A B G H I d0 d1
           have e11 : At (Ty.val x4) B A (.tmp 86) := d0 rfl
           have e15 : At (Ty.nat (rankL ((byL ((g3.getD j [])) (rb))))) B A (.tmp 90) := d1 rfl
           exact rP (y_lookup (i := (((rankL ((byL ((g3.getD j [])) (rb)))) : Nat) : Int)) (z := 0) Try.underlying100 (keyInt Try.underlying3) Try.inf3 (fun _ => rfl) (OwnM.keepL o161 G (by decide) (by decide)) e11 e15)
         · refine obR3 (by decide) ?_
           intro A B G H I d0
           have e16 : At (Ty.int (((plF g3 a) (((rankL ((byL ((g3.getD j [])) (rb)))) : Nat) : Int)).getD 0)) B A (.tmp 91) := d0 rfl
           exact rP (y_build1o Try.underlying22 Try.inf3 rfl (one_val rfl) e16)
         · refine obR3w rfl ?_
           intro A B G H I d0 d1 d2
           have e7 : At (Ty.val xr) B A (.tmp 82) := d0 rfl
           have e17 : At (Ty.sl 1 1 [(Ty.int (((plF g3 a) (((rankL ((byL ((g3.getD j [])) (rb)))) : Nat) : Int)).getD 0))]) B A (.tmp 92) := d1 rfl
           exact YldM.toL (m_append Try.underlying22 Try.inf3 (by decide) rfl (by decide) (al (R := (Pr.own 10 3 1 (List.length (actL g3 rb j)) (List.map Ty.int (actL g3 rb j)))) e7 (Own.k0 o160 G)) e17 (by intro U hU; simp at hU; subst hU; exact one_val rfl) (by omega) (by omega))
         · refine obR3 (by decide) ?_
           intro A B G H I d0
           have e0 : At (Ty.val x5) B A (.tmp 75) := d0 rfl
           exact rP (y_nilp (OwnP.keepL o159 G (by decide) (by decide)) e0)
         · refine obR3 (by decide) ?_
           intro A B G H I d0
           have e19 : At (Ty.val x5) B A (.tmp 94) := d0 rfl
           exact rP (ownp_field Try.fld103_2 Try.inf101 (by decide) (OwnP.keepL o159 G (by decide) (by decide)) e19)
         intro a51 s46 D26; have ok47 := D26.ok; have F51 := (F49.step0 D25.stp).stepL D26.stp (by decide)
         have q297 : At (Ty.nat j) s46 a51 (.tmp 71) := D26.kt (by decide) (D25.kt q279 rfl) rfl
         have q298 : At (Ty.nat (1)) s46 a51 (.tmp 62) := D26.kt (by decide) (D25.kt q280 rfl) rfl
         have q299 : At (Ty.val x5) s46 a51 (.tmp 8) := D26.kt (by decide) q290 rfl
         have q300 : At (Ty.agg [(Ty.lst Ty.int ra), (Ty.lst Ty.int rb)]) s46 a51 (.tmp 61) := D26.kt (by decide) (D25.kt q282 rfl) rfl
         have q301 : At (Ty.nat (1)) s46 a51 (.tmp 11) := D26.kt (by decide) q292 rfl
         have q302 : At (Ty.lst Ty.int rb) s46 a51 (.tmp 12) := D26.kt (by decide) q293 rfl
         have q303 : At (Ty.lst Ty.ints g3) s46 a51 (.tmp 69) := D26.kt (by decide) (D25.kt q285 rfl) rfl
         have q304 : At (Ty.nat (List.length g3)) s46 a51 (.tmp 70) := D26.kt (by decide) (D25.kt q286 rfl) rfl
         have o163 := OwnP.keepL o159 D26.stp (by decide) (by decide); have o164 := OwnM.keepL o161 D26.stp (by decide) (by decide)
         have q305 : At (Ty.nat (1)) s46 a51 (.tmp 76) := D26.done 1 (by decide)
         have q306 : At (Ty.val (ptrAt x5 2)) s46 a51 (.tmp 95) := D26.done 20 (by decide)
         obtain ⟨x7, hx4⟩ : ∃ x, a51.eval (.tmp 93) = x := ⟨_, rfl⟩
         have q307 : At (Ty.val x7) s46 a51 (.tmp 93) := hx4
         have o162 := al2 (R := (Pr.own 10 3 1 (List.length ((actL g3 rb j) ++ [(((plF g3 a) (((rankL ((byL ((g3.getD j [])) (rb)))) : Nat) : Int)).getD 0)])) (List.map Ty.int ((actL g3 rb j) ++ [(((plF g3 a) (((rankL ((byL ((g3.getD j [])) (rb)))) : Nat) : Int)).getD 0)])))) hx4 (cvo (by simp) (by first | (rw [List.map_append]; rfl) | simp) D26.donep)
         refine tL (R := (fun v τ => Pr.has (Ty.pr (Ty.val (ptrAt x5 3))) τ v)) ok47 (Yld.toL (ownp_idxsub (m := 1) Try.underlying101 Try.inf22 o163 q306 q305 (by decide))) fun a52 s47 hs21 ok48 r21 sm18 => ?_
         have F52 := F51.stepL hs21 (by decide); have q308 := kpL hs21 (by decide) (sm18 71 (by decide)) q297; have q309 := kpL hs21 (by decide) (sm18 62 (by decide)) q298; have q310 := kpL hs21 (by decide) (sm18 8 (by decide)) q299; have q311 := kpL hs21 (by decide) (sm18 61 (by decide)) q300; have q312 := kpL hs21 (by decide) (sm18 11 (by decide)) q301; have q313 := kpL hs21 (by decide) (sm18 12 (by decide)) q302; have q314 := kpL hs21 (by decide) (sm18 69 (by decide)) q303; have q315 := kpL hs21 (by decide) (sm18 70 (by decide)) q304; have q316 := kpL hs21 (by decide) (sm18 93 (by decide)) q307; have o165 := OwnP.keepL o163 hs21 (by decide) (by decide); have o166 := OwnM.keepL o164 hs21 (by decide) (by decide); have o167 := Own.keepL o162 hs21 (by decide) (by decide)
         have q317 : At (Ty.val (ptrAt x5 3)) s47 a52 (.tmp 96) := r21
         clear r21
         refine tailL0 (L := [5]) (R := (fun _ τ => OwnP τ 5 x5 ([(Ty.lst Ty.ints g3), (Ty.val x4), (Ty.lst Ty.int (actL g3 ra g3.length)), (Ty.val xr)].set 3 (Ty.val x7)))) rfl rfl (YldM.toL (m_storep Try.inf22 (by decide) o165 q317 (Nat.le_of_ble_eq_true rfl) q316 (one_val (Own.one o167)))) (fun v4 s48 hs22 r22 => ?_)
         have F53 := F52.stepL hs22 (by decide); have q318 := kpL hs22 (by decide) rfl q308; have q319 := kpL hs22 (by decide) rfl q309; have q320 := kpL hs22 (by decide) rfl q310; have q321 := kpL hs22 (by decide) rfl q311; have q322 := kpL hs22 (by decide) rfl q312; have q323 := kpL hs22 (by decide) rfl q313; have q324 := kpL hs22 (by decide) rfl q314; have q325 := kpL hs22 (by decide) rfl q315; have o169 := OwnM.keepL o166 hs22 (by decide) (by decide); have o170 := Own.keepL o167 hs22 (by decide) (by decide)
         have o168 : OwnP s48 5 x5 [(Ty.lst Ty.ints g3), (Ty.val x4), (Ty.lst Ty.int (actL g3 ra g3.length)), (Ty.val x7)] := r22
         clear r22; refine wpList_nil (bn (tn ?_))
         refine gI a52 s48 ok48 (gT (Ty.nat (j + 1)) rfl (fun A B G H I => rP ((y_add (kp (I 71 rfl) G q318) rfl (w64 (by omega) (by omega))).mono (fun τ _ h => cvi (σ := τ) (by first | omega | exact (Int.natCast_mul _ _).symm) h))) (gS rfl (fun A B G H I d0 => rP (y_move (ed d0 rfl rfl rfl))) (gE ok48 fun a53 s49 ok49 D27 => ?_))); have o171 := OwnM.k0 o169 D27.stp; have o172 := Own.k0 o170 D27.stp; have o173 := OwnP.k0 o168 D27.stp
         exact tn ⟨g3.length - ((j+1)), by omega, s49, (j+1), x7, rfl, (F53.step0 D27.stp), ok49, (cvi (by (first | rfl | omega | (simp_all; done) | (simp_all; omega))) (D27.dn 1 rfl rfl)), (D27.kt q319 rfl), (D27.kt q320 rfl), (D27.kt q321 rfl), (D27.kt q322 rfl), (D27.kt q323 rfl), (D27.kt q324 rfl), (D27.kt q325 rfl), o173, (cvo (by (first | rfl | (rw [hs1]; done) | (rw [← hs1]; simp; done))) (by (first | rfl | (rw [hs1]; done) | (rw [← hs1]; simp; done))) o172), o171, by omega, rfl⟩
        ·
         have ej : j = g3.length := (by omega)
         refine wp_exit (tx (tx (bx (bn (tn ?_)))))
         obtain ⟨t12, e2, h2, q335⟩ := Own.seal o157 (by decide)
         rw [← e2]
         have F55 := F49.step h2 (by decide); have o174 := OwnP.keepL o156 (h2.toL (L := [10]) (by simp)) (by decide) (by decide); have o175 := OwnM.keepL o158 (h2.toL (L := [10]) (by simp)) (by decide) (by decide); have q336 := Ty.up (Ty.nat j) (h2.le (by decide)) q279; have q337 := Ty.up (Ty.nat (1)) (h2.le (by decide)) q280; have q338 := Ty.up (Ty.val x5) (h2.le (by decide)) q281; have q339 := Ty.up (Ty.agg [(Ty.lst Ty.int ra), (Ty.lst Ty.int rb)]) (h2.le (by decide)) q282; have q340 := Ty.up (Ty.nat (1)) (h2.le (by decide)) q283; have q341 := Ty.up (Ty.lst Ty.int rb) (h2.le (by decide)) q284; have q342 := Ty.up (Ty.lst Ty.ints g3) (h2.le (by decide)) q285; have q343 := Ty.up (Ty.nat (List.length g3)) (h2.le (by decide)) q286; have q344 := Ty.up (Ty.bool (decide (((j : Nat) : Int) < (((List.length g3) : Nat) : Int)))) (h2.le (by decide)) q287
         have o176 := ownp_cellq 3 (Ty.lst Ty.int (actL g3 rb j)) o174 rfl q335
         refine gI a49 t12 ok45 (gT (Ty.nat ((1) + 1)) rfl (fun A B G H I => rP ((y_add (kp (I 62 rfl) G q337) rfl (w64 (by omega) (by omega))).mono (fun τ _ h => cvi (σ := τ) (by first | omega | exact (Int.natCast_mul _ _).symm) h))) (gS rfl (fun A B G H I d0 => rP (y_move (ed d0 rfl rfl rfl))) (gE ok45 fun a54 s50 ok50 D28 => ?_))); have o177 := OwnP.k0 o176 D28.stp; have o178 := OwnM.k0 o175 D28.stp
         exact tn ⟨2 - (2), by omega, s50, 2, rfl, (F55.step0 D28.stp), ok50, (cvi (by (first | rfl | omega | (simp_all; done) | (simp_all; omega))) (D28.dn 1 rfl rfl)), (D28.kt q338 rfl), (D28.kt q339 rfl), (ownp_cell 3 (cell1 (actL g3 rb g3.length) (2)) (ownp_cell 2 (cell0 (actL g3 ra g3.length) (2)) o177 rfl (fun _ _ h => (cvt (by (first | rfl | (rw [ej]; rfl))) h))) rfl (fun _ _ h => (cvt (by (first | rfl | (rw [ej]; rfl))) h))), o178, by omega, rfl⟩
      ·
       exfalso
       omega
     ·
      have o179 : OwnP t6 5 x5 [(Ty.lst Ty.ints g3), (Ty.val x4), (Ty.lst Ty.int (actL g3 ra g3.length)), (Ty.lst Ty.int (actL g3 rb g3.length))] := (ownp_cell 3 (Ty.lst Ty.int (actL g3 rb g3.length)) (ownp_cell 2 (Ty.lst Ty.int (actL g3 ra g3.length)) o109 rfl (fun _ _ h => (cvt (by (rfl)) h))) rfl (fun _ _ h => (cvt (by (rfl)) h)))
      refine wp_seq ?_
      refine gI a32 t6 ok30 (gS rfl (fun A B G H I => rP (y_lss (kp (I 62 rfl) G q155) rfl)) (gE ok30 fun a55 s51 ok51 D29 => ?_)); have o180 := OwnP.k0 o179 D29.stp; have o181 := OwnM.k0 o110 D29.stp; refine tn (wp_seq ?_)
      refine cond_p (p := ((((2) : Nat) : Int) < (2 : Int))) (D29.dn 0 rfl rfl) (fun c8 => ?_) (fun c8 => ?_)
      ·
       exfalso
       omega
      ·
       refine wp_exit (tx (tx (bx (tn (wp_seq ?_)))))
       refine gI a55 s51 ok51 (gM (D29.kt q156 rfl) (gB 0 (gC (Ty.int (0 : Int)) (gE ok51 fun a56 s52 ok52 D30 => ?_)))); have o182 := OwnP.k0 o180 D30.stp
       have q352 : At (Ty.val x5) s52 a56 (.tmp 4) := D30.done 1
       refine tn (wp_ret ?_)
       obtain ⟨t13, e3, h3, q354⟩ := OwnP.seal o182 (by decide)
       rw [← e3]
       have F59 := ((F32.step0 D29.stp).step0 D30.stp).step h3 (by decide)
       have q355 : At (Ty.ref [(Ty.lst Ty.ints g3), (Ty.val x4), (Ty.lst Ty.int (actL g3 ra g3.length)), (Ty.lst Ty.int (actL g3 rb g3.length))]) t13 a56 (.tmp 4) := by have e : a56.eval (.tmp 4) = x5 := q352; show Ty.has _ _ _; rw [e]; exact q354
       have q356 := Ty.up (Ty.int (0 : Int)) (h3.le (by decide)) (D30.dn 2 rfl rfl)
       exact retL2 rfl ok52 F59 ⟨g3, x4, (hasT2 (cvt (by (first | rfl | omega | (simp_all; done) | (simp_all; omega))) q355) q356), (by exact hEO)⟩


end Go.Proofs.Ytkjifbgofckfeaa
