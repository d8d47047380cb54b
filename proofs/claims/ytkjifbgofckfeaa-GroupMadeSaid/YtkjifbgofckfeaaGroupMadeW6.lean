/- The functions that the law GroupMade reaches, each by its contract. Part 6. -/
import Derived.Test.YtkjifbgofckfeaaGroupMadeW5
namespace Go.Proofs.Ytkjifbgofckfeaa
open Go.KL
theorem Try.inf4 : Info Try.prog 4 (.bool false) 1 1 := by unfold Info; kernel_rfl
set_option maxHeartbeats 4000000 in
set_option maxRecDepth 100000 in
theorem rClosedW_fn (n : Nat) (gens : List (List Int)) (most : Nat) (σ : GW) (hlow : Low [] σ) (v0 v1 v2 : Value) (hv0 : Ty.has (Ty.nat n) σ v0) (hv1 : Ty.has (Ty.lst Ty.ints gens) σ v1) (hv2 : Ty.has (Ty.nat most) σ v2)  (hn : 1 ≤ n ∧ n ≤ 12) (hg : ∀ x ∈ gens, RowN n x) (hgl : gens.length ≤ 1000) (hms : 1 ≤ most ∧ most ≤ 100000) :
    FnL Try.prog 19 #[v0, v1, v2] σ [] (fun v τ => ∃ (R : (List (List Int))), ∃ (W : (List (List Int))), (Ty.has (Ty.tup2 (Ty.lst Ty.ints R) (Ty.lst Ty.ints W)) τ v) ∧ (ClosedP n gens most R W) ∧ (R ≠ [] → ClY n gens R W R.length)) := by
 refine fn_introL hlow Try.func19 rfl Try.ntmps19 (Nat.le_of_ble_eq_true rfl) (fun a0 F0 ok0 hargs => ?_)
 have p0 := pB (hargs 0 _ rfl) hv0
 have p1 := pB (hargs 1 _ rfl) hv1
 have b1 := sl_le p1
 have p2 := pB (hargs 2 _ rfl) hv2
 clear hargs; refine wp_seq ?_
 refine gI a0 σ ok0 (gC (Ty.val (Value.slice none 0 0)) (gC (Ty.val (Value.slice none 0 0)) (gE ok0 fun a1 s1 ok1 D1 => ?_))); refine tn (wp_seq ?_)
 refine gI a1 s1 ok1 (gM (D1.k p0) (gS rfl (fun E G H I J d0 => rP (y_call _ Try.func39 rfl rfl my1 (rRounds_fn (n) _ _ (eI d0) oM))) (gR (Pr.own 20 22 1 1 (List.map Ty.ints [(roundsL n)])) rfl (by intro E G H I J d0; exact rP ((y_lit1 (k := 20) Try.underlying24 Try.inf22 rfl (one_sl) (eI d0)).mono (fun _ _ h => cvo (by simp) (by first | (simp; done) | rfl) h))) (gE2 ok1 fun a2 s2 ok2 D2 => ?_))))
 obtain ⟨x1, hx1⟩ : ∃ x, a2.eval (.tmp 19) = x := ⟨_, rfl⟩
 have q6 : At (Ty.val x1) s2 a2 (.tmp 19) := hx1
 have o1 := al2 (R := (Pr.own 20 22 1 1 (List.map Ty.ints [(roundsL n)]))) hx1 (D2.done 2 dE)
 refine tL ok2 (Yld.toL (y_as q6)) fun a3 s3 hs1 ok3 r1 sm1 => ?_
 have q9 : At (Ty.val x1) s3 a3 (.tmp 8) := r1
 clear r1; refine wpList_nil (tn (wp_seq ?_))
 refine gI a3 s3 ok3 (gR (Pr.own 21 22 1 1 (List.map Ty.ints [([] : List Int)])) rfl (by intro E G H I J; exact rP ((y_lit1 (k := 21) Try.underlying24 Try.inf22 rfl (one_sl) (nil_lst (f := Ty.int) (xs := ([] : List Int)) rfl (show Ty.has (Ty.val (Value.slice none 0 0)) G (E.eval ((Operand.const (Value.slice none 0 0)))) from rfl))).mono (fun _ _ h => cvo (by simp) (by first | (simp; done) | rfl) h))) (gE2 ok3 fun a4 s4 ok4 D3 => ?_)); have o3 := Own.k0 (Own.kl o1 hs1) D3.stp
 obtain ⟨x2, hx2⟩ : ∃ x, a4.eval (.tmp 20) = x := ⟨_, rfl⟩
 have q13 : At (Ty.val x2) s4 a4 (.tmp 20) := hx2
 have o4 := al2 (R := (Pr.own 21 22 1 1 (List.map Ty.ints [([] : List Int)]))) hx2 (D3.done 0 dE)
 refine tL ok4 (Yld.toL (y_as q13)) fun a5 s5 hs2 ok5 r2 sm2 => ?_
 have q17 : At (Ty.val x2) s5 a5 (.tmp 9) := r2
 clear r2; refine wpList_nil (tn (wp_seq ?_))
 refine gI a5 s5 ok5 (gR (Pr.ownm Ty.bool kI 22 (fun _ => none : Int → Option Bool)) rfl (by intro E G H I J; exact rP (y_makemap 22)) (gE2 ok5 fun a6 s6 ok6 D4 => ?_)); have o7 := Own.k0 (Own.kl o3 hs2) D4.stp; have o8 := Own.k0 (Own.kl o4 hs2) D4.stp
 obtain ⟨x3, hx3⟩ : ∃ x, a6.eval (.tmp 21) = x := ⟨_, rfl⟩
 have q22 : At (Ty.val x3) s6 a6 (.tmp 21) := hx3
 have o9 := al2 (R := (Pr.ownm Ty.bool kI 22 (fun _ => none : Int → Option Bool))) hx3 (D4.done 0 dE)
 refine tailL0 (L := [22]) (R := (fun _ τ => OwnM Ty.bool kI τ 22 x3 (fun x_ => if x_ = (0 : Int) then some true else (fun _ => none : Int → Option Bool) x_))) rfl rfl (YldM.toL (m_mapins (i := (0 : Int)) Try.underlying35 (keyInt Try.underlying3) dE o9 q22 rfl rfl)) (fun v1 s7 hs3 r3 => ?_)
 have q23 := kpL hs3 dE rfl (D4.k (kq hs2 sm2 1 (D3.k (kq hs1 sm1 1 (D2.k (D1.k p1)))))); have q24 := kpL hs3 dE rfl (D4.k (kq hs2 sm2 2 (D3.k (kq hs1 sm1 2 (D2.k (D1.k p2)))))); have q25 := kpL hs3 dE rfl (D4.k (kq hs2 sm2 8 (D3.k q9))); have q26 := kpL hs3 dE rfl (D4.k q17); have q27 := kpL hs3 dE rfl q22
 have o10 : OwnM Ty.bool kI s7 22 x3 (fun x_ => if x_ = (0 : Int) then some true else (fun _ => none : Int → Option Bool) x_) := r3
 clear r3
 refine tL ok6 (Yld.toL (y_mv q27)) fun a7 s8 hs4 ok7 r4 sm3 => ?_
 have q33 : At (Ty.val x3) s8 a7 (.tmp 22) := r4
 clear r4
 refine tL ok7 (Yld.toL (y_as q33)) fun a8 s9 hs5 ok8 r5 sm4 => ?_
 have q38 : At (Ty.val x3) s9 a8 (.tmp 10) := r5
 clear r5; refine wpList_nil (tn (wp_seq (wp_seq ?_)))
 refine gI a8 s9 ok8 (gC (Ty.int (0 : Int)) (gE ok8 fun a9 s10 ok9 D5 => ?_)); have o19 := Own.k0 (Own.kl (Own.kl (Own.kl o7 hs3) hs4) hs5) D5.stp; have o20 := Own.k0 (Own.kl (Own.kl (Own.kl o8 hs3) hs4) hs5) D5.stp; have o21 := OwnM.k0 (OwnM.kl (OwnM.kl o10 hs4) hs5) D5.stp; refine tn (wp_block ?_)
 refine loop (fun n1 a10 w1 => ∃ (t1 : GW) (i : Nat) (L : (List (List Int))) (W : (List (List Int))) (f : (Int → Option Bool)) (x8_0 x9_0 : Value), t1.w = w1 ∧ FromL [] σ t1 ∧ Ok 86 [] a10 ∧ At (Ty.nat i) t1 a10 (.tmp 11) ∧ At (Ty.val x8_0) t1 a10 (.tmp 8) ∧ At (Ty.val x9_0) t1 a10 (.tmp 9) ∧ At (Ty.lst Ty.ints gens) t1 a10 (.tmp 1) ∧ At (Ty.nat most) t1 a10 (.tmp 2) ∧ At (Ty.val x3) t1 a10 (.tmp 10) ∧ Own t1 20 22 1 x8_0 (List.length L) (List.map Ty.ints L) ∧ Own t1 21 22 1 x9_0 (List.length W) (List.map Ty.ints W) ∧ OwnM Ty.bool kI t1 22 x3 f ∧ (i ≤ L.length) ∧ (L.length ≤ most) ∧ (ClI n gens L W i 0) ∧ (SeenB n L f) ∧ (WordsB W) ∧ (ClY n gens L W i) ∧ n1 = most - i) (most - (0)) ?_ ?_
 ·
  exact ⟨s10, 0, [roundsL n], [[]], (fun x => if x = (0 : Int) then some true else (fun _ => none) x), x1, x2, rfl, ((((((((((F0.step0 D1.stp).step0 D2.stp).sl hs1).step0 D3.stp).sl hs2).step0 D4.stp).sl hs3).sl hs4).sl hs5).step0 D5.stp), ok9, (cJ (D5.m 0 rfl)), (D5.k (kq hs5 sm4 8 (kq hs4 sm3 8 q25))), (D5.k (kq hs5 sm4 9 (kq hs4 sm3 9 q26))), (D5.k (kq hs5 sm4 1 (kq hs4 sm3 1 q23))), (D5.k (kq hs5 sm4 2 (kq hs4 sm3 2 q24))), (D5.k q38), (cvo (by (first | rfl | simp)) (by (first | rfl | simp)) o19), (cvo (by (first | rfl | simp)) (by (first | rfl | simp)) o20), (cvm (by (rfl)) o21), by simp, hms.1, ClI.start, seenC_start hn, wordsB_start, ClY.start, rfl⟩
 ·
  rintro n2 a11 w2 ⟨t2, i, L, W, f, x8_0, x9_0, rfl, F11, ok10, q45, q46, q47, q48, q49, q50, o22, o23, o24, hi, hl, hC, hsn, hwb, hY, rfl⟩
  have hwl := hC.wl
  refine wp_seq (wp_seq ?_)
  refine gI a11 t2 ok10 (gM q45 (gM q46 (gT (Ty.nat (List.length L)) rfl (fun E G H I J d0 => rP (own_len Try.underlying24 (al (R := (Pr.own 20 22 1 (List.length L) (List.map Ty.ints L))) (eI d0) (Own.k0 o22 H)))) (gS rfl (fun E G H I J d0 d1 => rP (y_lss (eI d0) (eI d1))) (gE ok10 fun a12 s11 ok11 D6 => ?_))))); have F12 := F11.step0 D6.stp; have q52 := D6.k q46; have q53 := D6.k q47; have o25 := Own.k0 o22 D6.stp; have o26 := Own.k0 o23 D6.stp; have o27 := OwnM.k0 o24 D6.stp; refine tn ?_
  refine cond_p (p := (((i : Nat) : Int) < (((List.length L) : Nat) : Int))) (D6.m 3 rfl) (fun c1 => ?_) (fun c1 => ?_)
  ·
   refine wp_skip (tn (wp_seq (wp_block (wp_seq ?_))))
   refine gI a12 s11 ok11 (gC (Ty.int (0 : Int)) (gE ok11 fun a13 s12 ok12 D7 => ?_)); have o28 := Own.k0 o25 D7.stp; have o29 := Own.k0 o26 D7.stp; have o30 := OwnM.k0 o27 D7.stp; refine tn (wp_block ?_)
   refine loop (fun n3 a14 w3 => ∃ (t3 : GW) (j : Nat) (L2 : (List (List Int))) (W2 : (List (List Int))) (f2 : (Int → Option Bool)) (x8_1 x9_1 : Value), t3.w = w3 ∧ FromL [] σ t3 ∧ Ok 86 [] a14 ∧ At (Ty.nat j) t3 a14 (.tmp 12) ∧ At (Ty.val x8_1) t3 a14 (.tmp 8) ∧ At (Ty.val x9_1) t3 a14 (.tmp 9) ∧ At (Ty.nat i) t3 a14 (.tmp 11) ∧ At (Ty.lst Ty.ints gens) t3 a14 (.tmp 1) ∧ At (Ty.nat most) t3 a14 (.tmp 2) ∧ At (Ty.val x3) t3 a14 (.tmp 10) ∧ Own t3 20 22 1 x8_1 (List.length L2) (List.map Ty.ints L2) ∧ Own t3 21 22 1 x9_1 (List.length W2) (List.map Ty.ints W2) ∧ OwnM Ty.bool kI t3 22 x3 f2 ∧ (j ≤ 2 * gens.length) ∧ (i < L2.length) ∧ (L2.length ≤ most) ∧ (ClI n gens L2 W2 i j) ∧ (SeenB n L2 f2) ∧ (WordsB W2) ∧ (ClX n gens L2 W2 i j) ∧ n3 = 2 * gens.length - j) (2 * gens.length - (0)) ?_ ?_
   ·
    exact ⟨s12, 0, L, W, f, x8_0, x9_0, rfl, (F12.step0 D7.stp), ok12, (cJ (D7.m 0 rfl)), (D7.k q52), (D7.k q53), (D7.k (D6.k q45)), (D7.k (D6.k q48)), (D7.k (D6.k q49)), (D7.k (D6.k q50)), (cvo (by (simp)) (by (simp)) o28), (cvo (by (simp)) (by (simp)) o29), (cvm (by (rfl)) o30), by omega, by omega, hl, hC, hsn, hwb, hY.go oM, rfl⟩
   ·
    rintro n4 a15 w4 ⟨t4, j, L2, W2, f2, x8_1, x9_1, rfl, F14, ok13, q65, q66, q67, q68, q69, q70, q71, o31, o32, o33, hj, hil, hl2, hC2, hsn2, hwb2, hX, rfl⟩
    have hwl2 := hC2.wl
    refine wp_seq (wp_seq ?_)
    refine gI a15 t4 ok13 (gM q65 (gM q69 (gS rfl (fun E G H I J d0 => rP (y_len Try.underlying24 (eI d0))) (gT (Ty.nat (2 * (List.length gens))) rfl (fun E G H I J d0 => rP ((y_mul rfl (eI d0) wX).mono (fun τ _ h => cN (σ := τ) h))) (gS rfl (fun E G H I J d0 d1 => rP (y_lss (eI d0) (eI d1))) (gE ok13 fun a16 s13 ok14 D8 => ?_)))))); have F15 := F14.step0 D8.stp; have q72 := D8.k q65; have q73 := D8.k q66; have q74 := D8.k q67; have q75 := D8.k q68; have q76 := D8.k q69; have q77 := D8.k q70; have q78 := D8.k q71; have o34 := Own.k0 o31 D8.stp; have o35 := Own.k0 o32 D8.stp; have o36 := OwnM.k0 o33 D8.stp; refine tn ?_
    refine cond_p (p := (((j : Nat) : Int) < (((2 * (List.length gens)) : Nat) : Int))) (D8.m 4 rfl) (fun c2 => ?_) (fun c2 => ?_)
    ·
     obtain ⟨hf1, hf2, hf3, hf4, hf5, hf6⟩ := hC2.fits hn hg hil oM
     refine wp_skip (tn (wp_seq (wp_block (wp_seq ?_))))
     refine gI a16 s13 ok14 (gM q76 (gM q72 (gT (Ty.nat (j / 2)) rfl (fun E G H I J d0 => rP (y_quoN (eI d0) (toN (σ := G) rfl oM) oM oM)) (gT (Ty.ref [(Ty.lst Ty.int (gens.getD (j / 2) []))]) rfl (fun E G H I J d0 d1 => rP (y_index1 Try.underlying24 Try.inf22 (eI d0) (eI d1) oM (lst_get Ty.ints gens [] (j / 2) oM))) (gS rfl (fun E G H I J d0 => rP (y_load Try.underlying22 rfl (eI d0) rfl)) (gB 0 (gE ok14 fun a17 s14 ok15 D9 => ?_))))))); have q80 := D9.k q72; have o37 := Own.k0 o34 D9.stp; have o38 := Own.k0 o35 D9.stp; have o39 := OwnM.k0 o36 D9.stp; refine tn (wp_seq ?_)
     refine gI a17 s14 ok15 (gM q80 (gT (Ty.nat (j / 2)) rfl (fun E G H I J d0 => rP (y_quoN (eI d0) (toN (σ := G) rfl oM) oM oM)) (gT (Ty.nat ((j / 2) + 1)) rfl (fun E G H I J d0 => rP ((y_add (eI d0) rfl wX).mono (fun τ _ h => cN (σ := τ) h))) (gB 0 (gE ok15 fun a18 s15 ok16 D10 => ?_))))); have q88 := D10.k q80; have o40 := Own.k0 o37 D10.stp; have o41 := Own.k0 o38 D10.stp; have o42 := OwnM.k0 o39 D10.stp; refine tn (wp_seq (wp_seq ?_))
     refine gI a18 s15 ok16 (gM q88 (gT (Ty.nat (j % 2)) rfl (fun E G H I J d0 => rP (y_remN (eI d0) (toN (σ := G) rfl oM) oM)) (gS rfl (fun E G H I J d0 => rP (y_eql (eI d0) rfl)) (gE ok16 fun a19 s16 ok17 D11 => ?_)))); have F18 := ((F15.step0 D9.stp).step0 D10.stp).step0 D11.stp; have q97 := D11.k q88; have q98 := D11.k (D10.k (D9.k q73)); have q99 := D11.k (D10.k (D9.k q74)); have q100 := D11.k (D10.k (D9.k q75)); have q101 := D11.k (D10.k (D9.k q76)); have q102 := D11.k (D10.k (D9.k q77)); have q103 := D11.k (D10.k (D9.k q78)); have q104 := D11.k (D10.k (D9.m 5 rfl)); have q105 := D11.k (D10.m 3 rfl); have o43 := Own.k0 o40 D11.stp; have o44 := Own.k0 o41 D11.stp; have o45 := OwnM.k0 o42 D11.stp; refine tn ?_
     refine Go.KL.join_then (Q' := fun a20 w5 => ∃ (t5 : GW), t5.w = w5 ∧ FromL [] σ t5 ∧ Ok 86 [] a20 ∧ At (Ty.lst Ty.int (ltr gens j)) t5 a20 (.tmp 13) ∧ At (Ty.int (ltrN j)) t5 a20 (.tmp 14) ∧ At (Ty.nat j) t5 a20 (.tmp 12) ∧ At (Ty.val x8_1) t5 a20 (.tmp 8) ∧ At (Ty.val x9_1) t5 a20 (.tmp 9) ∧ At (Ty.nat i) t5 a20 (.tmp 11) ∧ At (Ty.lst Ty.ints gens) t5 a20 (.tmp 1) ∧ At (Ty.nat most) t5 a20 (.tmp 2) ∧ At (Ty.val x3) t5 a20 (.tmp 10) ∧ Own t5 20 22 1 x8_1 (List.length L2) (List.map Ty.ints L2) ∧ Own t5 21 22 1 x9_1 (List.length W2) (List.map Ty.ints W2) ∧ OwnM Ty.bool kI t5 22 x3 f2 ∧ True) ?_ ?_
     ·
      refine cond_p (p := ((((j % 2) : Nat) : Int) = (1 : Int))) (D11.m 2 rfl) (fun c3 => ?_) (fun c3 => ?_)
      ·
       refine wp_seq ?_
       refine gI a19 s16 ok17 (gM q104 (gS rfl (fun E G H I J d0 => rP (y_call _ Try.func23 rfl rfl my1 (rUndo_fn ((gens.getD (j / 2) [])) _ _ (eI d0) (by assumption)))) (gB 0 (gE ok17 fun a21 s17 ok18 D12 => ?_)))); have o46 := Own.k0 o43 D12.stp; have o47 := Own.k0 o44 D12.stp; have o48 := OwnM.k0 o45 D12.stp; refine tn ?_
       refine gI a21 s17 ok18 (gM (D12.k q105) (gT (Ty.int (-((((j / 2) + 1) : Nat) : Int))) rfl (fun E G H I J d0 => rP (y_neg (eI d0) wX)) (gB 0 (gE ok18 fun a22 s18 ok19 D13 => ?_)))); have o49 := Own.k0 o46 D13.stp; have o50 := Own.k0 o47 D13.stp; have o51 := OwnM.k0 o48 D13.stp
       exact tn ⟨s18, rfl, ((F18.step0 D12.stp).step0 D13.stp), ok19, (cvt (by (unfold ltr; rw [if_pos oM])) (D13.k (D12.m 2 rfl))), (cvi (by (unfold ltrN; rw [if_pos oM])) (D13.m 2 rfl)), (D13.k (D12.k q97)), (D13.k (D12.k q98)), (D13.k (D12.k q99)), (D13.k (D12.k q100)), (D13.k (D12.k q101)), (D13.k (D12.k q102)), (D13.k (D12.k q103)), o49, o50, o51, trivial⟩
      ·
       refine wp_skip ?_
       exact tn ⟨s16, rfl, F18, ok17, (cvt (by (unfold ltr; rw [if_neg oM])) q104), (cvi (by (unfold ltrN; rw [if_neg oM])) q105), q97, q98, q99, q100, q101, q102, q103, o43, o44, o45, trivial⟩
     ·
      rintro a23 w6 ⟨t6, rfl, F21, ok20, q125, q126, q127, q128, q129, q130, q131, q132, q133, o52, o53, o54, -⟩
      refine wp_seq ?_
      refine gI a23 t6 ok20 (gM q128 (gM q130 (gT (Ty.val (cellPtr x8_1 i)) rfl (fun E G H I J d0 d1 => rP (own_index1 (i := ((i : Nat) : Int)) Try.underlying24 Try.inf22 (Own.k0 o52 H) (eI d0) (eI d1) oM oM)) (gS rfl (fun E G H I J d0 => rP (own_load Try.underlying22 rfl (Own.k0 o52 H) (eI d0) (lst_get Ty.ints L2 [] i oM))) (gM q125 (gS rfl (fun E G H I J d0 d1 => rP (y_call _ Try.func22 rfl rfl my2 (rBy_fn ((L2.getD i [])) ((ltr gens j)) _ _ _ (eI d0) (eI d1) (by first | assumption | omega) (by first | assumption | omega)))) (gB 0 (gE ok20 fun a24 s19 ok21 D14 => ?_)))))))); have o55 := Own.k0 o52 D14.stp; have o56 := Own.k0 o53 D14.stp; have o57 := OwnM.k0 o54 D14.stp; have q142 := D14.m 6 rfl; refine tn (wp_seq ?_)
      refine gI a24 s19 ok21 (gM q142 (gS rfl (fun E G H I J d0 => rP (y_call _ Try.func21 rfl rfl my1 (rRank_fn ((byL ((L2.getD i [])) ((ltr gens j)))) _ _ (eI d0) oX))) (gB 0 (gE ok21 fun a25 s20 ok22 D15 => ?_)))); have q150 := D15.k (D14.k q133); have o58 := Own.k0 o55 D15.stp; have o59 := Own.k0 o56 D15.stp; have o60 := OwnM.k0 o57 D15.stp; have q152 := D15.m 2 rfl; refine tn (wp_seq (wp_seq ?_))
      refine gI a25 s20 ok22 (gM q150 (gM q152 (gT (Ty.bool ((f2 (((rankL ((byL ((L2.getD i [])) ((ltr gens j))))) : Nat) : Int)).getD false)) rfl (fun E G H I J d0 d1 => rP (y_lookup (i := (((rankL ((byL ((L2.getD i [])) ((ltr gens j))))) : Nat) : Int)) (z := false) Try.underlying35 (keyInt Try.underlying3) Try.inf4 (fun _ => rfl) (OwnM.k0 o60 H) (eI d0) (eI d1))) (gE ok22 fun a26 s21 ok23 D16 => ?_)))); have F24 := ((F21.step0 D14.stp).step0 D15.stp).step0 D16.stp; have q154 := D16.k (D15.k (D14.k q127)); have q155 := D16.k (D15.k (D14.k q128)); have q156 := D16.k (D15.k (D14.k q129)); have q157 := D16.k (D15.k (D14.k q130)); have q158 := D16.k (D15.k (D14.k q131)); have q159 := D16.k (D15.k (D14.k q132)); have q160 := D16.k q150; have o61 := Own.k0 o58 D16.stp; have o62 := Own.k0 o59 D16.stp; have o63 := OwnM.k0 o60 D16.stp; refine tn ?_
      refine cond_t (D16.m 2 rfl) (fun c4 => ?_) (fun c4 => ?_)
      ·
       have hm : (byL (L2.getD i []) (ltr gens j)) ∈ L2 := (by have h_ := hsn2 _ hf4 hf5; rw [c4] at h_; exact of_decide_eq_true h_.symm)
       refine wp_exit (tx (bx (tn ?_)))
       refine gI a26 s21 ok23 (gM q154 (gT (Ty.nat (j + 1)) rfl (fun E G H I J d0 => rP ((y_add (eI d0) rfl wX).mono (fun τ _ h => cN (σ := τ) h))) (gB 0 (gE ok23 fun a27 s22 ok24 D17 => ?_)))); have o64 := Own.k0 o61 D17.stp; have o65 := Own.k0 o62 D17.stp; have o66 := OwnM.k0 o63 D17.stp
       exact tn ⟨2 * gens.length - ((j+1)), by omega, s22, (j+1), L2, W2, f2, x8_1, x9_1, rfl, (F24.step0 D17.stp), ok24, (cJ (D17.m 2 rfl)), (D17.k q155), (D17.k q156), (D17.k q157), (D17.k q158), (D17.k q159), (D17.k q160), o64, o65, o66, by omega, hil, hl2, hC2.old hm, hsn2, hwb2, hX.old hn hg oM hm, rfl⟩
      ·
       have hm : (byL (L2.getD i []) (ltr gens j)) ∉ L2 := (by have h_ := hsn2 _ hf4 hf5; rw [c4] at h_; exact of_decide_eq_false h_.symm); have hC5 := hC2.new (w := (W2.getD i [] ++ [ltrN j])) hn hg hil oM hm; have hsn5 := hsn2.put hf4 hf5; have hwi := hwb2 i oM; have hX5 := hX.new hn hg oM hm
       refine wp_skip (tn (wp_seq ?_))
       refine gI a26 s21 ok23 (gM q160 (gM (D16.k q152) (gE2 ok23 fun a28 s23 ok25 D18 => ?_))); have o67 := Own.k0 o61 D18.stp; have o68 := Own.k0 o62 D18.stp; have o69 := OwnM.k0 o63 D18.stp
       have q180 : At (Ty.val x3) s23 a28 (.tmp 62) := D18.done 0 dE
       refine tailL0 (L := [22]) (R := (fun _ τ => OwnM Ty.bool kI τ 22 x3 (fun x_ => if x_ = (((rankL ((byL ((L2.getD i [])) ((ltr gens j))))) : Nat) : Int) then some true else f2 x_))) rfl rfl (YldM.toL (m_mapset (i := (((rankL ((byL ((L2.getD i [])) ((ltr gens j))))) : Nat) : Int)) Try.underlying35 (keyInt Try.underlying3) dE o69 q180 (D18.m 1 rfl) rfl)) (fun v2 s24 hs6 r6 => ?_)
       have q182 := kpL hs6 dE rfl (D18.k (D16.k (D15.k (D14.k q126)))); have q183 := kpL hs6 dE rfl (D18.k q154); have q184 := kpL hs6 dE rfl (D18.k q155); have q185 := kpL hs6 dE rfl (D18.k q156); have q186 := kpL hs6 dE rfl (D18.k q157); have q187 := kpL hs6 dE rfl (D18.k q158); have q188 := kpL hs6 dE rfl (D18.k q159); have q189 := kpL hs6 dE rfl (D18.k q160); have q190 := kpL hs6 dE rfl (D18.k (D16.k (D15.k q142)))
       have o70 : OwnM Ty.bool kI s24 22 x3 (fun x_ => if x_ = (((rankL ((byL ((L2.getD i [])) ((ltr gens j))))) : Nat) : Int) then some true else f2 x_) := r6
       clear r6; refine wpList_nil (tn (wp_seq ?_))
       refine gI a28 s24 ok25 (gM q184 (gM q190 (gT (Ty.sl 1 1 [(Ty.lst Ty.int (byL ((L2.getD i [])) ((ltr gens j))))]) rfl (fun E G H I J d0 => rP (y_build1o Try.underlying24 Try.inf22 rfl (one_sl) (eI d0))) (gE2 ok25 fun a29 s25 ok26 D19 => ?_)))); have o73 := Own.k0 (Own.kl o67 hs6) D19.stp; have o74 := Own.k0 (Own.kl o68 hs6) D19.stp; have o75 := OwnM.k0 o70 D19.stp
       have q200 : At (Ty.val x8_1) s25 a29 (.tmp 64) := D19.done 0 dE
       have q201 := D19.m 2 rfl
       have b2 := sl_le q201
       refine tL ok26 (YldM.toL (m_append Try.underlying24 Try.inf22 dE rfl dE (al (R := (Pr.own 20 22 1 (List.length L2) (List.map Ty.ints L2))) q200 o73) q201 (by intro U hU; simp at hU; subst hU; exact one_sl) oM oM)) fun a30 s26 hs7 ok27 r7 sm5 => ?_
       have q204 := kq hs7 sm5 8 (D19.k q184)
       obtain ⟨x4, hx4⟩ : ∃ x, a30.eval (.tmp 67) = x := ⟨_, rfl⟩
       have q210 : At (Ty.val x4) s26 a30 (.tmp 67) := hx4
       have o76 := al2 (R := (Pr.own 20 22 1 (List.length (L2 ++ [(byL ((L2.getD i [])) ((ltr gens j)))])) (List.map Ty.ints (L2 ++ [(byL ((L2.getD i [])) ((ltr gens j)))])))) hx4 (cvo (by simp) (by first | (rw [List.map_append]; rfl) | simp) r7)
       clear r7
       refine tL ok27 (Yld.toL (y_as q210)) fun a31 s27 hs8 ok28 r8 sm6 => ?_
       have q213 := kq hs8 sm6 9 (kq hs7 sm5 9 (D19.k q185)); have q214 := kq hs8 sm6 11 (kq hs7 sm5 11 (D19.k q186)); have o79 := Own.kl (Own.kl o74 hs7) hs8
       have q218 : At (Ty.val x4) s27 a31 (.tmp 8) := r8
       clear r8; refine wpList_nil (tn (wp_seq ?_))
       refine gI a31 s27 ok28 (gM q213 (gR (Pr.own 24 3 1 0 (List.map Ty.int ([] : List Int))) rfl (by intro E G H I J; exact rP ((y_lit0 (k := 24) Try.underlying22 Try.inf3).mono (fun _ _ h => cvo (by simp) (by simp) h))) (gM q213 (gM q214 (gT (Ty.val (cellPtr x9_1 i)) rfl (fun E G H I J d0 d1 => rP (own_index1 (i := ((i : Nat) : Int)) Try.underlying24 Try.inf22 (Own.k0 o79 H) (eI d0) (eI d1) oM oM)) (gS rfl (fun E G H I J d0 => rP (own_load Try.underlying22 rfl (Own.k0 o79 H) (eI d0) (lst_get Ty.ints W2 [] i oM))) (gE2 ok28 fun a32 s28 ok29 D20 => ?_))))))); have o82 := Own.k0 o79 D20.stp; have o83 := OwnM.k0 (OwnM.kl (OwnM.kl o75 hs7) hs8) D20.stp; have o84 := Own.k0 (Own.kl o76 hs8) D20.stp
       have q227 : At (Ty.val x9_1) s28 a32 (.tmp 68) := D20.done 0 dE
       obtain ⟨x5, hx5⟩ : ∃ x, a32.eval (.tmp 69) = x := ⟨_, rfl⟩
       have q228 : At (Ty.val x5) s28 a32 (.tmp 69) := hx5
       have o85 := al2 (R := (Pr.own 24 3 1 0 (List.map Ty.int ([] : List Int)))) hx5 (D20.done 1 dE)
       have q229 := D20.m 5 rfl
       have b3 := sl_le q229
       refine tL ok29 (YldM.toL (m_append Try.underlying22 Try.inf3 dE rfl dE (al (R := (Pr.own 24 3 1 0 (List.map Ty.int ([] : List Int)))) q228 o85) q229 (one_map (fun _ => one_val rfl)) oM oM)) fun a33 s29 hs9 ok30 r9 sm7 => ?_
       obtain ⟨x6, hx6⟩ : ∃ x, a33.eval (.tmp 74) = x := ⟨_, rfl⟩
       have q239 : At (Ty.val x6) s29 a33 (.tmp 74) := hx6
       have o86 := al2 (R := (Pr.own 24 3 1 (List.length (W2.getD i [])) (List.map Ty.int (W2.getD i [])))) hx6 (cvo (by first | (simp; done) | (simp; omega)) (by first | (rw [List.map_append]; rfl) | simp) r9)
       clear r9
       refine tL ok30 (Yld.toL (y_mv (kq hs9 sm7 14 (D20.k (kq hs8 sm6 14 (kq hs7 sm5 14 (D19.k q182))))))) fun a34 s30 hs10 ok31 r10 sm8 => ?_
       have q249 : At (Ty.int (ltrN j)) s30 a34 (.tmp 75) := r10
       clear r10
       refine tL (R := (fun v τ => Pr.has (Ty.pr (Ty.sl 1 1 [(Ty.int (ltrN j))])) τ v)) ok31 (Yld.toL (y_build1o Try.underlying22 Try.inf3 rfl (one_val rfl) q249)) fun a35 s31 hs11 ok32 r11 sm9 => ?_
       have q259 : At (Ty.sl 1 1 [(Ty.int (ltrN j))]) s31 a35 (.tmp 76) := r11
       clear r11
       refine tL ok32 (YldM.toL (m_append Try.underlying22 Try.inf3 dE rfl dE (al (R := (Pr.own 24 3 1 (List.length (W2.getD i [])) (List.map Ty.int (W2.getD i [])))) (kq hs11 sm9 74 (kq hs10 sm8 74 q239)) (Own.kl (Own.kl o86 hs10) hs11)) q259 (by intro U hU; simp at hU; subst hU; exact one_val rfl) oM oM)) fun a36 s32 hs12 ok33 r12 sm10 => ?_
       obtain ⟨x7, hx7⟩ : ∃ x, a36.eval (.tmp 77) = x := ⟨_, rfl⟩
       have q268 : At (Ty.val x7) s32 a36 (.tmp 77) := hx7
       have o98 := al2 (R := (Pr.own 24 3 1 (List.length ((W2.getD i []) ++ [(ltrN j)])) (List.map Ty.int ((W2.getD i []) ++ [(ltrN j)])))) hx7 (cvo (by simp) (by first | (rw [List.map_append]; rfl) | simp) r12)
       clear r12
       obtain ⟨t7, e1, h1, q269⟩ := Own.seal o98 dE
       rw [← e1]
       have F36 := ((((((((((F24.step0 D18.stp).sl hs6).step0 D19.stp).sl hs7).sl hs8).step0 D20.stp).sl hs9).sl hs10).sl hs11).sl hs12).step h1 dE; have o102 := Own.keepL (Own.kl (Own.kl (Own.kl (Own.kl o82 hs9) hs10) hs11) hs12) (h1.toL (L := [24]) (by simp)) dE dE; have o103 := OwnM.keepL (OwnM.kl (OwnM.kl (OwnM.kl (OwnM.kl o83 hs9) hs10) hs11) hs12) (h1.toL (L := [24]) (by simp)) dE dE; have o104 := Own.keepL (Own.kl (Own.kl (Own.kl (Own.kl o84 hs9) hs10) hs11) hs12) (h1.toL (L := [24]) (by simp)) dE dE; have q270 := Ty.up (Ty.nat j) (h1.le dE) (kq hs12 sm10 12 (kq hs11 sm9 12 (kq hs10 sm8 12 (kq hs9 sm7 12 (D20.k (kq hs8 sm6 12 (kq hs7 sm5 12 (D19.k q183)))))))); have q271 := Ty.up (Ty.val x9_1) (h1.le dE) (kq hs12 sm10 9 (kq hs11 sm9 9 (kq hs10 sm8 9 (kq hs9 sm7 9 (D20.k q213))))); have q272 := Ty.up (Ty.nat i) (h1.le dE) (kq hs12 sm10 11 (kq hs11 sm9 11 (kq hs10 sm8 11 (kq hs9 sm7 11 (D20.k q214))))); have q273 := Ty.up (Ty.lst Ty.ints gens) (h1.le dE) (kq hs12 sm10 1 (kq hs11 sm9 1 (kq hs10 sm8 1 (kq hs9 sm7 1 (D20.k (kq hs8 sm6 1 (kq hs7 sm5 1 (D19.k q187)))))))); have q274 := Ty.up (Ty.nat most) (h1.le dE) (kq hs12 sm10 2 (kq hs11 sm9 2 (kq hs10 sm8 2 (kq hs9 sm7 2 (D20.k (kq hs8 sm6 2 (kq hs7 sm5 2 (D19.k q188)))))))); have q275 := Ty.up (Ty.val x3) (h1.le dE) (kq hs12 sm10 10 (kq hs11 sm9 10 (kq hs10 sm8 10 (kq hs9 sm7 10 (D20.k (kq hs8 sm6 10 (kq hs7 sm5 10 (D19.k q189)))))))); have q276 := Ty.up (Ty.val x4) (h1.le dE) (kq hs12 sm10 8 (kq hs11 sm9 8 (kq hs10 sm8 8 (kq hs9 sm7 8 (D20.k q218))))); have q277 := Ty.up (Ty.val x9_1) (h1.le dE) (kq hs12 sm10 68 (kq hs11 sm9 68 (kq hs10 sm8 68 (kq hs9 sm7 68 q227))))
       have q278 : At (Ty.lst Ty.int ((W2.getD i []) ++ [(ltrN j)])) t7 a36 (.tmp 77) := by have e : a36.eval (.tmp 77) = x7 := q268; show Ty.has _ _ _; rw [e]; exact q269
       refine tL (R := (fun v τ => Pr.has (Ty.pr (Ty.sl 1 1 [(Ty.lst Ty.int ((W2.getD i []) ++ [(ltrN j)]))])) τ v)) ok33 (Yld.toL (y_build1o Try.underlying24 Try.inf22 rfl (one_sl) q278)) fun a37 s33 hs13 ok34 r13 sm11 => ?_
       have q287 : At (Ty.sl 1 1 [(Ty.lst Ty.int ((W2.getD i []) ++ [(ltrN j)]))]) s33 a37 (.tmp 78) := r13
       clear r13
       refine tL ok34 (YldM.toL (m_append Try.underlying24 Try.inf22 dE rfl dE (al (R := (Pr.own 21 22 1 (List.length W2) (List.map Ty.ints W2))) (kq hs13 sm11 68 q277) (Own.kl o102 hs13)) q287 (by intro U hU; simp at hU; subst hU; exact one_sl) oM oM)) fun a38 s34 hs14 ok35 r14 sm12 => ?_
       have q289 := kq hs14 sm12 9 (kq hs13 sm11 9 q271)
       obtain ⟨x8, hx8⟩ : ∃ x, a38.eval (.tmp 79) = x := ⟨_, rfl⟩
       have q295 : At (Ty.val x8) s34 a38 (.tmp 79) := hx8
       have o108 := al2 (R := (Pr.own 21 22 1 (List.length (W2 ++ [((W2.getD i []) ++ [(ltrN j)])])) (List.map Ty.ints (W2 ++ [((W2.getD i []) ++ [(ltrN j)])])))) hx8 (cvo (by simp) (by first | (rw [List.map_append]; rfl) | simp) r14)
       clear r14
       refine tL ok35 (Yld.toL (y_as q295)) fun a39 s35 hs15 ok36 r15 sm13 => ?_
       have q299 := kq hs15 sm13 2 (kq hs14 sm12 2 (kq hs13 sm11 2 q274)); have q301 := kq hs15 sm13 8 (kq hs14 sm12 8 (kq hs13 sm11 8 q276)); have o112 := Own.kl (Own.kl (Own.kl o104 hs13) hs14) hs15
       have q302 : At (Ty.val x8) s35 a39 (.tmp 9) := r15
       clear r15; refine wpList_nil (tn (wp_seq ?_))
       refine gI a39 s35 ok36 (gM q301 (gT (Ty.nat (List.length (L2 ++ [(byL ((L2.getD i [])) ((ltr gens j)))]))) rfl (fun E G H I J d0 => rP (own_len Try.underlying24 (al (R := (Pr.own 20 22 1 (List.length (L2 ++ [(byL ((L2.getD i [])) ((ltr gens j)))])) (List.map Ty.ints (L2 ++ [(byL ((L2.getD i [])) ((ltr gens j)))])))) (eI d0) (Own.k0 o112 H)))) (gM q299 (gS rfl (fun E G H I J d0 d1 => rP (y_gtr (eI d0) (eI d1))) (gE ok36 fun a40 s36 ok37 D21 => ?_))))); have F40 := (((F36.sl hs13).sl hs14).sl hs15).step0 D21.stp; have o114 := OwnM.k0 (OwnM.kl (OwnM.kl (OwnM.kl o103 hs13) hs14) hs15) D21.stp; have o115 := Own.k0 o112 D21.stp; have o116 := Own.k0 (Own.kl o108 hs15) D21.stp; refine tn ?_
       refine cond_p (p := (((most : Nat) : Int) < (((List.length (L2 ++ [(byL ((L2.getD i [])) ((ltr gens j)))])) : Nat) : Int))) (D21.m 3 rfl) (fun c5 => ?_) (fun c5 => ?_)
       ·
        refine wp_seq ?_
        refine gI a40 s36 ok37 (gC (Ty.val (Value.slice none 0 0)) (gC (Ty.val (Value.slice none 0 0)) (gE ok37 fun a41 s37 ok38 D22 => ?_))); have o117 := OwnM.k0 o114 D22.stp; have o118 := Own.k0 o115 D22.stp; have o119 := Own.k0 o116 D22.stp; refine tn (wp_ret (br (tr (tr (br (br (tr (tr (br (tr ?_))))))))))
        exact retL2 rfl ok38 (F40.step0 D22.stp) ⟨([] : List (List Int)), ([] : List (List Int)), (hasT2 (nil_lst (by (first | rfl | omega | (simp_all; done) | (simp_all; omega))) (D22.m 0 rfl)) (nil_lst (by (first | rfl | omega | (simp_all; done) | (simp_all; omega))) (D22.m 1 rfl))), (by exact ClI.many hC5 oM), (by exact fun h_ => absurd rfl h_)⟩
       ·
        refine wp_skip (bn (tn ?_))
        refine gI a40 s36 ok37 (gM (D21.k (kq hs15 sm13 12 (kq hs14 sm12 12 (kq hs13 sm11 12 q270)))) (gT (Ty.nat (j + 1)) rfl (fun E G H I J d0 => rP ((y_add (eI d0) rfl wX).mono (fun τ _ h => cN (σ := τ) h))) (gB 0 (gE ok37 fun a42 s38 ok39 D23 => ?_)))); have o120 := OwnM.k0 o114 D23.stp; have o121 := Own.k0 o115 D23.stp; have o122 := Own.k0 o116 D23.stp
        exact tn ⟨2 * gens.length - ((j+1)), by omega, s38, (j+1), (L2 ++ [(byL (L2.getD i []) (ltr gens j))]), (W2 ++ [(W2.getD i [] ++ [ltrN j])]), (fun p => if p = ((rankL (byL (L2.getD i []) (ltr gens j)) : Nat) : Int) then some true else f2 p), x4, x8, rfl, (F40.step0 D23.stp), ok39, (cJ (D23.m 2 rfl)), (D23.k (D21.k q301)), (D23.k (D21.k q302)), (D23.k (D21.k (kq hs15 sm13 11 (kq hs14 sm12 11 (kq hs13 sm11 11 q272))))), (D23.k (D21.k (kq hs15 sm13 1 (kq hs14 sm12 1 (kq hs13 sm11 1 q273))))), (D23.k (D21.k q299)), (D23.k (D21.k (kq hs15 sm13 10 (kq hs14 sm12 10 (kq hs13 sm11 10 q275))))), (cvo (by (simp)) (by (simp)) o121), (cvo (by (simp)) (by (simp)) o122), (cvm (by (rfl)) o120), by omega, by (rw [List.length_append]; omega), by omega, hC5, hsn5, hwb2.new oM, hX5, rfl⟩
    ·
     have ej : j = 2 * gens.length := oM; have hC4 := (ej ▸ hC2 : ClI n gens L2 W2 i (2 * gens.length)).next; have hY4 := (ej ▸ hX : ClX n gens L2 W2 i (2 * gens.length)).next
     refine wp_exit (tx (tx (bx (bn (tn ?_)))))
     refine gI a16 s13 ok14 (gM q75 (gT (Ty.nat (i + 1)) rfl (fun E G H I J d0 => rP ((y_add (eI d0) rfl wX).mono (fun τ _ h => cN (σ := τ) h))) (gB 0 (gE ok14 fun a43 s39 ok40 D24 => ?_)))); have o123 := Own.k0 o34 D24.stp; have o124 := Own.k0 o35 D24.stp; have o125 := OwnM.k0 o36 D24.stp
     exact tn ⟨most - ((i + 1)), by omega, s39, (i + 1), L2, W2, f2, x8_1, x9_1, rfl, (F15.step0 D24.stp), ok40, (cJ (D24.m 2 rfl)), (D24.k q73), (D24.k q74), (D24.k q76), (D24.k q77), (D24.k q78), (cvo (by (simp)) (by (simp)) o123), (cvo (by (simp)) (by (simp)) o124), (cvm (by (rfl)) o125), by omega, hl2, hC4, hsn2, hwb2, hY4, rfl⟩
  ·
   have ei : i = L.length := oM; have hC9 : ClosedP n gens most L W := ClI.closed hn hg (ei ▸ hC) hl; have hY9 : ClY n gens L W L.length := ei ▸ hY
   refine wp_exit (tx (tx (bx (tn (wp_seq ?_)))))
   refine gI a12 s11 ok11 (gM q52 (gM q53 (gB 0 (gB 0 (gE ok11 fun a44 s40 ok41 D25 => ?_))))); have o126 := Own.k0 o25 D25.stp; have o127 := Own.k0 o26 D25.stp; have o128 := OwnM.k0 o27 D25.stp
   have q326 : At (Ty.val x8_0) s40 a44 (.tmp 6) := D25.done 2
   have q327 : At (Ty.val x9_0) s40 a44 (.tmp 7) := D25.done 3
   refine tn (wp_ret ?_)
   obtain ⟨t8, e2, h2, q328⟩ := Own.seal o126 dE
   rw [← e2]
   have F45 := (F12.step0 D25.stp).step h2 dE; have o129 := Own.keepL o127 (h2.toL (L := [20]) (by simp)) dE dE
   have q329 : At (Ty.lst Ty.ints L) t8 a44 (.tmp 6) := by have e : a44.eval (.tmp 6) = x8_0 := q326; show Ty.has _ _ _; rw [e]; exact q328
   have q330 := Ty.up (Ty.val x9_0) (h2.le dE) q327
   obtain ⟨t9, e3, h3, q331⟩ := Own.seal o129 dE
   rw [← e3]
   have F46 := F45.step h3 dE; have q332 := Ty.up (Ty.lst Ty.ints L) (h3.le dE) q329
   have q333 : At (Ty.lst Ty.ints W) t9 a44 (.tmp 7) := by have e : a44.eval (.tmp 7) = x9_0 := q330; show Ty.has _ _ _; rw [e]; exact q331
   exact retL2 rfl ok41 F46 ⟨L, W, (hasT2 (cvt (by (first | rfl | omega | (simp_all; done) | (simp_all; omega))) q332) q333), (by exact hC9), (by exact fun _ => hY9)⟩


set_option maxHeartbeats 4000000 in
set_option maxRecDepth 100000 in
theorem rBelow_fn (a : List Int) (b : List Int) (σ : GW)  (v0 v1 : Value) (hv0 : Ty.has (Ty.lst Ty.int a) σ v0) (hv1 : Ty.has (Ty.lst Ty.int b) σ v1)   :
    FnC Try.prog 67 #[v0, v1] σ (Ty.bool (belowL a b)) := by
 refine fn_intro0 Try.func67 rfl Try.ntmps67 (Nat.le_of_ble_eq_true rfl) (fun s0 a0 hle F0 ok0 hargs => ?_)
 have p0 := pA hle (hargs 0 _ rfl) hv0
 have b1 := sl_le p0
 have p1 := pA hle (hargs 1 _ rfl) hv1
 have b2 := sl_le p1
 clear hargs; refine wp_seq ?_
 refine gI a0 s0 ok0 (gC (Ty.bool false) (gE ok0 fun a1 s1 ok1 D1 => ?_)); refine tn (wp_seq (wp_seq ?_))
 refine gI a1 s1 ok1 (gC (Ty.int (0 : Int)) (gE ok1 fun a2 s2 ok2 D2 => ?_)); refine tn (wp_block ?_)
 refine loop (fun n1 a3 w1 => ∃ (t1 : GW) (i : Nat), t1.w = w1 ∧ FromL [] s0 t1 ∧ Ok 41 [] a3 ∧ At (Ty.nat i) t1 a3 (.tmp 5) ∧ At (Ty.lst Ty.int a) t1 a3 (.tmp 0) ∧ At (Ty.lst Ty.int b) t1 a3 (.tmp 1) ∧ (i ≤ a.length) ∧ (i ≤ b.length) ∧ (belowL (a.drop i) (b.drop i) = belowL a b) ∧ n1 = a.length - i) (a.length - (0)) ?_ ?_
 ·
  exact ⟨s2, 0, rfl, ((F0.step0 D1.stp).step0 D2.stp), ok2, (cJ (D2.m 0 rfl)), (D2.k (D1.k p0)), (D2.k (D1.k p1)), by omega, by omega, rfl, rfl⟩
 ·
  rintro n2 a4 w2 ⟨t2, i, rfl, F3, ok3, q6, q7, q8, hi, hi2, hb, rfl⟩
  refine wp_seq (wp_seq ?_)
  refine gI a4 t2 ok3 (gM q6 (gM q7 (gS rfl (fun E G H I J d0 => rP (y_len Try.underlying22 (eI d0))) (gS rfl (fun E G H I J d0 d1 => rP (y_lss (eI d0) (eI d1))) (gS rfl (fun E G H I J d0 => rP (y_move (eI d0))) (gS rfl (fun E G H I J d0 => gu I (eI d0) fun hg => y_move (kp (J 5 rfl) H q6)) (gS rfl (fun E G H I J d0 => gu I (eI d0) fun hg => y_move (kp (J 1 rfl) H q8)) (gS rfl (fun E G H I J d0 d1 => gu I (eI d1) fun hg => y_len Try.underlying22 ((ef d0 rfl).1 hg)) (gS rfl (fun E G H I J d0 d1 d2 => gu I (eI d2) fun hg => y_lss ((ef d0 rfl).1 hg) ((ef d1 rfl).1 hg)) (gS rfl (fun E G H I J d0 d1 => rP (y_pick_and (eI d0) (eI d1) rfl)) (gE ok3 fun a5 s3 ok4 D3 => ?_))))))))))); have F4 := F3.step0 D3.stp; have q9 := D3.k q6; have q10 := D3.k q7; have q11 := D3.k q8; refine tn ?_
  refine cond_t (D3.m 9 rfl) (fun c1 => ?_) (fun c1 => ?_)
  ·
   obtain ⟨d1, d2⟩ := Bool.and_eq_true_iff.mp c1
   replace d1 := of_decide_eq_true d1
   replace d2 := of_decide_eq_true d2
   simp only [Bool.and_eq_true, decide_eq_true_eq] at c1
   refine wp_skip (tn (wp_seq (wp_block (wp_seq ?_))))
   refine gI a5 s3 ok4 (gM q10 (gM q9 (gT (Ty.ref [(Ty.int (a.getD i 0))]) rfl (fun E G H I J d0 d1 => rP (y_index1 Try.underlying22 Try.inf3 (eI d0) (eI d1) oM (lst_get Ty.int a 0 i oM))) (gS rfl (fun E G H I J d0 => rP (y_load Try.underlying3 rfl (eI d0) rfl)) (gM q11 (gM q9 (gT (Ty.ref [(Ty.int (b.getD i 0))]) rfl (fun E G H I J d0 d1 => rP (y_index1 Try.underlying22 Try.inf3 (eI d0) (eI d1) oM (lst_get Ty.int b 0 i oM))) (gS rfl (fun E G H I J d0 => rP (y_load Try.underlying3 rfl (eI d0) rfl)) (gS rfl (fun E G H I J d0 d1 => rP (y_neq (eI d0) (eI d1))) (gE ok4 fun a6 s4 ok5 D4 => ?_)))))))))); have F5 := F4.step0 D4.stp; have q13 := D4.k q9; have q14 := D4.k q10; have q15 := D4.k q11; refine tn ?_
   refine cond_p (p := ((a.getD i 0) ≠ (b.getD i 0))) (D4.m 8 rfl) (fun c2 => ?_) (fun c2 => ?_)
   ·
    refine wp_seq ?_
    refine gI a6 s4 ok5 (gM q14 (gM q13 (gT (Ty.ref [(Ty.int (a.getD i 0))]) rfl (fun E G H I J d0 d1 => rP (y_index1 Try.underlying22 Try.inf3 (eI d0) (eI d1) oM (lst_get Ty.int a 0 i oM))) (gS rfl (fun E G H I J d0 => rP (y_load Try.underlying3 rfl (eI d0) rfl)) (gM q15 (gM q13 (gT (Ty.ref [(Ty.int (b.getD i 0))]) rfl (fun E G H I J d0 d1 => rP (y_index1 Try.underlying22 Try.inf3 (eI d0) (eI d1) oM (lst_get Ty.int b 0 i oM))) (gS rfl (fun E G H I J d0 => rP (y_load Try.underlying3 rfl (eI d0) rfl)) (gS rfl (fun E G H I J d0 d1 => rP (y_lss (eI d0) (eI d1))) (gB 0 (gE ok5 fun a7 s5 ok6 D5 => ?_))))))))))); refine tn (wp_ret (br (tr (tr (br (tr ?_))))))
    exact retL1 rfl ok6 (F5.step0 D5.stp) (cvb (by (exact below_ne hb oM oM (by assumption))) (D5.m 9 rfl))
   ·
    refine wp_skip (bn (tn ?_))
    refine gI a6 s4 ok5 (gM q13 (gT (Ty.int (((i : Nat) : Int) + (1 : Int))) rfl (fun E G H I J d0 => rP (y_add (eI d0) rfl wX)) (gB 0 (gE ok5 fun a8 s6 ok7 D6 => ?_))))
    exact tn ⟨a.length - ((i+1)), by omega, s6, (i+1), rfl, (F5.step0 D6.stp), ok7, (cJ (D6.m 2 rfl)), (D6.k q14), (D6.k q15), by omega, by omega, below_step hb oM oM (by assumption), rfl⟩
  ·
   have hc1 : ¬ (i < a.length ∧ i < b.length) := (by intro h; simp only [Bool.and_eq_false_iff, decide_eq_false_iff_not] at c1; omega)
   refine wp_exit (tx (tx (bx (tn (wp_seq ?_)))))
   refine gI a5 s3 ok4 (gM q10 (gS rfl (fun E G H I J d0 => rP (y_len Try.underlying22 (eI d0))) (gM q11 (gS rfl (fun E G H I J d0 => rP (y_len Try.underlying22 (eI d0))) (gS rfl (fun E G H I J d0 d1 => rP (y_lss (eI d0) (eI d1))) (gB 0 (gE ok4 fun a9 s7 ok8 D7 => ?_))))))); refine tn (wp_ret ?_)
   exact retL1 rfl ok8 (F4.step0 D7.stp) (cvb (by (exact below_end hb oM oM hc1)) (D7.m 5 rfl))


set_option maxHeartbeats 4000000 in
set_option maxRecDepth 100000 in
theorem rOrdered_fn : ∀ (d : Nat) (l : List (List Int)) (σ : GW)  (v0 : Value) (hv0 : Ty.has (Ty.lst Ty.ints l) σ v0)  (hd : d = l.length) (hl : l.length ≤ 1000000), FnC Try.prog 25 #[v0] σ (Ty.lst Ty.ints (ordS l)) := by
 intro d
 induction d using Nat.strongRecOn with
 | _ d ih =>
 intro l σ v0 hv0 hd hl
 refine fn_intro0 Try.func25 rfl Try.ntmps25 (Nat.le_of_ble_eq_true rfl) (fun s0 a0 hle F0 ok0 hargs => ?_)
 have p0 := pA hle (hargs 0 _ rfl) hv0
 have b1 := sl_le p0
 clear hargs; refine wp_seq ?_
 refine gI a0 s0 ok0 (gC (Ty.val (Value.slice none 0 0)) (gE ok0 fun a1 s1 ok1 D1 => ?_)); have q1 := D1.k p0; refine tn (wp_seq (wp_seq ?_))
 refine gI a1 s1 ok1 (gM q1 (gS rfl (fun E G H I J d0 => rP (y_len Try.underlying24 (eI d0))) (gS rfl (fun E G H I J d0 => rP (y_lss (eI d0) rfl)) (gE ok1 fun a2 s2 ok2 D2 => ?_)))); have F2 := (F0.step0 D1.stp).step0 D2.stp; have q2 := D2.k q1; refine tn ?_
 refine cond_p (p := ((((List.length l) : Nat) : Int) < (2 : Int))) (D2.m 2 rfl) (fun c1 => ?_) (fun c1 => ?_)
 ·
  refine wp_seq ?_
  refine gI a2 s2 ok2 (gM q2 (gB 0 (gE ok2 fun a3 s3 ok3 D3 => ?_))); refine tn (wp_ret (tr ?_))
  exact retL1 rfl ok3 (F2.step0 D3.stp) (cvt (by (rw [ordS_small (l := l) oM])) (D3.m 1 rfl))
 ·
  have htl : (List.take (l.length / 2) l).length = l.length / 2 := (by rw [List.length_take]; omega); have hdl : (List.drop (l.length / 2) l).length = l.length - l.length / 2 := List.length_drop; obtain ⟨A, hA⟩ : ∃ A, A = ordS (List.take (l.length / 2) l) := ⟨_, rfl⟩; obtain ⟨B, hB⟩ : ∃ B, B = ordS (List.drop (l.length / 2) l) := ⟨_, rfl⟩; have hAl : A.length = l.length / 2 := (by rw [hA, ordS_len, htl]); have hBl : B.length = l.length - l.length / 2 := (by rw [hB, ordS_len, hdl]); have hT : List.merge A B leL = ordS l := (by rw [hA, hB]; exact (ordS_big (l := l) oM).symm)
  refine wp_skip (tn (wp_seq ?_))
  refine gI a2 s2 ok2 (gM q2 (gM q2 (gS rfl (fun E G H I J d0 => rP (y_len Try.underlying24 (eI d0))) (gT (Ty.nat ((List.length l) / 2)) rfl (fun E G H I J d0 => rP (y_quoN (eI d0) (toN (σ := G) rfl oM) oM oM)) (gT (Ty.lst Ty.ints (l.take ((List.length l) / 2))) rfl (fun E G H I J d0 d1 => rP (y_take Try.underlying24 Try.inf22 (eI d0) (eI d1) oM)) (gT (Ty.lst Ty.ints A) rfl (fun E G H I J d0 => rP ((y_call _ Try.func25 rfl rfl my1 (ih (((l.take ((List.length l) / 2))).length) oM ((l.take ((List.length l) / 2))) _ _ (eI d0) oX oX)).mono (fun τ _ h => cvt (σ := τ) (T := (Ty.lst Ty.ints (ordS ((l.take ((List.length l) / 2)))))) (U := (Ty.lst Ty.ints A)) (by rw [hA]) h))) (gB 0 (gE ok2 fun a4 s4 ok4 D4 => ?_)))))))); have q5 := D4.k q2; refine tn (wp_seq ?_)
  refine gI a4 s4 ok4 (gM q5 (gM q5 (gS rfl (fun E G H I J d0 => rP (y_len Try.underlying24 (eI d0))) (gT (Ty.nat ((List.length l) / 2)) rfl (fun E G H I J d0 => rP (y_quoN (eI d0) (toN (σ := G) rfl oM) oM oM)) (gT (Ty.lst Ty.ints (l.drop ((List.length l) / 2))) rfl (fun E G H I J d0 d1 => rP (y_drop Try.underlying24 Try.inf22 (eI d0) (eI d1) oM)) (gT (Ty.lst Ty.ints B) rfl (fun E G H I J d0 => rP ((y_call _ Try.func25 rfl rfl my1 (ih (((l.drop ((List.length l) / 2))).length) oM ((l.drop ((List.length l) / 2))) _ _ (eI d0) oX oX)).mono (fun τ _ h => cvt (σ := τ) (T := (Ty.lst Ty.ints (ordS ((l.drop ((List.length l) / 2)))))) (U := (Ty.lst Ty.ints B)) (by rw [hB]) h))) (gB 0 (gE ok4 fun a5 s5 ok5 D5 => ?_)))))))); refine tn (wp_seq ?_)
  refine gI a5 s5 ok5 (gC (Ty.val (Value.slice none 0 0)) (gE ok5 fun a6 s6 ok6 D6 => ?_)); refine tn (wp_seq ?_)
  refine gI a6 s6 ok6 (gC (Ty.int (0 : Int)) (gE ok6 fun a7 s7 ok7 D7 => ?_)); refine tn (wp_seq ?_)
  refine gI a7 s7 ok7 (gC (Ty.int (0 : Int)) (gE ok7 fun a8 s8 ok8 D8 => ?_)); refine tn (wp_seq (wp_block ?_))
  have o1 : Own s8 5 22 1 (Value.slice none 0 0) 0 (List.map Ty.ints ([] : List (List Int))) := Own.nil _ _ _ _
  refine loop (fun n1 a9 w1 => ∃ (t1 : GW) (i : Nat) (k : Nat) (out : List (List Int)) (x5_0 : Value), t1.w = w1 ∧ FromL [] s0 t1 ∧ Ok 75 [] a9 ∧ At (Ty.nat i) t1 a9 (.tmp 6) ∧ At (Ty.nat k) t1 a9 (.tmp 7) ∧ At (Ty.val x5_0) t1 a9 (.tmp 5) ∧ At (Ty.lst Ty.ints A) t1 a9 (.tmp 3) ∧ At (Ty.lst Ty.ints B) t1 a9 (.tmp 4) ∧ Own t1 5 22 1 x5_0 (List.length out) (List.map Ty.ints out) ∧ (out ++ List.merge (A.drop i) (B.drop k) leL = ordS l) ∧ (i ≤ A.length) ∧ (k ≤ B.length) ∧ (out.length = i + k) ∧ n1 = (A.length + B.length) - (i + k)) ((A.length + B.length) - ((0) + (0))) ?_ ?_
  ·
   exact ⟨s8, 0, 0, ([] : List (List Int)), (Value.slice none 0 0), rfl, (((((F2.step0 D4.stp).step0 D5.stp).step0 D6.stp).step0 D7.stp).step0 D8.stp), ok8, (cvi (by (rfl)) (D8.k (D7.m 0 rfl))), (cvi (by (rfl)) (D8.m 0 rfl)), (D8.k (D7.k (D6.m 0 rfl))), (D8.k (D7.k (D6.k (D5.k (D4.m 6 rfl))))), (D8.k (D7.k (D6.k (D5.m 6 rfl)))), (cvo (by (simp)) (by (simp)) o1), by rw [List.nil_append]; exact hT, by omega, by omega, rfl, rfl⟩
  ·
   rintro n2 a10 w2 ⟨t2, i, k, out, x5_0, rfl, F9, ok9, q21, q22, q23, q24, q25, o2, ho, hi, hk, hol, rfl⟩
   refine wp_seq (wp_seq ?_)
   refine gI a10 t2 ok9 (gM q21 (gM q24 (gS rfl (fun E G H I J d0 => rP (y_len Try.underlying24 (eI d0))) (gS rfl (fun E G H I J d0 d1 => rP (y_lss (eI d0) (eI d1))) (gS rfl (fun E G H I J d0 => rP (y_move (eI d0))) (gS rfl (fun E G H I J d0 => gu I (eI d0) fun hg => y_move (kp (J 7 rfl) H q22)) (gS rfl (fun E G H I J d0 => gu I (eI d0) fun hg => y_move (kp (J 4 rfl) H q25)) (gS rfl (fun E G H I J d0 d1 => gu I (eI d1) fun hg => y_len Try.underlying24 ((ef d0 rfl).1 hg)) (gS rfl (fun E G H I J d0 d1 d2 => gu I (eI d2) fun hg => y_lss ((ef d0 rfl).1 hg) ((ef d1 rfl).1 hg)) (gS rfl (fun E G H I J d0 d1 => rP (y_pick_or (eI d0) rfl (eI d1))) (gE ok9 fun a11 s9 ok10 D9 => ?_))))))))))); have F10 := F9.step0 D9.stp; have q26 := D9.k q21; have q27 := D9.k q22; have q28 := D9.k q23; have q29 := D9.k q24; have q30 := D9.k q25; have o3 := Own.k0 o2 D9.stp; refine tn ?_
   refine cond_t (D9.m 9 rfl) (fun c2 => ?_) (fun c2 => ?_)
   ·
    have hq2 : i < A.length ∨ k < B.length := (by simp only [Bool.or_eq_true, decide_eq_true_eq] at c2; omega)
    refine wp_skip (tn (wp_block (wp_seq ?_)))
    refine gI a11 s9 ok10 (gM q26 (gM q29 (gS rfl (fun E G H I J d0 => rP (y_len Try.underlying24 (eI d0))) (gS rfl (fun E G H I J d0 d1 => rP (y_lss (eI d0) (eI d1))) (gS rfl (fun E G H I J d0 => rP (y_move (eI d0))) (gS rfl (fun E G H I J d0 => gu I (eI d0) fun hg => y_move (kp (J 7 rfl) H q27)) (gS rfl (fun E G H I J d0 => gu I (eI d0) fun hg => y_move (kp (J 4 rfl) H q30)) (gS rfl (fun E G H I J d0 d1 => gu I (eI d1) fun hg => y_len Try.underlying24 ((ef d0 rfl).1 hg)) (gS rfl (fun E G H I J d0 d1 d2 => gu I (eI d2) fun hg => y_eql ((ef d0 rfl).1 hg) ((ef d1 rfl).1 hg)) (gS rfl (fun E G H I J d0 d1 d2 => gu I (eI d1) fun hg => y_mv ((ef d0 rfl).1 hg)) (gS rfl (fun E G H I J d0 => gu2 I (eI d0) fun hg => y_move (kp (J 4 rfl) H q30)) (gS rfl (fun E G H I J d0 => gu2 I (eI d0) fun hg => y_move (kp (J 7 rfl) H q27)) (gT (Ty.grd (((decide (((i : Nat) : Int) < (((List.length A) : Nat) : Int))) = true) ∧ (decide (((k : Nat) : Int) = (((List.length B) : Nat) : Int))) = false) (Ty.ref [(Ty.lst Ty.int (B.getD k []))])) rfl (by intro E G H I J d0 d1 d2; refine run_guard2 I rfl rfl dE (eI d2) (fun hg => ?_); have hp := of_decide_eq_false hg.2; have hp0 := hg.1; try simp only [Bool.and_eq_true, Bool.or_eq_true, decide_eq_true_eq, decide_eq_false_iff_not] at hp0; exact y_index1 Try.underlying24 Try.inf22 ((ef d0 rfl).1 hg) ((ef d1 rfl).1 hg) oM (lst_get Ty.ints B [] k oM)) (gS rfl (fun E G H I J d0 d1 => gu2 I (eI d1) fun hg => y_load Try.underlying22 rfl ((ef d0 rfl).1 hg) rfl) (gS rfl (fun E G H I J d0 => gu2 I (eI d0) fun hg => y_move (kp (J 3 rfl) H q29)) ?_)))))))))))))))
    refine gS rfl (fun E G H I J d0 => gu2 I (eI d0) fun hg => y_move (kp (J 6 rfl) H q26)) (gT (Ty.grd (((decide (((i : Nat) : Int) < (((List.length A) : Nat) : Int))) = true) ∧ (decide (((k : Nat) : Int) = (((List.length B) : Nat) : Int))) = false) (Ty.ref [(Ty.lst Ty.int (A.getD i []))])) rfl (by intro E G H I J d0 d1 d2; refine run_guard2 I rfl rfl dE (eI d2) (fun hg => ?_); have hp := of_decide_eq_false hg.2; have hp0 := hg.1; try simp only [Bool.and_eq_true, Bool.or_eq_true, decide_eq_true_eq, decide_eq_false_iff_not] at hp0; exact y_index1 Try.underlying24 Try.inf22 ((ef d0 rfl).1 hg) ((ef d1 rfl).1 hg) oM (lst_get Ty.ints A [] i oM)) (gS rfl (fun E G H I J d0 d1 => gu2 I (eI d1) fun hg => y_load Try.underlying22 rfl ((ef d0 rfl).1 hg) rfl) (gT (Ty.grd (((decide (((i : Nat) : Int) < (((List.length A) : Nat) : Int))) = true) ∧ (decide (((k : Nat) : Int) = (((List.length B) : Nat) : Int))) = false) (Ty.bool (belowL ((B.getD k [])) ((A.getD i []))))) rfl (by intro E G H I J d0 d1 d2 d3; refine run_guard2 I rfl rfl dE (eI d2) (fun hg => ?_); have hp := of_decide_eq_false hg.2; have hp0 := hg.1; try simp only [Bool.and_eq_true, Bool.or_eq_true, decide_eq_true_eq, decide_eq_false_iff_not] at hp0; exact y_call _ Try.func67 rfl rfl my2 (rBelow_fn ((B.getD k [])) ((A.getD i [])) _ _ _ ((ef d0 rfl).1 hg) ((ef d1 rfl).1 hg) )) (gS rfl (fun E G H I J d0 d1 => gu2 I (eI d1) fun hg => y_not ((ef d0 rfl).1 hg)) (gS rfl (fun E G H I J d0 d1 d2 => gu I (eI d2) fun hg => y_pick_or ((ef d0 rfl).1 hg) rfl (grd_part hg (eI d1))) (gS rfl (fun E G H I J d0 d1 => rP (y_pick_and (eI d0) (eI d1) rfl)) ?_))))))
    refine gE ok10 fun a12 s10 ok11 D10 => ?_; have F11 := F10.step0 D10.stp; have q32 := D10.k q26; have q33 := D10.k q27; have q34 := D10.k q28; have q35 := D10.k q29; have q36 := D10.k q30; have o4 := Own.k0 o3 D10.stp; refine tn ?_
    refine cond_t (D10.m 21 rfl) (fun c3 => ?_) (fun c3 => ?_)
    ·
     obtain ⟨d1, d2⟩ := Bool.and_eq_true_iff.mp c3
     replace d1 := of_decide_eq_true d1
     simp only [Bool.and_eq_true, Bool.or_eq_true, Bool.not_eq_true', decide_eq_true_eq] at c3; have hiA : i < A.length := oM; have hx : B.length ≤ k ∨ belowL (B.getD k []) (A.getD i []) = false := (by rcases c3 with ⟨_, h_ | h_⟩; exact .inl oM; exact .inr h_)
     refine wp_seq ?_
     refine gI a12 s10 ok11 (gM q34 (gM q35 (gM q32 (gT (Ty.ref [(Ty.lst Ty.int (A.getD i []))]) rfl (fun E G H I J d0 d1 => rP (y_index1 Try.underlying24 Try.inf22 (eI d0) (eI d1) oM (lst_get Ty.ints A [] i oM))) (gS rfl (fun E G H I J d0 => rP (y_load Try.underlying22 rfl (eI d0) rfl)) (gT (Ty.sl 1 1 [(Ty.lst Ty.int (A.getD i []))]) rfl (fun E G H I J d0 => rP (y_build1o Try.underlying24 Try.inf22 rfl (one_sl) (eI d0))) (gE2 ok11 fun a13 s11 ok12 D11 => ?_))))))); have o5 := Own.k0 o4 D11.stp
     have q43 : At (Ty.val x5_0) s11 a13 (.tmp 56) := D11.done 0 dE
     have q44 := D11.m 5 rfl
     have b2 := sl_le q44
     refine tL ok12 (YldM.toL (m_append Try.underlying24 Try.inf22 dE rfl dE (al (R := (Pr.own 5 22 1 (List.length out) (List.map Ty.ints out))) q43 o5) q44 (by intro U hU; simp at hU; subst hU; exact one_sl) oM oM)) fun a14 s12 hs1 ok13 r1 sm1 => ?_
     have q47 := kq hs1 sm1 5 (D11.k q34)
     obtain ⟨x1, hx1⟩ : ∃ x, a14.eval (.tmp 62) = x := ⟨_, rfl⟩
     have q50 : At (Ty.val x1) s12 a14 (.tmp 62) := hx1
     have o6 := al2 (R := (Pr.own 5 22 1 (List.length (out ++ [(A.getD i [])])) (List.map Ty.ints (out ++ [(A.getD i [])])))) hx1 (cvo (by simp) (by first | (rw [List.map_append]; rfl) | simp) r1)
     clear r1
     refine tL ok13 (Yld.toL (y_as q50)) fun a15 s13 hs2 ok14 r2 sm2 => ?_
     have q55 : At (Ty.val x1) s13 a15 (.tmp 5) := r2
     clear r2; refine wpList_nil (tn ?_)
     refine gI a15 s13 ok14 (gM (kq hs2 sm2 6 (kq hs1 sm1 6 (D11.k q32))) (gT (Ty.nat (i + 1)) rfl (fun E G H I J d0 => rP ((y_add (eI d0) rfl wX).mono (fun τ _ h => cN (σ := τ) h))) (gB 0 (gE ok14 fun a16 s14 ok15 D12 => ?_)))); have o8 := Own.k0 (Own.kl o6 hs2) D12.stp; refine bn ?_
     exact tn ⟨(A.length + B.length) - (((i + 1)) + k), by omega, s14, (i + 1), k, (out ++ [(A.getD i [])]), x1, rfl, ((((F11.step0 D11.stp).sl hs1).sl hs2).step0 D12.stp), ok15, (cJ (D12.m 2 rfl)), (D12.k (kq hs2 sm2 7 (kq hs1 sm1 7 (D11.k q33)))), (D12.k q55), (D12.k (kq hs2 sm2 3 (kq hs1 sm1 3 (D11.k q35)))), (D12.k (kq hs2 sm2 4 (kq hs1 sm1 4 (D11.k q36)))), (cvo (by (simp)) (by (simp)) o8), out_left ho oM hx, by omega, by omega, by rw [List.length_append, List.length_singleton]; omega, rfl⟩
    ·
     simp only [Bool.and_eq_false_iff, Bool.or_eq_false_iff, Bool.not_eq_false', decide_eq_false_iff_not] at c3; have hkB : k < B.length := oM; have hx : A.length ≤ i ∨ belowL (B.getD k []) (A.getD i []) = true := (by rcases c3 with h_ | ⟨_, h_⟩; exact .inl oM; exact .inr h_)
     refine wp_seq ?_
     refine gI a12 s10 ok11 (gM q34 (gM q36 (gM q33 (gT (Ty.ref [(Ty.lst Ty.int (B.getD k []))]) rfl (fun E G H I J d0 d1 => rP (y_index1 Try.underlying24 Try.inf22 (eI d0) (eI d1) oM (lst_get Ty.ints B [] k oM))) (gS rfl (fun E G H I J d0 => rP (y_load Try.underlying22 rfl (eI d0) rfl)) (gT (Ty.sl 1 1 [(Ty.lst Ty.int (B.getD k []))]) rfl (fun E G H I J d0 => rP (y_build1o Try.underlying24 Try.inf22 rfl (one_sl) (eI d0))) (gE2 ok11 fun a17 s15 ok16 D13 => ?_))))))); have o9 := Own.k0 o4 D13.stp
     have q66 : At (Ty.val x5_0) s15 a17 (.tmp 65) := D13.done 0 dE
     have q67 := D13.m 5 rfl
     have b3 := sl_le q67
     refine tL ok16 (YldM.toL (m_append Try.underlying24 Try.inf22 dE rfl dE (al (R := (Pr.own 5 22 1 (List.length out) (List.map Ty.ints out))) q66 o9) q67 (by intro U hU; simp at hU; subst hU; exact one_sl) oM oM)) fun a18 s16 hs3 ok17 r3 sm3 => ?_
     have q70 := kq hs3 sm3 5 (D13.k q34)
     obtain ⟨x2, hx2⟩ : ∃ x, a18.eval (.tmp 71) = x := ⟨_, rfl⟩
     have q73 : At (Ty.val x2) s16 a18 (.tmp 71) := hx2
     have o10 := al2 (R := (Pr.own 5 22 1 (List.length (out ++ [(B.getD k [])])) (List.map Ty.ints (out ++ [(B.getD k [])])))) hx2 (cvo (by simp) (by first | (rw [List.map_append]; rfl) | simp) r3)
     clear r3
     refine tL ok17 (Yld.toL (y_as q73)) fun a19 s17 hs4 ok18 r4 sm4 => ?_
     have q78 : At (Ty.val x2) s17 a19 (.tmp 5) := r4
     clear r4; refine wpList_nil (tn ?_)
     refine gI a19 s17 ok18 (gM (kq hs4 sm4 7 (kq hs3 sm3 7 (D13.k q33))) (gT (Ty.nat (k + 1)) rfl (fun E G H I J d0 => rP ((y_add (eI d0) rfl wX).mono (fun τ _ h => cN (σ := τ) h))) (gB 0 (gE ok18 fun a20 s18 ok19 D14 => ?_)))); have o12 := Own.k0 (Own.kl o10 hs4) D14.stp; refine bn ?_
     exact tn ⟨(A.length + B.length) - (i + ((k + 1))), by omega, s18, i, (k + 1), (out ++ [(B.getD k [])]), x2, rfl, ((((F11.step0 D13.stp).sl hs3).sl hs4).step0 D14.stp), ok19, (D14.k (kq hs4 sm4 6 (kq hs3 sm3 6 (D13.k q32)))), (cJ (D14.m 2 rfl)), (D14.k q78), (D14.k (kq hs4 sm4 3 (kq hs3 sm3 3 (D13.k q35)))), (D14.k (kq hs4 sm4 4 (kq hs3 sm3 4 (D13.k q36)))), (cvo (by (simp)) (by (simp)) o12), out_right ho oM hx, by omega, by omega, by rw [List.length_append, List.length_singleton]; omega, rfl⟩
   ·
    obtain ⟨d3, d4⟩ := Bool.or_eq_false_iff.mp c2
    replace d3 := of_decide_eq_false d3
    replace d4 := of_decide_eq_false d4
    have hq2 : A.length ≤ i ∧ B.length ≤ k := (by simp only [Bool.or_eq_false_iff, decide_eq_false_iff_not] at c2; omega)
    refine wp_exit (tx (tx (bx (tn (wp_seq ?_)))))
    refine gI a11 s9 ok10 (gM q28 (gB 0 (gE ok10 fun a21 s19 ok20 D15 => ?_))); have o13 := Own.k0 o3 D15.stp
    have q84 : At (Ty.val x5_0) s19 a21 (.tmp 2) := D15.done 1
    refine tn (wp_ret ?_)
    obtain ⟨t3, e1, h1, q85⟩ := Own.seal o13 dE
    rw [← e1]
    have F21 := (F10.step0 D15.stp).step h1 dE
    have q86 : At (Ty.lst Ty.ints out) t3 a21 (.tmp 2) := by have e : a21.eval (.tmp 2) = x5_0 := q84; show Ty.has _ _ _; rw [e]; exact q85
    exact retL1 rfl ok20 F21 (cvt (by (rw [out_end ho oM oM])) q86)


set_option maxHeartbeats 4000000 in
set_option maxRecDepth 100000 in
theorem rSameAll_fn (a : List (List Int)) (b : List (List Int)) (σ : GW)  (v0 v1 : Value) (hv0 : Ty.has (Ty.lst Ty.ints a) σ v0) (hv1 : Ty.has (Ty.lst Ty.ints b) σ v1)   :
    FnC Try.prog 29 #[v0, v1] σ (Ty.bool (decide (a = b))) := by
 refine fn_intro0 Try.func29 rfl Try.ntmps29 (Nat.le_of_ble_eq_true rfl) (fun s0 a0 hle F0 ok0 hargs => ?_)
 have p0 := pA hle (hargs 0 _ rfl) hv0
 have b1 := sl_le p0
 have p1 := pA hle (hargs 1 _ rfl) hv1
 have b2 := sl_le p1
 clear hargs; refine wp_seq ?_
 refine gI a0 s0 ok0 (gC (Ty.bool false) (gE ok0 fun a1 s1 ok1 D1 => ?_)); have q1 := D1.k p0; have q2 := D1.k p1; refine tn (wp_seq (wp_seq ?_))
 refine gI a1 s1 ok1 (gM q1 (gS rfl (fun E G H I J d0 => rP (y_len Try.underlying24 (eI d0))) (gM q2 (gS rfl (fun E G H I J d0 => rP (y_len Try.underlying24 (eI d0))) (gS rfl (fun E G H I J d0 d1 => rP (y_neq (eI d0) (eI d1))) (gE ok1 fun a2 s2 ok2 D2 => ?_)))))); have F2 := (F0.step0 D1.stp).step0 D2.stp; refine tn ?_
 refine cond_p (p := ((((List.length a) : Nat) : Int) ≠ (((List.length b) : Nat) : Int))) (D2.m 4 rfl) (fun c1 => ?_) (fun c1 => ?_)
 ·
  refine wp_seq ?_
  refine gI a2 s2 ok2 (gC (Ty.bool false) (gE ok2 fun a3 s3 ok3 D3 => ?_)); refine tn (wp_ret (tr ?_))
  exact retL1 rfl ok3 (F2.step0 D3.stp) (cvb (by (rw [decide_eq_false]; intro e; subst e; omega)) (D3.m 0 rfl))
 ·
  refine wp_skip (tn (wp_seq (wp_seq ?_)))
  refine gI a2 s2 ok2 (gC (Ty.int (0 : Int)) (gE ok2 fun a4 s4 ok4 D4 => ?_)); refine tn (wp_block ?_)
  refine loop (fun n1 a5 w1 => ∃ (t1 : GW) (k : Nat), t1.w = w1 ∧ FromL [] s0 t1 ∧ Ok 29 [] a5 ∧ At (Ty.nat k) t1 a5 (.tmp 5) ∧ At (Ty.lst Ty.ints a) t1 a5 (.tmp 0) ∧ At (Ty.lst Ty.ints b) t1 a5 (.tmp 1) ∧ (k ≤ a.length) ∧ (a.length = b.length) ∧ (∀ j, j < k → a.getD j [] = b.getD j []) ∧ n1 = a.length - k) (a.length - (0)) ?_ ?_
  ·
   exact ⟨s4, 0, rfl, (F2.step0 D4.stp), ok4, (cJ (D4.m 0 rfl)), (D4.k (D2.k q1)), (D4.k (D2.k q2)), by omega, by omega, fun j hj => absurd hj (Nat.not_lt_zero j), rfl⟩
  ·
   rintro n2 a6 w2 ⟨t2, k, rfl, F5, ok5, q10, q11, q12, hk, hl, heq, rfl⟩
   refine wp_seq (wp_seq ?_)
   refine gI a6 t2 ok5 (gM q10 (gM q11 (gS rfl (fun E G H I J d0 => rP (y_len Try.underlying24 (eI d0))) (gS rfl (fun E G H I J d0 d1 => rP (y_lss (eI d0) (eI d1))) (gE ok5 fun a7 s5 ok6 D5 => ?_))))); have F6 := F5.step0 D5.stp; have q13 := D5.k q10; have q14 := D5.k q11; have q15 := D5.k q12; refine tn ?_
   refine cond_p (p := (((k : Nat) : Int) < (((List.length a) : Nat) : Int))) (D5.m 3 rfl) (fun c2 => ?_) (fun c2 => ?_)
   ·
    refine wp_skip (tn (wp_seq (wp_block (wp_seq ?_))))
    refine gI a7 s5 ok6 (gM q14 (gM q13 (gT (Ty.ref [(Ty.lst Ty.int (a.getD k []))]) rfl (fun E G H I J d0 d1 => rP (y_index1 Try.underlying24 Try.inf22 (eI d0) (eI d1) oM (lst_get Ty.ints a [] k oM))) (gS rfl (fun E G H I J d0 => rP (y_load Try.underlying22 rfl (eI d0) rfl)) (gM q15 (gM q13 (gT (Ty.ref [(Ty.lst Ty.int (b.getD k []))]) rfl (fun E G H I J d0 d1 => rP (y_index1 Try.underlying24 Try.inf22 (eI d0) (eI d1) oM (lst_get Ty.ints b [] k oM))) (gS rfl (fun E G H I J d0 => rP (y_load Try.underlying22 rfl (eI d0) rfl)) (gS rfl (fun E G H I J d0 d1 => rP (y_call _ Try.func37 rfl rfl my2 (rsame_fn ((a.getD k [])) ((b.getD k [])) _ _ _ (eI d0) (eI d1) ))) (gB 0 (gE ok6 fun a8 s6 ok7 D6 => ?_))))))))))); refine tn (wp_seq ?_)
    refine gI a8 s6 ok7 (gM (D6.m 9 rfl) (gS rfl (fun E G H I J d0 => rP (y_not (eI d0))) (gE ok7 fun a9 s7 ok8 D7 => ?_))); have F8 := (F6.step0 D6.stp).step0 D7.stp; refine tn ?_
    refine cond_t (D7.m 1 rfl) (fun c3 => ?_) (fun c3 => ?_)
    ·
     refine wp_seq ?_
     refine gI a9 s7 ok8 (gC (Ty.bool false) (gE ok8 fun a10 s8 ok9 D8 => ?_)); refine tn (wp_ret (br (tr (tr (br (tr ?_))))))
     exact retL1 rfl ok9 (F8.step0 D8.stp) (cvb (by (exact (decide_eq_false (fun e => by subst e; simp at c3)).symm)) (D8.m 0 rfl))
    ·
     refine wp_skip (bn (tn ?_))
     refine gI a9 s7 ok8 (gM (D7.k (D6.k q13)) (gT (Ty.int (((k : Nat) : Int) + (1 : Int))) rfl (fun E G H I J d0 => rP (y_add (eI d0) rfl wX)) (gB 0 (gE ok8 fun a11 s9 ok10 D9 => ?_))))
     exact tn ⟨a.length - ((k+1)), by omega, s9, (k+1), rfl, (F8.step0 D9.stp), ok10, (cJ (D9.m 2 rfl)), (D9.k (D7.k (D6.k q14))), (D9.k (D7.k (D6.k q15))), by omega, by omega, all_snocs heq (by simpa using c3), rfl⟩
   ·
    refine wp_exit (tx (tx (bx (tn (wp_seq ?_)))))
    refine gI a7 s5 ok6 (gC (Ty.bool true) (gE ok6 fun a12 s10 ok11 D10 => ?_)); refine tn (wp_ret ?_)
    exact retL1 rfl ok11 (F6.step0 D10.stp) (cvb (by (exact (decide_eq_true (lists_ext oM (fun j hj => heq j oM))).symm)) (D10.m 0 rfl))


end Go.Proofs.Ytkjifbgofckfeaa
