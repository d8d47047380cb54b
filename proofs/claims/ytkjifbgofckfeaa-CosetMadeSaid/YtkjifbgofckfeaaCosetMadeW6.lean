/- The functions that the law CosetMade reaches, each by its contract. Part 6. -/
import Derived.Test.YtkjifbgofckfeaaCosetMadeW5
namespace Go.Proofs.Ytkjifbgofckfeaa
open Go.KL

set_option maxHeartbeats 4000000 in
set_option maxRecDepth 100000 in
theorem rRank_fn (r : List Int) (σ : GW)  (v0 : Value) (hv0 : Ty.has (Ty.lst Ty.int r) σ v0)  (hr : IsRow r) :
    FnC Try.prog 21 #[v0] σ (Ty.nat (rankL r)) := by
 have hln := hr.le
 refine fn_intro0 Try.func21 rfl Try.ntmps21 (Nat.le_of_ble_eq_true rfl) (fun s0 a0 hle F0 ok0 hargs => ?_)
 have p0 := pA hle (hargs 0 _ rfl) hv0
 have b1 := sl_le p0
 clear hargs; refine wp_seq ?_
 refine gI a0 s0 ok0 (gC (Ty.int (0 : Int)) (gE ok0 fun a1 s1 ok1 D1 => ?_)); refine tn (wp_seq ?_)
 refine gI a1 s1 ok1 (gC (Ty.int (0 : Int)) (gE ok1 fun a2 s2 ok2 D2 => ?_)); refine tn (wp_seq (wp_seq ?_))
 refine gI a2 s2 ok2 (gC (Ty.int (0 : Int)) (gE ok2 fun a3 s3 ok3 D3 => ?_)); refine tn (wp_block ?_)
 refine loop (fun n1 a4 w1 => ∃ (t1 : GW) (i : Nat) (q : Nat), t1.w = w1 ∧ FromL [] s0 t1 ∧ Ok 44 [] a4 ∧ At (Ty.nat i) t1 a4 (.tmp 4) ∧ At (Ty.nat q) t1 a4 (.tmp 3) ∧ At (Ty.lst Ty.int r) t1 a4 (.tmp 0) ∧ (i ≤ r.length) ∧ (q + rankL (r.drop i) = rankL r) ∧ n1 = r.length - i) (r.length - (0)) ?_ ?_
 ·
  exact ⟨s3, 0, 0, rfl, (((F0.step0 D1.stp).step0 D2.stp).step0 D3.stp), ok3, (cvi (by (first | rfl | omega | (simp_all; done) | (simp_all; omega))) (D3.m 0 rfl)), (cvi (by (first | rfl | omega | (simp_all; done) | (simp_all; omega))) (D3.k (D2.m 0 rfl))), (D3.k (D2.k (D1.k p0))), by omega, by simp, rfl⟩
 ·
  rintro n2 a5 w2 ⟨t2, i, q, rfl, F4, ok4, q7, q8, q9, hi, hq, rfl⟩
  have hrl := rank_le12 hln
  refine wp_seq (wp_seq ?_)
  refine gI a5 t2 ok4 (gM q7 (gM q9 (gS rfl (fun A B E G H d0 => rP (y_len Try.underlying22 (ef d0 rfl))) (gS rfl (fun A B E G H d0 d1 => rP (y_lss (ef d0 rfl) (ef d1 rfl))) (gE ok4 fun a6 s4 ok5 D4 => ?_))))); have F5 := F4.step0 D4.stp; have q10 := D4.k q7; have q11 := D4.k q8; have q12 := D4.k q9; refine tn ?_
  refine cond_p (p := (((i : Nat) : Int) < (((List.length r) : Nat) : Int))) (D4.m 3 rfl) (fun c1 => ?_) (fun c1 => ?_)
  ·
   have hmb := rank_mul hln (by omega) hq; have hbd := hr.at (i := i) (by omega)
   refine wp_skip (tn (wp_seq (wp_block (wp_seq ?_))))
   refine gI a6 s4 ok5 (gM q12 (gM q10 (gT (Ty.ref [(Ty.int (r.getD i 0))]) rfl (fun A B E G H d0 d1 => rP (y_index1 Try.underlying22 Try.inf3 (ef d0 rfl) (ef d1 rfl) (by omega) (lst_get Ty.int r 0 i (by omega)))) (gS rfl (fun A B E G H d0 => rP (y_load Try.underlying3 rfl (ef d0 rfl) rfl)) (gB 0 (gE ok5 fun a7 s5 ok6 D5 => ?_)))))); refine tn (wp_seq (wp_seq ?_))
   refine gI a7 s5 ok6 (gC (Ty.int (0 : Int)) (gE ok6 fun a8 s6 ok7 D6 => ?_)); refine tn (wp_block ?_)
   refine loop (fun n3 a9 w3 => ∃ (t3 : GW) (j : Nat), t3.w = w3 ∧ FromL [] s0 t3 ∧ Ok 44 [] a9 ∧ At (Ty.nat j) t3 a9 (.tmp 6) ∧ At (Ty.int (r.getD i 0 - ((lessN (r.getD i 0) (r.take j) : Nat) : Int))) t3 a9 (.tmp 5) ∧ At (Ty.nat i) t3 a9 (.tmp 4) ∧ At (Ty.nat q) t3 a9 (.tmp 3) ∧ At (Ty.lst Ty.int r) t3 a9 (.tmp 0) ∧ (j ≤ i) ∧ n3 = i - j) (i - (0)) ?_ ?_
   ·
    exact ⟨s6, 0, rfl, ((F5.step0 D5.stp).step0 D6.stp), ok7, (cvi (by (first | rfl | omega | (simp_all; done) | (simp_all; omega))) (D6.m 0 rfl)), (cvi (by (simp [lessN])) (D6.k (D5.m 4 rfl))), (D6.k (D5.k q10)), (D6.k (D5.k q11)), (D6.k (D5.k q12)), by omega, rfl⟩
   ·
    rintro n4 a10 w4 ⟨t4, j, rfl, F8, ok8, q23, q24, q25, q26, q27, hj, rfl⟩
    have hll := lessN_le (r.getD i 0) (r.take j)
    have htl := List.length_take_le j r
    refine wp_seq (wp_seq ?_)
    refine gI a10 t4 ok8 (gM q23 (gM q25 (gS rfl (fun A B E G H d0 d1 => rP (y_lss (ef d0 rfl) (ef d1 rfl))) (gE ok8 fun a11 s7 ok9 D7 => ?_)))); have F9 := F8.step0 D7.stp; have q28 := D7.k q23; have q29 := D7.k q24; have q30 := D7.k q25; have q31 := D7.k q26; have q32 := D7.k q27; refine tn ?_
    refine cond_p (p := (((j : Nat) : Int) < ((i : Nat) : Int))) (D7.m 2 rfl) (fun c2 => ?_) (fun c2 => ?_)
    ·
     refine wp_skip (tn (wp_seq (wp_block (wp_seq ?_))))
     refine gI a11 s7 ok9 (gM q32 (gM q28 (gT (Ty.ref [(Ty.int (r.getD j 0))]) rfl (fun A B E G H d0 d1 => rP (y_index1 Try.underlying22 Try.inf3 (ef d0 rfl) (ef d1 rfl) (by omega) (lst_get Ty.int r 0 j (by omega)))) (gS rfl (fun A B E G H d0 => rP (y_load Try.underlying3 rfl (ef d0 rfl) rfl)) (gM q32 (gM q30 (gT (Ty.ref [(Ty.int (r.getD i 0))]) rfl (fun A B E G H d0 d1 => rP (y_index1 Try.underlying22 Try.inf3 (ef d0 rfl) (ef d1 rfl) (by omega) (lst_get Ty.int r 0 i (by omega)))) (gS rfl (fun A B E G H d0 => rP (y_load Try.underlying3 rfl (ef d0 rfl) rfl)) (gS rfl (fun A B E G H d0 d1 => rP (y_lss (ef d0 rfl) (ef d1 rfl))) (gE ok9 fun a12 s8 ok10 D8 => ?_)))))))))); have F10 := F9.step0 D8.stp; have q34 := D8.k q28; have q35 := D8.k q29; have q36 := D8.k q30; have q37 := D8.k q31; have q38 := D8.k q32; refine tn ?_
     refine cond_p (p := ((r.getD j 0) < (r.getD i 0))) (D8.m 8 rfl) (fun c3 => ?_) (fun c3 => ?_)
     ·
      refine gI a12 s8 ok10 (gM q35 (gT (Ty.int ((r.getD i 0 - ((lessN (r.getD i 0) (r.take j) : Nat) : Int)) - (1 : Int))) rfl (fun A B E G H d0 => rP (y_sub (ef d0 rfl) rfl (w64 (by omega) (by omega)))) (gB 0 (gE ok10 fun a13 s9 ok11 D9 => ?_)))); refine bn (tn ?_)
      refine gI a13 s9 ok11 (gM (D9.k q34) (gT (Ty.nat (j + 1)) rfl (fun A B E G H d0 => rP ((y_add (ef d0 rfl) rfl (w64 (by omega) (by omega))).mono (fun τ _ h => cvi (σ := τ) (by first | omega | exact (Int.natCast_mul _ _).symm) h))) (gB 0 (gE ok11 fun a14 s10 ok12 D10 => ?_))))
      exact tn ⟨i - ((j+1)), by omega, s10, (j+1), rfl, ((F10.step0 D9.stp).step0 D10.stp), ok12, (cvi (by (first | rfl | omega | (simp_all; done) | (simp_all; omega))) (D10.m 2 rfl)), (cvi (by (rw [lessN_snoc _ _ _ (by omega), if_pos (by assumption)]; omega)) (D10.k (D9.m 2 rfl))), (D10.k (D9.k q36)), (D10.k (D9.k q37)), (D10.k (D9.k q38)), by omega, rfl⟩
     ·
      refine wp_skip (bn (tn ?_))
      refine gI a12 s8 ok10 (gM q34 (gT (Ty.nat (j + 1)) rfl (fun A B E G H d0 => rP ((y_add (ef d0 rfl) rfl (w64 (by omega) (by omega))).mono (fun τ _ h => cvi (σ := τ) (by first | omega | exact (Int.natCast_mul _ _).symm) h))) (gB 0 (gE ok10 fun a15 s11 ok13 D11 => ?_))))
      exact tn ⟨i - ((j+1)), by omega, s11, (j+1), rfl, (F10.step0 D11.stp), ok13, (cvi (by (first | rfl | omega | (simp_all; done) | (simp_all; omega))) (D11.m 2 rfl)), (cvi (by (rw [lessN_snoc _ _ _ (by omega), if_neg (by assumption)]; rfl)) (D11.k q35)), (D11.k q36), (D11.k q37), (D11.k q38), by omega, rfl⟩
    ·
     have q55 : At (Ty.nat (lessN (r.getD i 0) (r.drop (i + 1)))) s7 a11 (.tmp 5) := cvt (T := (Ty.int (r.getD i 0 - ((lessN (r.getD i 0) (r.take j) : Nat) : Int)))) (U := (Ty.nat (lessN (r.getD i 0) (r.drop (i + 1))))) (by have e : j = i := (by omega); rw [e]; exact congrArg Ty.int (less_after hr (by omega))) q29
     refine wp_exit (tx (tx (bx (tn ?_))))
     refine gI a11 s7 ok9 (gM q31 (gM q55 (gM q32 (gS rfl (fun A B E G H d0 => rP (y_len Try.underlying22 (ef d0 rfl))) (gT (Ty.nat ((List.length r) - 1)) rfl (fun A B E G H d0 => rP ((y_sub (ef d0 rfl) rfl (w64 (by omega) (by omega))).mono (fun τ _ h => cvi (σ := τ) (by omega) h))) (gM q30 (gT (Ty.nat (((List.length r) - 1) - i)) rfl (fun A B E G H d0 d1 => rP ((y_sub (ef d0 rfl) (ef d1 rfl) (w64 (by omega) (by omega))).mono (fun τ _ h => cvi (σ := τ) (by omega) h))) (gS rfl (fun A B E G H d0 => rP (y_call _ Try.func58 rfl rfl my1 (rFact_fn (((((List.length r) - 1) - i))) ((((List.length r) - 1) - i)) _ _ (cvi (σ := B) (by omega) (ef d0 rfl)) (by omega) (by omega)))) (gT (Ty.nat ((lessN (r.getD i 0) (r.drop (i + 1))) * (fct ((((List.length r) - 1) - i))))) rfl (fun A B E G H d0 d1 => rP ((y_mul (ef d0 rfl) (ef d1 rfl) (w64 (by omega) (by omega))).mono (fun τ _ h => cvi (σ := τ) (by first | omega | exact (Int.natCast_mul _ _).symm) h))) (gT (Ty.nat (q + ((lessN (r.getD i 0) (r.drop (i + 1))) * (fct ((((List.length r) - 1) - i)))))) rfl (fun A B E G H d0 d1 => rP ((y_add (ef d0 rfl) (ef d1 rfl) (w64 (by omega) (by omega))).mono (fun τ _ h => cvi (σ := τ) (by first | omega | exact (Int.natCast_mul _ _).symm) h))) (gB 0 (gE ok9 fun a16 s12 ok14 D12 => ?_)))))))))))); refine bn (tn ?_)
     refine gI a16 s12 ok14 (gM (D12.k q30) (gT (Ty.nat (i + 1)) rfl (fun A B E G H d0 => rP ((y_add (ef d0 rfl) rfl (w64 (by omega) (by omega))).mono (fun τ _ h => cvi (σ := τ) (by first | omega | exact (Int.natCast_mul _ _).symm) h))) (gB 0 (gE ok14 fun a17 s13 ok15 D13 => ?_))))
     exact tn ⟨r.length - ((i+1)), by omega, s13, (i+1), (q + lessN (r.getD i 0) (r.drop (i + 1)) * fct (r.length - 1 - i)), rfl, ((F9.step0 D12.stp).step0 D13.stp), ok15, (cvi (by (first | rfl | omega | (simp_all; done) | (simp_all; omega))) (D13.m 2 rfl)), (cvi (by (first | rfl | omega | (simp_all; done) | (simp_all; omega))) (D13.k (D12.m 10 rfl))), (D13.k (D12.k q32)), by omega, rank_step' (by omega) hq, rfl⟩
  ·
   refine wp_exit (tx (tx (bx (tn (wp_seq ?_)))))
   refine gI a6 s4 ok5 (gM q11 (gB 0 (gE ok5 fun a18 s14 ok16 D14 => ?_))); refine tn (wp_ret ?_)
   exact retL1 rfl ok16 (F5.step0 D14.stp) (cvi (by (obtain rfl : i = r.length := (by omega); exact congrArg _ (by rw [List.drop_length] at hq; exact hq))) (D14.m 1 rfl))

theorem Try.inf4 : Info Try.prog 4 (.bool false) 1 1 := by unfold Info; kernel_rfl
set_option maxHeartbeats 4000000 in
set_option maxRecDepth 100000 in
theorem rClosed_fn (n : Nat) (gens : List (List Int)) (most : Nat) (σ : GW) (hlow : Low [] σ) (v0 v1 v2 : Value) (hv0 : Ty.has (Ty.nat n) σ v0) (hv1 : Ty.has (Ty.lst Ty.ints gens) σ v1) (hv2 : Ty.has (Ty.nat most) σ v2)  (hn : 1 ≤ n ∧ n ≤ 12) (hg : ∀ x ∈ gens, RowN n x) (hgl : gens.length ≤ 1000) (hms : 1 ≤ most ∧ most ≤ 100000) :
    FnL Try.prog 19 #[v0, v1, v2] σ [] (fun v τ => ∃ (R : (List (List Int))), ∃ (W : (List (List Int))), (Ty.has (Ty.tup2 (Ty.lst Ty.ints R) (Ty.lst Ty.ints W)) τ v) ∧ (ClosedP n gens most R W)) := by
 refine fn_introL hlow Try.func19 rfl Try.ntmps19 (Nat.le_of_ble_eq_true rfl) (fun a0 F0 ok0 hargs => ?_)
 have p0 := pB (hargs 0 _ rfl) hv0
 have p1 := pB (hargs 1 _ rfl) hv1
 have b1 := sl_le p1
 have p2 := pB (hargs 2 _ rfl) hv2
 clear hargs; refine wp_seq ?_
 refine gI a0 σ ok0 (gC (Ty.val (Value.slice none 0 0)) (gC (Ty.val (Value.slice none 0 0)) (gE ok0 fun a1 s1 ok1 D1 => ?_))); refine tn (wp_seq ?_)
 refine gI a1 s1 ok1 (gM (D1.k p0) (gS rfl (fun A B E G H d0 => rP (y_call _ Try.func39 rfl rfl my1 (rRounds_fn (n) _ _ (ef d0 rfl) (by omega)))) (gR (Pr.own 20 22 1 1 (List.map Ty.ints [(roundsL n)])) rfl (by intro A B E G H d0; exact rP ((y_lit1 (k := 20) Try.underlying24 Try.inf22 rfl (one_sl) (ef d0 rfl)).mono (fun _ _ h => cvo (by simp) (by first | (simp; done) | rfl) h))) (gE2 ok1 fun a2 s2 ok2 D2 => ?_))))
 obtain ⟨x1, hx1⟩ : ∃ x, a2.eval (.tmp 19) = x := ⟨_, rfl⟩
 have q6 : At (Ty.val x1) s2 a2 (.tmp 19) := hx1
 have o1 := al2 (R := (Pr.own 20 22 1 1 (List.map Ty.ints [(roundsL n)]))) hx1 (D2.done 2 (by decide))
 refine tL ok2 (Yld.toL (y_as q6)) fun a3 s3 hs1 ok3 r1 sm1 => ?_
 have F3 := ((F0.step0 D1.stp).step0 D2.stp).sl hs1
 have q9 : At (Ty.val x1) s3 a3 (.tmp 8) := r1
 clear r1; refine wpList_nil (tn (wp_seq ?_))
 refine gI a3 s3 ok3 (gR (Pr.own 21 22 1 1 (List.map Ty.ints [([] : List Int)])) rfl (by intro A B E G H; exact rP ((y_lit1 (k := 21) Try.underlying24 Try.inf22 rfl (one_sl) (nil_lst (f := Ty.int) (xs := ([] : List Int)) rfl (show Ty.has (Ty.val (Value.slice none 0 0)) B (A.eval ((Operand.const (Value.slice none 0 0)))) from rfl))).mono (fun _ _ h => cvo (by simp) (by first | (simp; done) | rfl) h))) (gE2 ok3 fun a4 s4 ok4 D3 => ?_)); have o3 := Own.k0 (Own.kl o1 hs1) D3.stp
 obtain ⟨x2, hx2⟩ : ∃ x, a4.eval (.tmp 20) = x := ⟨_, rfl⟩
 have q13 : At (Ty.val x2) s4 a4 (.tmp 20) := hx2
 have o4 := al2 (R := (Pr.own 21 22 1 1 (List.map Ty.ints [([] : List Int)]))) hx2 (D3.done 0 (by decide))
 refine tL ok4 (Yld.toL (y_as q13)) fun a5 s5 hs2 ok5 r2 sm2 => ?_
 have F5 := (F3.step0 D3.stp).sl hs2
 have q17 : At (Ty.val x2) s5 a5 (.tmp 9) := r2
 clear r2; refine wpList_nil (tn (wp_seq ?_))
 refine gI a5 s5 ok5 (gR (Pr.ownm Ty.bool kI 22 (fun _ => none : Int → Option Bool)) rfl (by intro A B E G H; exact rP (y_makemap 22)) (gE2 ok5 fun a6 s6 ok6 D4 => ?_)); have o7 := Own.k0 (Own.kl o3 hs2) D4.stp; have o8 := Own.k0 (Own.kl o4 hs2) D4.stp
 obtain ⟨x3, hx3⟩ : ∃ x, a6.eval (.tmp 21) = x := ⟨_, rfl⟩
 have q22 : At (Ty.val x3) s6 a6 (.tmp 21) := hx3
 have o9 := al2 (R := (Pr.ownm Ty.bool kI 22 (fun _ => none : Int → Option Bool))) hx3 (D4.done 0 (by decide))
 refine tailL0 (L := [22]) (R := (fun _ τ => OwnM Ty.bool kI τ 22 x3 (fun x_ => if x_ = (0 : Int) then some true else (fun _ => none : Int → Option Bool) x_))) rfl rfl (YldM.toL (m_mapins (i := (0 : Int)) Try.underlying35 (keyInt Try.underlying3) (by decide) o9 q22 rfl rfl)) (fun v1 s7 hs3 r3 => ?_)
 have F7 := (F5.step0 D4.stp).sl hs3; have q23 := kpL hs3 (by decide) rfl (D4.k (kq hs2 sm2 1 (D3.k (kq hs1 sm1 1 (D2.k (D1.k p1)))))); have q24 := kpL hs3 (by decide) rfl (D4.k (kq hs2 sm2 2 (D3.k (kq hs1 sm1 2 (D2.k (D1.k p2)))))); have q25 := kpL hs3 (by decide) rfl (D4.k (kq hs2 sm2 8 (D3.k q9))); have q26 := kpL hs3 (by decide) rfl (D4.k q17); have q27 := kpL hs3 (by decide) rfl q22
 have o10 : OwnM Ty.bool kI s7 22 x3 (fun x_ => if x_ = (0 : Int) then some true else (fun _ => none : Int → Option Bool) x_) := r3
 clear r3
 refine tL ok6 (Yld.toL (y_mv q27)) fun a7 s8 hs4 ok7 r4 sm3 => ?_
 have F8 := F7.sl hs4
 have q33 : At (Ty.val x3) s8 a7 (.tmp 22) := r4
 clear r4
 refine tL ok7 (Yld.toL (y_as q33)) fun a8 s9 hs5 ok8 r5 sm4 => ?_
 have F9 := F8.sl hs5
 have q38 : At (Ty.val x3) s9 a8 (.tmp 10) := r5
 clear r5; refine wpList_nil (tn (wp_seq (wp_seq ?_)))
 refine gI a8 s9 ok8 (gC (Ty.int (0 : Int)) (gE ok8 fun a9 s10 ok9 D5 => ?_)); have o19 := Own.k0 (Own.kl (Own.kl (Own.kl o7 hs3) hs4) hs5) D5.stp; have o20 := Own.k0 (Own.kl (Own.kl (Own.kl o8 hs3) hs4) hs5) D5.stp; have o21 := OwnM.k0 (OwnM.kl (OwnM.kl o10 hs4) hs5) D5.stp; refine tn (wp_block ?_)
 refine loop (fun n1 a10 w1 => ∃ (t1 : GW) (i : Nat) (L : (List (List Int))) (W : (List (List Int))) (f : (Int → Option Bool)) (x8_0 x9_0 : Value), t1.w = w1 ∧ FromL [] σ t1 ∧ Ok 86 [] a10 ∧ At (Ty.nat i) t1 a10 (.tmp 11) ∧ At (Ty.val x8_0) t1 a10 (.tmp 8) ∧ At (Ty.val x9_0) t1 a10 (.tmp 9) ∧ At (Ty.lst Ty.ints gens) t1 a10 (.tmp 1) ∧ At (Ty.nat most) t1 a10 (.tmp 2) ∧ At (Ty.val x3) t1 a10 (.tmp 10) ∧ Own t1 20 22 1 x8_0 (List.length L) (List.map Ty.ints L) ∧ Own t1 21 22 1 x9_0 (List.length W) (List.map Ty.ints W) ∧ OwnM Ty.bool kI t1 22 x3 f ∧ (i ≤ L.length) ∧ (L.length ≤ most) ∧ (ClI n gens L W i 0) ∧ (SeenB n L f) ∧ (WordsB W) ∧ n1 = most - i) (most - (0)) ?_ ?_
 ·
  exact ⟨s10, 0, [roundsL n], [[]], (fun x => if x = (0 : Int) then some true else (fun _ => none) x), x1, x2, rfl, (F9.step0 D5.stp), ok9, (cvi (by (first | rfl | omega | (simp_all; done) | (simp_all; omega))) (D5.m 0 rfl)), (D5.k (kq hs5 sm4 8 (kq hs4 sm3 8 q25))), (D5.k (kq hs5 sm4 9 (kq hs4 sm3 9 q26))), (D5.k (kq hs5 sm4 1 (kq hs4 sm3 1 q23))), (D5.k (kq hs5 sm4 2 (kq hs4 sm3 2 q24))), (D5.k q38), (cvo (by (first | rfl | simp)) (by (first | rfl | simp)) o19), (cvo (by (first | rfl | simp)) (by (first | rfl | simp)) o20), (cvm (by (rfl)) o21), by simp, hms.1, ClI.start, seenC_start hn, wordsB_start, rfl⟩
 ·
  rintro n2 a11 w2 ⟨t2, i, L, W, f, x8_0, x9_0, rfl, F11, ok10, q45, q46, q47, q48, q49, q50, o22, o23, o24, hi, hl, hC, hsn, hwb, rfl⟩
  have hwl := hC.wl
  refine wp_seq (wp_seq ?_)
  refine gI a11 t2 ok10 (gM q45 (gM q46 (gT (Ty.nat (List.length L)) rfl (fun A B E G H d0 => rP (own_len Try.underlying24 (al (R := (Pr.own 20 22 1 (List.length L) (List.map Ty.ints L))) (ef d0 rfl) (Own.k0 o22 E)))) (gS rfl (fun A B E G H d0 d1 => rP (y_lss (ef d0 rfl) (ef d1 rfl))) (gE ok10 fun a12 s11 ok11 D6 => ?_))))); have F12 := F11.step0 D6.stp; have q52 := D6.k q46; have q53 := D6.k q47; have o25 := Own.k0 o22 D6.stp; have o26 := Own.k0 o23 D6.stp; have o27 := OwnM.k0 o24 D6.stp; refine tn ?_
  refine cond_p (p := (((i : Nat) : Int) < (((List.length L) : Nat) : Int))) (D6.m 3 rfl) (fun c1 => ?_) (fun c1 => ?_)
  ·
   refine wp_skip (tn (wp_seq (wp_block (wp_seq ?_))))
   refine gI a12 s11 ok11 (gC (Ty.int (0 : Int)) (gE ok11 fun a13 s12 ok12 D7 => ?_)); have o28 := Own.k0 o25 D7.stp; have o29 := Own.k0 o26 D7.stp; have o30 := OwnM.k0 o27 D7.stp; refine tn (wp_block ?_)
   refine loop (fun n3 a14 w3 => ∃ (t3 : GW) (j : Nat) (L2 : (List (List Int))) (W2 : (List (List Int))) (f2 : (Int → Option Bool)) (x8_1 x9_1 : Value), t3.w = w3 ∧ FromL [] σ t3 ∧ Ok 86 [] a14 ∧ At (Ty.nat j) t3 a14 (.tmp 12) ∧ At (Ty.val x8_1) t3 a14 (.tmp 8) ∧ At (Ty.val x9_1) t3 a14 (.tmp 9) ∧ At (Ty.nat i) t3 a14 (.tmp 11) ∧ At (Ty.lst Ty.ints gens) t3 a14 (.tmp 1) ∧ At (Ty.nat most) t3 a14 (.tmp 2) ∧ At (Ty.val x3) t3 a14 (.tmp 10) ∧ Own t3 20 22 1 x8_1 (List.length L2) (List.map Ty.ints L2) ∧ Own t3 21 22 1 x9_1 (List.length W2) (List.map Ty.ints W2) ∧ OwnM Ty.bool kI t3 22 x3 f2 ∧ (j ≤ 2 * gens.length) ∧ (i < L2.length) ∧ (L2.length ≤ most) ∧ (ClI n gens L2 W2 i j) ∧ (SeenB n L2 f2) ∧ (WordsB W2) ∧ n3 = 2 * gens.length - j) (2 * gens.length - (0)) ?_ ?_
   ·
    exact ⟨s12, 0, L, W, f, x8_0, x9_0, rfl, (F12.step0 D7.stp), ok12, (cvi (by (first | rfl | omega | (simp_all; done) | (simp_all; omega))) (D7.m 0 rfl)), (D7.k q52), (D7.k q53), (D7.k (D6.k q45)), (D7.k (D6.k q48)), (D7.k (D6.k q49)), (D7.k (D6.k q50)), (cvo (by (simp)) (by (simp)) o28), (cvo (by (simp)) (by (simp)) o29), (cvm (by (rfl)) o30), by omega, by omega, hl, hC, hsn, hwb, rfl⟩
   ·
    rintro n4 a15 w4 ⟨t4, j, L2, W2, f2, x8_1, x9_1, rfl, F14, ok13, q65, q66, q67, q68, q69, q70, q71, o31, o32, o33, hj, hil, hl2, hC2, hsn2, hwb2, rfl⟩
    have hwl2 := hC2.wl
    refine wp_seq (wp_seq ?_)
    refine gI a15 t4 ok13 (gM q65 (gM q69 (gS rfl (fun A B E G H d0 => rP (y_len Try.underlying24 (ef d0 rfl))) (gT (Ty.nat (2 * (List.length gens))) rfl (fun A B E G H d0 => rP ((y_mul rfl (ef d0 rfl) (w64 (by omega) (by omega))).mono (fun τ _ h => cvi (σ := τ) (by first | omega | exact (Int.natCast_mul _ _).symm) h))) (gS rfl (fun A B E G H d0 d1 => rP (y_lss (ef d0 rfl) (ef d1 rfl))) (gE ok13 fun a16 s13 ok14 D8 => ?_)))))); have F15 := F14.step0 D8.stp; have q72 := D8.k q65; have q73 := D8.k q66; have q74 := D8.k q67; have q75 := D8.k q68; have q76 := D8.k q69; have q77 := D8.k q70; have q78 := D8.k q71; have o34 := Own.k0 o31 D8.stp; have o35 := Own.k0 o32 D8.stp; have o36 := OwnM.k0 o33 D8.stp; refine tn ?_
    refine cond_p (p := (((j : Nat) : Int) < (((2 * (List.length gens)) : Nat) : Int))) (D8.m 4 rfl) (fun c2 => ?_) (fun c2 => ?_)
    ·
     obtain ⟨hf1, hf2, hf3, hf4, hf5, hf6⟩ := hC2.fits hn hg hil (by omega)
     refine wp_skip (tn (wp_seq (wp_block (wp_seq ?_))))
     refine gI a16 s13 ok14 (gM q76 (gM q72 (gT (Ty.nat (j / 2)) rfl (fun A B E G H d0 => rP (y_quoN (ef d0 rfl) (toN (σ := B) rfl (by omega)) (by omega) (by omega))) (gT (Ty.ref [(Ty.lst Ty.int (gens.getD (j / 2) []))]) rfl (fun A B E G H d0 d1 => rP (y_index1 Try.underlying24 Try.inf22 (ef d0 rfl) (ef d1 rfl) (by omega) (lst_get Ty.ints gens [] (j / 2) (by omega)))) (gS rfl (fun A B E G H d0 => rP (y_load Try.underlying22 rfl (ef d0 rfl) rfl)) (gB 0 (gE ok14 fun a17 s14 ok15 D9 => ?_))))))); have q80 := D9.k q72; have o37 := Own.k0 o34 D9.stp; have o38 := Own.k0 o35 D9.stp; have o39 := OwnM.k0 o36 D9.stp; refine tn (wp_seq ?_)
     refine gI a17 s14 ok15 (gM q80 (gT (Ty.nat (j / 2)) rfl (fun A B E G H d0 => rP (y_quoN (ef d0 rfl) (toN (σ := B) rfl (by omega)) (by omega) (by omega))) (gT (Ty.nat ((j / 2) + 1)) rfl (fun A B E G H d0 => rP ((y_add (ef d0 rfl) rfl (w64 (by omega) (by omega))).mono (fun τ _ h => cvi (σ := τ) (by first | omega | exact (Int.natCast_mul _ _).symm) h))) (gB 0 (gE ok15 fun a18 s15 ok16 D10 => ?_))))); have q88 := D10.k q80; have o40 := Own.k0 o37 D10.stp; have o41 := Own.k0 o38 D10.stp; have o42 := OwnM.k0 o39 D10.stp; refine tn (wp_seq (wp_seq ?_))
     refine gI a18 s15 ok16 (gM q88 (gT (Ty.nat (j % 2)) rfl (fun A B E G H d0 => rP (y_remN (ef d0 rfl) (toN (σ := B) rfl (by omega)) (by omega))) (gS rfl (fun A B E G H d0 => rP (y_eql (ef d0 rfl) rfl)) (gE ok16 fun a19 s16 ok17 D11 => ?_)))); have F18 := ((F15.step0 D9.stp).step0 D10.stp).step0 D11.stp; have q97 := D11.k q88; have q98 := D11.k (D10.k (D9.k q73)); have q99 := D11.k (D10.k (D9.k q74)); have q100 := D11.k (D10.k (D9.k q75)); have q101 := D11.k (D10.k (D9.k q76)); have q102 := D11.k (D10.k (D9.k q77)); have q103 := D11.k (D10.k (D9.k q78)); have q104 := D11.k (D10.k (D9.m 5 rfl)); have q105 := D11.k (D10.m 3 rfl); have o43 := Own.k0 o40 D11.stp; have o44 := Own.k0 o41 D11.stp; have o45 := OwnM.k0 o42 D11.stp; refine tn ?_
     refine Go.KL.join_then (Q' := fun a20 w5 => ∃ (t5 : GW), t5.w = w5 ∧ FromL [] σ t5 ∧ Ok 86 [] a20 ∧ At (Ty.lst Ty.int (ltr gens j)) t5 a20 (.tmp 13) ∧ At (Ty.int (ltrN j)) t5 a20 (.tmp 14) ∧ At (Ty.nat j) t5 a20 (.tmp 12) ∧ At (Ty.val x8_1) t5 a20 (.tmp 8) ∧ At (Ty.val x9_1) t5 a20 (.tmp 9) ∧ At (Ty.nat i) t5 a20 (.tmp 11) ∧ At (Ty.lst Ty.ints gens) t5 a20 (.tmp 1) ∧ At (Ty.nat most) t5 a20 (.tmp 2) ∧ At (Ty.val x3) t5 a20 (.tmp 10) ∧ Own t5 20 22 1 x8_1 (List.length L2) (List.map Ty.ints L2) ∧ Own t5 21 22 1 x9_1 (List.length W2) (List.map Ty.ints W2) ∧ OwnM Ty.bool kI t5 22 x3 f2 ∧ True) ?_ ?_
     ·
      refine cond_p (p := ((((j % 2) : Nat) : Int) = (1 : Int))) (D11.m 2 rfl) (fun c3 => ?_) (fun c3 => ?_)
      ·
       refine wp_seq ?_
       refine gI a19 s16 ok17 (gM q104 (gS rfl (fun A B E G H d0 => rP (y_call _ Try.func23 rfl rfl my1 (rUndo_fn ((gens.getD (j / 2) [])) _ _ (ef d0 rfl) (by assumption)))) (gB 0 (gE ok17 fun a21 s17 ok18 D12 => ?_)))); have o46 := Own.k0 o43 D12.stp; have o47 := Own.k0 o44 D12.stp; have o48 := OwnM.k0 o45 D12.stp; refine tn ?_
       refine gI a21 s17 ok18 (gM (D12.k q105) (gT (Ty.int (-((((j / 2) + 1) : Nat) : Int))) rfl (fun A B E G H d0 => rP (y_neg (ef d0 rfl) (w64 (by omega) (by omega)))) (gB 0 (gE ok18 fun a22 s18 ok19 D13 => ?_)))); have o49 := Own.k0 o46 D13.stp; have o50 := Own.k0 o47 D13.stp; have o51 := OwnM.k0 o48 D13.stp
       exact tn ⟨s18, rfl, ((F18.step0 D12.stp).step0 D13.stp), ok19, (cvt (by (unfold ltr; rw [if_pos (by omega)])) (D13.k (D12.m 2 rfl))), (cvi (by (unfold ltrN; rw [if_pos (by omega)])) (D13.m 2 rfl)), (D13.k (D12.k q97)), (D13.k (D12.k q98)), (D13.k (D12.k q99)), (D13.k (D12.k q100)), (D13.k (D12.k q101)), (D13.k (D12.k q102)), (D13.k (D12.k q103)), o49, o50, o51, trivial⟩
      ·
       refine wp_skip ?_
       exact tn ⟨s16, rfl, F18, ok17, (cvt (by (unfold ltr; rw [if_neg (by omega)])) q104), (cvi (by (unfold ltrN; rw [if_neg (by omega)])) q105), q97, q98, q99, q100, q101, q102, q103, o43, o44, o45, trivial⟩
     ·
      rintro a23 w6 ⟨t6, rfl, F21, ok20, q125, q126, q127, q128, q129, q130, q131, q132, q133, o52, o53, o54, -⟩
      refine wp_seq ?_
      refine gI a23 t6 ok20 (gM q128 (gM q130 (gT (Ty.val (cellPtr x8_1 i)) rfl (fun A B E G H d0 d1 => rP (own_index1 (i := ((i : Nat) : Int)) Try.underlying24 Try.inf22 (Own.k0 o52 E) (ef d0 rfl) (ef d1 rfl) (by omega) (by omega))) (gS rfl (fun A B E G H d0 => rP (own_load Try.underlying22 rfl (Own.k0 o52 E) (ef d0 rfl) (lst_get Ty.ints L2 [] i (by omega)))) (gM q125 (gS rfl (fun A B E G H d0 d1 => rP (y_call _ Try.func22 rfl rfl my2 (rBy_fn ((L2.getD i [])) ((ltr gens j)) _ _ _ (ef d0 rfl) (ef d1 rfl) (by first | assumption | omega) (by first | assumption | omega)))) (gB 0 (gE ok20 fun a24 s19 ok21 D14 => ?_)))))))); have o55 := Own.k0 o52 D14.stp; have o56 := Own.k0 o53 D14.stp; have o57 := OwnM.k0 o54 D14.stp; have q142 := D14.m 6 rfl; refine tn (wp_seq ?_)
      refine gI a24 s19 ok21 (gM q142 (gS rfl (fun A B E G H d0 => rP (y_call _ Try.func21 rfl rfl my1 (rRank_fn ((byL ((L2.getD i [])) ((ltr gens j)))) _ _ (ef d0 rfl) (by first | omega | assumption)))) (gB 0 (gE ok21 fun a25 s20 ok22 D15 => ?_)))); have q150 := D15.k (D14.k q133); have o58 := Own.k0 o55 D15.stp; have o59 := Own.k0 o56 D15.stp; have o60 := OwnM.k0 o57 D15.stp; have q152 := D15.m 2 rfl; refine tn (wp_seq (wp_seq ?_))
      refine gI a25 s20 ok22 (gM q150 (gM q152 (gT (Ty.bool ((f2 (((rankL ((byL ((L2.getD i [])) ((ltr gens j))))) : Nat) : Int)).getD false)) rfl (fun A B E G H d0 d1 => rP (y_lookup (i := (((rankL ((byL ((L2.getD i [])) ((ltr gens j))))) : Nat) : Int)) (z := false) Try.underlying35 (keyInt Try.underlying3) Try.inf4 (fun _ => rfl) (OwnM.k0 o60 E) (ef d0 rfl) (ef d1 rfl))) (gE ok22 fun a26 s21 ok23 D16 => ?_)))); have F24 := ((F21.step0 D14.stp).step0 D15.stp).step0 D16.stp; have q154 := D16.k (D15.k (D14.k q127)); have q155 := D16.k (D15.k (D14.k q128)); have q156 := D16.k (D15.k (D14.k q129)); have q157 := D16.k (D15.k (D14.k q130)); have q158 := D16.k (D15.k (D14.k q131)); have q159 := D16.k (D15.k (D14.k q132)); have q160 := D16.k q150; have o61 := Own.k0 o58 D16.stp; have o62 := Own.k0 o59 D16.stp; have o63 := OwnM.k0 o60 D16.stp; refine tn ?_
      refine cond_t (D16.m 2 rfl) (fun c4 => ?_) (fun c4 => ?_)
      ·
       have hm : (byL (L2.getD i []) (ltr gens j)) ∈ L2 := (by have h_ := hsn2 _ hf4 hf5; rw [c4] at h_; exact of_decide_eq_true h_.symm)
       refine wp_exit (tx (bx (tn ?_)))
       refine gI a26 s21 ok23 (gM q154 (gT (Ty.nat (j + 1)) rfl (fun A B E G H d0 => rP ((y_add (ef d0 rfl) rfl (w64 (by omega) (by omega))).mono (fun τ _ h => cvi (σ := τ) (by first | omega | exact (Int.natCast_mul _ _).symm) h))) (gB 0 (gE ok23 fun a27 s22 ok24 D17 => ?_)))); have o64 := Own.k0 o61 D17.stp; have o65 := Own.k0 o62 D17.stp; have o66 := OwnM.k0 o63 D17.stp
       exact tn ⟨2 * gens.length - ((j+1)), by omega, s22, (j+1), L2, W2, f2, x8_1, x9_1, rfl, (F24.step0 D17.stp), ok24, (cvi (by (first | rfl | omega | (simp_all; done) | (simp_all; omega))) (D17.m 2 rfl)), (D17.k q155), (D17.k q156), (D17.k q157), (D17.k q158), (D17.k q159), (D17.k q160), o64, o65, o66, by omega, hil, hl2, hC2.old hm, hsn2, hwb2, rfl⟩
      ·
       have hm : (byL (L2.getD i []) (ltr gens j)) ∉ L2 := (by have h_ := hsn2 _ hf4 hf5; rw [c4] at h_; exact of_decide_eq_false h_.symm); have hC5 := hC2.new (w := (W2.getD i [] ++ [ltrN j])) hn hg hil (by omega) hm; have hsn5 := hsn2.put hf4 hf5; have hwi := hwb2 i (by omega)
       refine wp_skip (tn (wp_seq ?_))
       refine gI a26 s21 ok23 (gM q160 (gM (D16.k q152) (gE2 ok23 fun a28 s23 ok25 D18 => ?_))); have o67 := Own.k0 o61 D18.stp; have o68 := Own.k0 o62 D18.stp; have o69 := OwnM.k0 o63 D18.stp
       have q180 : At (Ty.val x3) s23 a28 (.tmp 62) := D18.done 0 (by decide)
       refine tailL0 (L := [22]) (R := (fun _ τ => OwnM Ty.bool kI τ 22 x3 (fun x_ => if x_ = (((rankL ((byL ((L2.getD i [])) ((ltr gens j))))) : Nat) : Int) then some true else f2 x_))) rfl rfl (YldM.toL (m_mapset (i := (((rankL ((byL ((L2.getD i [])) ((ltr gens j))))) : Nat) : Int)) Try.underlying35 (keyInt Try.underlying3) (by decide) o69 q180 (D18.m 1 rfl) rfl)) (fun v2 s24 hs6 r6 => ?_)
       have F27 := (F24.step0 D18.stp).sl hs6; have q182 := kpL hs6 (by decide) rfl (D18.k (D16.k (D15.k (D14.k q126)))); have q183 := kpL hs6 (by decide) rfl (D18.k q154); have q184 := kpL hs6 (by decide) rfl (D18.k q155); have q185 := kpL hs6 (by decide) rfl (D18.k q156); have q186 := kpL hs6 (by decide) rfl (D18.k q157); have q187 := kpL hs6 (by decide) rfl (D18.k q158); have q188 := kpL hs6 (by decide) rfl (D18.k q159); have q189 := kpL hs6 (by decide) rfl (D18.k q160); have q190 := kpL hs6 (by decide) rfl (D18.k (D16.k (D15.k q142)))
       have o70 : OwnM Ty.bool kI s24 22 x3 (fun x_ => if x_ = (((rankL ((byL ((L2.getD i [])) ((ltr gens j))))) : Nat) : Int) then some true else f2 x_) := r6
       clear r6; refine wpList_nil (tn (wp_seq ?_))
       refine gI a28 s24 ok25 (gM q184 (gM q190 (gT (Ty.sl 1 1 [(Ty.lst Ty.int (byL ((L2.getD i [])) ((ltr gens j))))]) rfl (fun A B E G H d0 => rP (y_build1o Try.underlying24 Try.inf22 rfl (one_sl) (ef d0 rfl))) (gE2 ok25 fun a29 s25 ok26 D19 => ?_)))); have o73 := Own.k0 (Own.kl o67 hs6) D19.stp; have o74 := Own.k0 (Own.kl o68 hs6) D19.stp; have o75 := OwnM.k0 o70 D19.stp
       have q200 : At (Ty.val x8_1) s25 a29 (.tmp 64) := D19.done 0 (by decide)
       have q201 := D19.m 2 rfl
       have b2 := sl_le q201
       refine tL ok26 (YldM.toL (m_append Try.underlying24 Try.inf22 (by decide) rfl (by decide) (al (R := (Pr.own 20 22 1 (List.length L2) (List.map Ty.ints L2))) q200 o73) q201 (by intro U hU; simp at hU; subst hU; exact one_sl) (by omega) (by omega))) fun a30 s26 hs7 ok27 r7 sm5 => ?_
       have F29 := (F27.step0 D19.stp).sl hs7; have q204 := kq hs7 sm5 8 (D19.k q184)
       obtain ⟨x4, hx4⟩ : ∃ x, a30.eval (.tmp 67) = x := ⟨_, rfl⟩
       have q210 : At (Ty.val x4) s26 a30 (.tmp 67) := hx4
       have o76 := al2 (R := (Pr.own 20 22 1 (List.length (L2 ++ [(byL ((L2.getD i [])) ((ltr gens j)))])) (List.map Ty.ints (L2 ++ [(byL ((L2.getD i [])) ((ltr gens j)))])))) hx4 (cvo (by simp) (by first | (rw [List.map_append]; rfl) | simp) r7)
       clear r7
       refine tL ok27 (Yld.toL (y_as q210)) fun a31 s27 hs8 ok28 r8 sm6 => ?_
       have F30 := F29.sl hs8; have q213 := kq hs8 sm6 9 (kq hs7 sm5 9 (D19.k q185)); have q214 := kq hs8 sm6 11 (kq hs7 sm5 11 (D19.k q186)); have o79 := Own.kl (Own.kl o74 hs7) hs8
       have q218 : At (Ty.val x4) s27 a31 (.tmp 8) := r8
       clear r8; refine wpList_nil (tn (wp_seq ?_))
       refine gI a31 s27 ok28 (gM q213 (gR (Pr.own 24 3 1 0 (List.map Ty.int ([] : List Int))) rfl (by intro A B E G H; exact rP ((y_lit0 (k := 24) Try.underlying22 Try.inf3).mono (fun _ _ h => cvo (by simp) (by simp) h))) (gM q213 (gM q214 (gT (Ty.val (cellPtr x9_1 i)) rfl (fun A B E G H d0 d1 => rP (own_index1 (i := ((i : Nat) : Int)) Try.underlying24 Try.inf22 (Own.k0 o79 E) (ef d0 rfl) (ef d1 rfl) (by omega) (by omega))) (gS rfl (fun A B E G H d0 => rP (own_load Try.underlying22 rfl (Own.k0 o79 E) (ef d0 rfl) (lst_get Ty.ints W2 [] i (by omega)))) (gE2 ok28 fun a32 s28 ok29 D20 => ?_))))))); have o82 := Own.k0 o79 D20.stp; have o83 := OwnM.k0 (OwnM.kl (OwnM.kl o75 hs7) hs8) D20.stp; have o84 := Own.k0 (Own.kl o76 hs8) D20.stp
       have q227 : At (Ty.val x9_1) s28 a32 (.tmp 68) := D20.done 0 (by decide)
       obtain ⟨x5, hx5⟩ : ∃ x, a32.eval (.tmp 69) = x := ⟨_, rfl⟩
       have q228 : At (Ty.val x5) s28 a32 (.tmp 69) := hx5
       have o85 := al2 (R := (Pr.own 24 3 1 0 (List.map Ty.int ([] : List Int)))) hx5 (D20.done 1 (by decide))
       have q229 := D20.m 5 rfl
       have b3 := sl_le q229
       refine tL ok29 (YldM.toL (m_append Try.underlying22 Try.inf3 (by decide) rfl (by decide) (al (R := (Pr.own 24 3 1 0 (List.map Ty.int ([] : List Int)))) q228 o85) q229 (one_map (fun _ => one_val rfl)) (by omega) (by omega))) fun a33 s29 hs9 ok30 r9 sm7 => ?_
       have F32 := (F30.step0 D20.stp).sl hs9
       obtain ⟨x6, hx6⟩ : ∃ x, a33.eval (.tmp 74) = x := ⟨_, rfl⟩
       have q239 : At (Ty.val x6) s29 a33 (.tmp 74) := hx6
       have o86 := al2 (R := (Pr.own 24 3 1 (List.length (W2.getD i [])) (List.map Ty.int (W2.getD i [])))) hx6 (cvo (by first | (simp; done) | (simp; omega)) (by first | (rw [List.map_append]; rfl) | simp) r9)
       clear r9
       refine tL ok30 (Yld.toL (y_mv (kq hs9 sm7 14 (D20.k (kq hs8 sm6 14 (kq hs7 sm5 14 (D19.k q182))))))) fun a34 s30 hs10 ok31 r10 sm8 => ?_
       have F33 := F32.sl hs10
       have q249 : At (Ty.int (ltrN j)) s30 a34 (.tmp 75) := r10
       clear r10
       refine tL (R := (fun v τ => Pr.has (Ty.pr (Ty.sl 1 1 [(Ty.int (ltrN j))])) τ v)) ok31 (Yld.toL (y_build1o Try.underlying22 Try.inf3 rfl (one_val rfl) q249)) fun a35 s31 hs11 ok32 r11 sm9 => ?_
       have F34 := F33.sl hs11
       have q259 : At (Ty.sl 1 1 [(Ty.int (ltrN j))]) s31 a35 (.tmp 76) := r11
       clear r11
       refine tL ok32 (YldM.toL (m_append Try.underlying22 Try.inf3 (by decide) rfl (by decide) (al (R := (Pr.own 24 3 1 (List.length (W2.getD i [])) (List.map Ty.int (W2.getD i [])))) (kq hs11 sm9 74 (kq hs10 sm8 74 q239)) (Own.kl (Own.kl o86 hs10) hs11)) q259 (by intro U hU; simp at hU; subst hU; exact one_val rfl) (by omega) (by omega))) fun a36 s32 hs12 ok33 r12 sm10 => ?_
       have F35 := F34.sl hs12
       obtain ⟨x7, hx7⟩ : ∃ x, a36.eval (.tmp 77) = x := ⟨_, rfl⟩
       have q268 : At (Ty.val x7) s32 a36 (.tmp 77) := hx7
       have o98 := al2 (R := (Pr.own 24 3 1 (List.length ((W2.getD i []) ++ [(ltrN j)])) (List.map Ty.int ((W2.getD i []) ++ [(ltrN j)])))) hx7 (cvo (by simp) (by first | (rw [List.map_append]; rfl) | simp) r12)
       clear r12
       obtain ⟨t7, e1, h1, q269⟩ := Own.seal o98 (by decide)
       rw [← e1]
       have F36 := F35.step h1 (by decide); have o102 := Own.keepL (Own.kl (Own.kl (Own.kl (Own.kl o82 hs9) hs10) hs11) hs12) (h1.toL (L := [24]) (by simp)) (by decide) (by decide); have o103 := OwnM.keepL (OwnM.kl (OwnM.kl (OwnM.kl (OwnM.kl o83 hs9) hs10) hs11) hs12) (h1.toL (L := [24]) (by simp)) (by decide) (by decide); have o104 := Own.keepL (Own.kl (Own.kl (Own.kl (Own.kl o84 hs9) hs10) hs11) hs12) (h1.toL (L := [24]) (by simp)) (by decide) (by decide); have q270 := Ty.up (Ty.nat j) (h1.le (by decide)) (kq hs12 sm10 12 (kq hs11 sm9 12 (kq hs10 sm8 12 (kq hs9 sm7 12 (D20.k (kq hs8 sm6 12 (kq hs7 sm5 12 (D19.k q183)))))))); have q271 := Ty.up (Ty.val x9_1) (h1.le (by decide)) (kq hs12 sm10 9 (kq hs11 sm9 9 (kq hs10 sm8 9 (kq hs9 sm7 9 (D20.k q213))))); have q272 := Ty.up (Ty.nat i) (h1.le (by decide)) (kq hs12 sm10 11 (kq hs11 sm9 11 (kq hs10 sm8 11 (kq hs9 sm7 11 (D20.k q214))))); have q273 := Ty.up (Ty.lst Ty.ints gens) (h1.le (by decide)) (kq hs12 sm10 1 (kq hs11 sm9 1 (kq hs10 sm8 1 (kq hs9 sm7 1 (D20.k (kq hs8 sm6 1 (kq hs7 sm5 1 (D19.k q187)))))))); have q274 := Ty.up (Ty.nat most) (h1.le (by decide)) (kq hs12 sm10 2 (kq hs11 sm9 2 (kq hs10 sm8 2 (kq hs9 sm7 2 (D20.k (kq hs8 sm6 2 (kq hs7 sm5 2 (D19.k q188)))))))); have q275 := Ty.up (Ty.val x3) (h1.le (by decide)) (kq hs12 sm10 10 (kq hs11 sm9 10 (kq hs10 sm8 10 (kq hs9 sm7 10 (D20.k (kq hs8 sm6 10 (kq hs7 sm5 10 (D19.k q189)))))))); have q276 := Ty.up (Ty.val x4) (h1.le (by decide)) (kq hs12 sm10 8 (kq hs11 sm9 8 (kq hs10 sm8 8 (kq hs9 sm7 8 (D20.k q218))))); have q277 := Ty.up (Ty.val x9_1) (h1.le (by decide)) (kq hs12 sm10 68 (kq hs11 sm9 68 (kq hs10 sm8 68 (kq hs9 sm7 68 q227))))
       have q278 : At (Ty.lst Ty.int ((W2.getD i []) ++ [(ltrN j)])) t7 a36 (.tmp 77) := by have e : a36.eval (.tmp 77) = x7 := q268; show Ty.has _ _ _; rw [e]; exact q269
       refine tL (R := (fun v τ => Pr.has (Ty.pr (Ty.sl 1 1 [(Ty.lst Ty.int ((W2.getD i []) ++ [(ltrN j)]))])) τ v)) ok33 (Yld.toL (y_build1o Try.underlying24 Try.inf22 rfl (one_sl) q278)) fun a37 s33 hs13 ok34 r13 sm11 => ?_
       have F37 := F36.sl hs13
       have q287 : At (Ty.sl 1 1 [(Ty.lst Ty.int ((W2.getD i []) ++ [(ltrN j)]))]) s33 a37 (.tmp 78) := r13
       clear r13
       refine tL ok34 (YldM.toL (m_append Try.underlying24 Try.inf22 (by decide) rfl (by decide) (al (R := (Pr.own 21 22 1 (List.length W2) (List.map Ty.ints W2))) (kq hs13 sm11 68 q277) (Own.kl o102 hs13)) q287 (by intro U hU; simp at hU; subst hU; exact one_sl) (by omega) (by omega))) fun a38 s34 hs14 ok35 r14 sm12 => ?_
       have F38 := F37.sl hs14; have q289 := kq hs14 sm12 9 (kq hs13 sm11 9 q271)
       obtain ⟨x8, hx8⟩ : ∃ x, a38.eval (.tmp 79) = x := ⟨_, rfl⟩
       have q295 : At (Ty.val x8) s34 a38 (.tmp 79) := hx8
       have o108 := al2 (R := (Pr.own 21 22 1 (List.length (W2 ++ [((W2.getD i []) ++ [(ltrN j)])])) (List.map Ty.ints (W2 ++ [((W2.getD i []) ++ [(ltrN j)])])))) hx8 (cvo (by simp) (by first | (rw [List.map_append]; rfl) | simp) r14)
       clear r14
       refine tL ok35 (Yld.toL (y_as q295)) fun a39 s35 hs15 ok36 r15 sm13 => ?_
       have F39 := F38.sl hs15; have q299 := kq hs15 sm13 2 (kq hs14 sm12 2 (kq hs13 sm11 2 q274)); have q301 := kq hs15 sm13 8 (kq hs14 sm12 8 (kq hs13 sm11 8 q276)); have o112 := Own.kl (Own.kl (Own.kl o104 hs13) hs14) hs15
       have q302 : At (Ty.val x8) s35 a39 (.tmp 9) := r15
       clear r15; refine wpList_nil (tn (wp_seq ?_))
       refine gI a39 s35 ok36 (gM q301 (gT (Ty.nat (List.length (L2 ++ [(byL ((L2.getD i [])) ((ltr gens j)))]))) rfl (fun A B E G H d0 => rP (own_len Try.underlying24 (al (R := (Pr.own 20 22 1 (List.length (L2 ++ [(byL ((L2.getD i [])) ((ltr gens j)))])) (List.map Ty.ints (L2 ++ [(byL ((L2.getD i [])) ((ltr gens j)))])))) (ef d0 rfl) (Own.k0 o112 E)))) (gM q299 (gS rfl (fun A B E G H d0 d1 => rP (y_gtr (ef d0 rfl) (ef d1 rfl))) (gE ok36 fun a40 s36 ok37 D21 => ?_))))); have F40 := F39.step0 D21.stp; have o114 := OwnM.k0 (OwnM.kl (OwnM.kl (OwnM.kl o103 hs13) hs14) hs15) D21.stp; have o115 := Own.k0 o112 D21.stp; have o116 := Own.k0 (Own.kl o108 hs15) D21.stp; refine tn ?_
       refine cond_p (p := (((most : Nat) : Int) < (((List.length (L2 ++ [(byL ((L2.getD i [])) ((ltr gens j)))])) : Nat) : Int))) (D21.m 3 rfl) (fun c5 => ?_) (fun c5 => ?_)
       ·
        refine wp_seq ?_
        refine gI a40 s36 ok37 (gC (Ty.val (Value.slice none 0 0)) (gC (Ty.val (Value.slice none 0 0)) (gE ok37 fun a41 s37 ok38 D22 => ?_))); have o117 := OwnM.k0 o114 D22.stp; have o118 := Own.k0 o115 D22.stp; have o119 := Own.k0 o116 D22.stp; refine tn (wp_ret (br (tr (tr (br (br (tr (tr (br (tr ?_))))))))))
        exact retL2 rfl ok38 (F40.step0 D22.stp) ⟨([] : List (List Int)), ([] : List (List Int)), (hasT2 (nil_lst (by (first | rfl | omega | (simp_all; done) | (simp_all; omega))) (D22.m 0 rfl)) (nil_lst (by (first | rfl | omega | (simp_all; done) | (simp_all; omega))) (D22.m 1 rfl))), (by exact ClI.many hC5 (by omega))⟩
       ·
        refine wp_skip (bn (tn ?_))
        refine gI a40 s36 ok37 (gM (D21.k (kq hs15 sm13 12 (kq hs14 sm12 12 (kq hs13 sm11 12 q270)))) (gT (Ty.nat (j + 1)) rfl (fun A B E G H d0 => rP ((y_add (ef d0 rfl) rfl (w64 (by omega) (by omega))).mono (fun τ _ h => cvi (σ := τ) (by first | omega | exact (Int.natCast_mul _ _).symm) h))) (gB 0 (gE ok37 fun a42 s38 ok39 D23 => ?_)))); have o120 := OwnM.k0 o114 D23.stp; have o121 := Own.k0 o115 D23.stp; have o122 := Own.k0 o116 D23.stp
        exact tn ⟨2 * gens.length - ((j+1)), by omega, s38, (j+1), (L2 ++ [(byL (L2.getD i []) (ltr gens j))]), (W2 ++ [(W2.getD i [] ++ [ltrN j])]), (fun p => if p = ((rankL (byL (L2.getD i []) (ltr gens j)) : Nat) : Int) then some true else f2 p), x4, x8, rfl, (F40.step0 D23.stp), ok39, (cvi (by (first | rfl | omega | (simp_all; done) | (simp_all; omega))) (D23.m 2 rfl)), (D23.k (D21.k q301)), (D23.k (D21.k q302)), (D23.k (D21.k (kq hs15 sm13 11 (kq hs14 sm12 11 (kq hs13 sm11 11 q272))))), (D23.k (D21.k (kq hs15 sm13 1 (kq hs14 sm12 1 (kq hs13 sm11 1 q273))))), (D23.k (D21.k q299)), (D23.k (D21.k (kq hs15 sm13 10 (kq hs14 sm12 10 (kq hs13 sm11 10 q275))))), (cvo (by (simp)) (by (simp)) o121), (cvo (by (simp)) (by (simp)) o122), (cvm (by (rfl)) o120), by omega, by (rw [List.length_append]; omega), by omega, hC5, hsn5, hwb2.new (by omega), rfl⟩
    ·
     have ej : j = 2 * gens.length := (by omega); have hC4 := (ej ▸ hC2 : ClI n gens L2 W2 i (2 * gens.length)).next
     refine wp_exit (tx (tx (bx (bn (tn ?_)))))
     refine gI a16 s13 ok14 (gM q75 (gT (Ty.nat (i + 1)) rfl (fun A B E G H d0 => rP ((y_add (ef d0 rfl) rfl (w64 (by omega) (by omega))).mono (fun τ _ h => cvi (σ := τ) (by first | omega | exact (Int.natCast_mul _ _).symm) h))) (gB 0 (gE ok14 fun a43 s39 ok40 D24 => ?_)))); have o123 := Own.k0 o34 D24.stp; have o124 := Own.k0 o35 D24.stp; have o125 := OwnM.k0 o36 D24.stp
     exact tn ⟨most - ((i + 1)), by omega, s39, (i + 1), L2, W2, f2, x8_1, x9_1, rfl, (F15.step0 D24.stp), ok40, (cvi (by (first | rfl | omega | (simp_all; done) | (simp_all; omega))) (D24.m 2 rfl)), (D24.k q73), (D24.k q74), (D24.k q76), (D24.k q77), (D24.k q78), (cvo (by (simp)) (by (simp)) o123), (cvo (by (simp)) (by (simp)) o124), (cvm (by (rfl)) o125), by omega, hl2, hC4, hsn2, hwb2, rfl⟩
  ·
   have ei : i = L.length := (by omega); have hC9 : ClosedP n gens most L W := ClI.closed hn hg (ei ▸ hC) hl
   refine wp_exit (tx (tx (bx (tn (wp_seq ?_)))))
   refine gI a12 s11 ok11 (gM q52 (gM q53 (gB 0 (gB 0 (gE ok11 fun a44 s40 ok41 D25 => ?_))))); have o126 := Own.k0 o25 D25.stp; have o127 := Own.k0 o26 D25.stp; have o128 := OwnM.k0 o27 D25.stp
   have q326 : At (Ty.val x8_0) s40 a44 (.tmp 6) := D25.done 2
   have q327 : At (Ty.val x9_0) s40 a44 (.tmp 7) := D25.done 3
   refine tn (wp_ret ?_)
   obtain ⟨t8, e2, h2, q328⟩ := Own.seal o126 (by decide)
   rw [← e2]
   have F45 := (F12.step0 D25.stp).step h2 (by decide); have o129 := Own.keepL o127 (h2.toL (L := [20]) (by simp)) (by decide) (by decide)
   have q329 : At (Ty.lst Ty.ints L) t8 a44 (.tmp 6) := by have e : a44.eval (.tmp 6) = x8_0 := q326; show Ty.has _ _ _; rw [e]; exact q328
   have q330 := Ty.up (Ty.val x9_0) (h2.le (by decide)) q327
   obtain ⟨t9, e3, h3, q331⟩ := Own.seal o129 (by decide)
   rw [← e3]
   have F46 := F45.step h3 (by decide); have q332 := Ty.up (Ty.lst Ty.ints L) (h3.le (by decide)) q329
   have q333 : At (Ty.lst Ty.ints W) t9 a44 (.tmp 7) := by have e : a44.eval (.tmp 7) = x9_0 := q330; show Ty.has _ _ _; rw [e]; exact q331
   exact retL2 rfl ok41 F46 ⟨L, W, (hasT2 (cvt (by (first | rfl | omega | (simp_all; done) | (simp_all; omega))) q332) q333), (by exact hC9)⟩


end Go.Proofs.Ytkjifbgofckfeaa
