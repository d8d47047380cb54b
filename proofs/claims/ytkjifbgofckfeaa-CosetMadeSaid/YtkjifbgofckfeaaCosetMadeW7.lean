/- The functions that the law CosetMade reaches, each by its contract. Part 7. -/
import Derived.Test.YtkjifbgofckfeaaCosetMadeW6
namespace Go.Proofs.Ytkjifbgofckfeaa
open Go.KL

set_option maxHeartbeats 4000000 in
set_option maxRecDepth 100000 in
theorem rParts_fn (n : Nat) (G : List (List Int)) (D : List (List Int)) (F : List (List Int)) (σ : GW) (hlow : Low [] σ) (v0 v1 v2 : Value) (hv0 : Ty.has (Ty.nat n) σ v0) (hv1 : Ty.has (Ty.lst Ty.ints G) σ v1) (hv2 : Ty.has (Ty.lst Ty.ints D) σ v2)  (hP : PrtP n G D) (hnd : D.Nodup) (hF : EltsOk n G F) (hlm : F.length < 1001 * D.length) (hGl : G.length ≤ 1000) (hDl : D.length ≤ 1000) :
    FnL Try.prog 34 #[v0, v1, v2] σ [] (fun v τ => ∃ (T : Nat), ∃ (R : (List (List Int))), ∃ (W : (List (List Int))), ∃ (N : (List (List Int))), (Ty.has (Ty.tup3 (Ty.lst Ty.ints N) (Ty.lst Ty.ints W) (Ty.lst Ty.ints R)) τ v) ∧ (PrS n G D T R W N) ∧ (R.length = T)) := by
 have hn := hP.hn
 have hG := hP.hG
 have hDr := hP.row
 have hzr := rounds_rowN hn
 refine fn_introL hlow Try.func34 rfl Try.ntmps34 (Nat.le_of_ble_eq_true rfl) (fun a0 F0 ok0 hargs => ?_)
 have p0 := pB (hargs 0 _ rfl) hv0
 have p1 := pB (hargs 1 _ rfl) hv1
 have b1 := sl_le p1
 have p2 := pB (hargs 2 _ rfl) hv2
 have b2 := sl_le p2
 clear hargs; refine wp_seq ?_
 refine gI a0 σ ok0 (gC (Ty.val (Value.slice none 0 0)) (gC (Ty.val (Value.slice none 0 0)) (gC (Ty.val (Value.slice none 0 0)) (gE ok0 fun a1 s1 ok1 D1 => ?_)))); refine tn (wp_seq ?_)
 refine gI a1 s1 ok1 (gM (D1.k p0) (gS rfl (fun A B E I J d0 => rP (y_call _ Try.func39 rfl rfl my1 (rRounds_fn (n) _ _ (ef d0 rfl) (by omega)))) (gR (Pr.own 20 22 1 1 (List.map Ty.ints [(roundsL n)])) rfl (by intro A B E I J d0; exact rP ((y_lit1 (k := 20) Try.underlying24 Try.inf22 rfl (one_sl) (ef d0 rfl)).mono (fun _ _ h => cvo (by simp) (by first | (simp; done) | rfl) h))) (gE2 ok1 fun a2 s2 ok2 D2 => ?_))))
 obtain ⟨x1, hx1⟩ : ∃ x, a2.eval (.tmp 25) = x := ⟨_, rfl⟩
 have q6 : At (Ty.val x1) s2 a2 (.tmp 25) := hx1
 have o1 := al2 (R := (Pr.own 20 22 1 1 (List.map Ty.ints [(roundsL n)]))) hx1 (D2.done 2 (by decide))
 refine tL ok2 (Yld.toL (y_as q6)) fun a3 s3 hs1 ok3 r1 sm1 => ?_
 have F3 := ((F0.step0 D1.stp).step0 D2.stp).sl hs1
 have q9 : At (Ty.val x1) s3 a3 (.tmp 9) := r1
 clear r1; refine wpList_nil (tn (wp_seq ?_))
 refine gI a3 s3 ok3 (gR (Pr.own 21 22 1 1 (List.map Ty.ints [([] : List Int)])) rfl (by intro A B E I J; exact rP ((y_lit1 (k := 21) Try.underlying24 Try.inf22 rfl (one_sl) (nil_lst (f := Ty.int) (xs := ([] : List Int)) rfl (show Ty.has (Ty.val (Value.slice none 0 0)) B (A.eval ((Operand.const (Value.slice none 0 0)))) from rfl))).mono (fun _ _ h => cvo (by simp) (by first | (simp; done) | rfl) h))) (gE2 ok3 fun a4 s4 ok4 D3 => ?_)); have o3 := Own.k0 (Own.kl o1 hs1) D3.stp
 obtain ⟨x2, hx2⟩ : ∃ x, a4.eval (.tmp 26) = x := ⟨_, rfl⟩
 have q13 : At (Ty.val x2) s4 a4 (.tmp 26) := hx2
 have o4 := al2 (R := (Pr.own 21 22 1 1 (List.map Ty.ints [([] : List Int)]))) hx2 (D3.done 0 (by decide))
 refine tL ok4 (Yld.toL (y_as q13)) fun a5 s5 hs2 ok5 r2 sm2 => ?_
 have F5 := (F3.step0 D3.stp).sl hs2
 have q17 : At (Ty.val x2) s5 a5 (.tmp 10) := r2
 clear r2; refine wpList_nil (tn (wp_seq ?_))
 refine gI a5 s5 ok5 (gC (Ty.val (Value.slice none 0 0)) (gE ok5 fun a6 s6 ok6 D4 => ?_)); have o7 := Own.k0 (Own.kl o3 hs2) D4.stp; have o8 := Own.k0 (Own.kl o4 hs2) D4.stp; refine tn (wp_seq ?_)
 refine gI a6 s6 ok6 (gR (Pr.ownm Ty.int kI 23 (fun _ => none : Int → Option Int)) rfl (by intro A B E I J; exact rP (y_makemap 23)) (gE2 ok6 fun a7 s7 ok7 D5 => ?_)); have o9 := Own.k0 o7 D5.stp; have o10 := Own.k0 o8 D5.stp
 obtain ⟨x3, hx3⟩ : ∃ x, a7.eval (.tmp 27) = x := ⟨_, rfl⟩
 have q28 : At (Ty.val x3) s7 a7 (.tmp 27) := hx3
 have o11 := al2 (R := (Pr.ownm Ty.int kI 23 (fun _ => none : Int → Option Int))) hx3 (D5.done 0 (by decide))
 refine tL ok7 (Yld.toL (y_as q28)) fun a8 s8 hs3 ok8 r3 sm3 => ?_
 have F8 := ((F5.step0 D4.stp).step0 D5.stp).sl hs3
 have q34 : At (Ty.val x3) s8 a8 (.tmp 12) := r3
 clear r3; refine wpList_nil (tn (wp_seq (wp_seq ?_)))
 refine gI a8 s8 ok8 (gC (Ty.int (0 : Int)) (gE ok8 fun a9 s9 ok9 D6 => ?_)); have o15 := Own.k0 (Own.kl o9 hs3) D6.stp; have o16 := Own.k0 (Own.kl o10 hs3) D6.stp; have o17 := OwnM.k0 (OwnM.kl o11 hs3) D6.stp; refine tn (wp_block ?_)
 refine loop (fun n1 a10 w1 => ∃ (t1 : GW) (k : Nat) (f0 : (Int → Option Int)), t1.w = w1 ∧ FromL [] σ t1 ∧ Ok 127 [] a10 ∧ At (Ty.nat k) t1 a10 (.tmp 13) ∧ At (Ty.lst Ty.ints G) t1 a10 (.tmp 1) ∧ At (Ty.lst Ty.ints D) t1 a10 (.tmp 2) ∧ At (Ty.val x1) t1 a10 (.tmp 9) ∧ At (Ty.val x2) t1 a10 (.tmp 10) ∧ At (Ty.val (Value.slice none 0 0)) t1 a10 (.tmp 11) ∧ At (Ty.val x3) t1 a10 (.tmp 12) ∧ OwnM Ty.int kI t1 23 x3 f0 ∧ Own t1 20 22 1 x1 1 (List.map Ty.ints [(roundsL n)]) ∧ Own t1 21 22 1 x2 1 (List.map Ty.ints [([] : List Int)]) ∧ (k ≤ D.length) ∧ (DZ0 n D k f0) ∧ n1 = D.length - k) (D.length - (0)) ?_ ?_
 ·
  exact ⟨s9, 0, (fun _ => none), rfl, (F8.step0 D6.stp), ok9, (cvi (by (first | rfl | omega | (simp_all; done) | (simp_all; omega))) (D6.m 0 rfl)), (D6.k (kq hs3 sm3 1 (D5.k (D4.k (kq hs2 sm2 1 (D3.k (kq hs1 sm1 1 (D2.k (D1.k p1))))))))), (D6.k (kq hs3 sm3 2 (D5.k (D4.k (kq hs2 sm2 2 (D3.k (kq hs1 sm1 2 (D2.k (D1.k p2))))))))), (D6.k (kq hs3 sm3 9 (D5.k (D4.k (kq hs2 sm2 9 (D3.k q9)))))), (D6.k (kq hs3 sm3 10 (D5.k (D4.k q17)))), (D6.k (kq hs3 sm3 11 (D5.k (D4.m 0 rfl)))), (D6.k q34), (cvm (by (rfl)) o17), o15, o16, by omega, DZ0.start, rfl⟩
 ·
  rintro n2 a11 w2 ⟨t2, k, f0, rfl, F10, ok10, q42, q43, q44, q45, q46, q47, q48, o18, o19, o20, hk, h0, rfl⟩
  refine wp_seq (wp_seq ?_)
  refine gI a11 t2 ok10 (gM q42 (gM q44 (gS rfl (fun A B E I J d0 => rP (y_len Try.underlying24 (ef d0 rfl))) (gS rfl (fun A B E I J d0 d1 => rP (y_lss (ef d0 rfl) (ef d1 rfl))) (gE ok10 fun a12 s10 ok11 D7 => ?_))))); have F11 := F10.step0 D7.stp; have q49 := D7.k q42; have q50 := D7.k q43; have q51 := D7.k q44; have q52 := D7.k q45; have q53 := D7.k q46; have q54 := D7.k q47; have q55 := D7.k q48; have o21 := OwnM.k0 o18 D7.stp; have o22 := Own.k0 o19 D7.stp; have o23 := Own.k0 o20 D7.stp; refine tn ?_
  refine cond_p (p := (((k : Nat) : Int) < (((List.length D) : Nat) : Int))) (D7.m 3 rfl) (fun c1 => ?_) (fun c1 => ?_)
  ·
   have hkr := hDr _ (mem_atD [] (show k < D.length by omega)); have hkrr := hkr.row; have hkrl := hkr.len
   refine wp_skip (tn (wp_seq (wp_block ?_)))
   refine gI a12 s10 ok11 (gM q55 (gM q51 (gM q49 (gT (Ty.ref [(Ty.lst Ty.int (D.getD k []))]) rfl (fun A B E I J d0 d1 => rP (y_index1 Try.underlying24 Try.inf22 (ef d0 rfl) (ef d1 rfl) (by omega) (lst_get Ty.ints D [] k (by omega)))) (gS rfl (fun A B E I J d0 => rP (y_load Try.underlying22 rfl (ef d0 rfl) rfl)) (gS rfl (fun A B E I J d0 => rP (y_call _ Try.func21 rfl rfl my1 (rRank_fn ((D.getD k [])) _ _ (ef d0 rfl) (by first | omega | assumption)))) (gE2 ok11 fun a13 s11 ok12 D8 => ?_))))))); have o24 := OwnM.k0 o21 D8.stp; have o25 := Own.k0 o22 D8.stp; have o26 := Own.k0 o23 D8.stp
   have q64 : At (Ty.val x3) s11 a13 (.tmp 34) := D8.done 0 (by decide)
   refine tailL0 (L := [23]) (R := (fun _ τ => OwnM Ty.int kI τ 23 x3 (fun x_ => if x_ = (((rankL ((D.getD k []))) : Nat) : Int) then some (0 : Int) else f0 x_))) rfl rfl (YldM.toL (m_mapset (i := (((rankL ((D.getD k []))) : Nat) : Int)) Try.underlying100 (keyInt Try.underlying3) (by decide) o24 q64 (D8.m 5 rfl) rfl)) (fun v1 s12 hs4 r4 => ?_)
   have F13 := (F11.step0 D8.stp).sl hs4; have q66 := kpL hs4 (by decide) rfl (D8.k q49); have q67 := kpL hs4 (by decide) rfl (D8.k q50); have q68 := kpL hs4 (by decide) rfl (D8.k q51); have q69 := kpL hs4 (by decide) rfl (D8.k q52); have q70 := kpL hs4 (by decide) rfl (D8.k q53); have q71 := kpL hs4 (by decide) rfl (D8.k q54); have q72 := kpL hs4 (by decide) rfl (D8.k q55)
   have o27 : OwnM Ty.int kI s12 23 x3 (fun x_ => if x_ = (((rankL ((D.getD k []))) : Nat) : Int) then some (0 : Int) else f0 x_) := r4
   clear r4; refine wpList_nil (bn (tn ?_))
   refine gI a13 s12 ok12 (gM q66 (gT (Ty.nat (k + 1)) rfl (fun A B E I J d0 => rP ((y_add (ef d0 rfl) rfl (w64 (by omega) (by omega))).mono (fun τ _ h => cvi (σ := τ) (by first | omega | exact (Int.natCast_mul _ _).symm) h))) (gB 0 (gE ok12 fun a14 s13 ok13 D9 => ?_)))); have o30 := Own.k0 (Own.kl o25 hs4) D9.stp; have o31 := Own.k0 (Own.kl o26 hs4) D9.stp; have o32 := OwnM.k0 o27 D9.stp
   exact tn ⟨D.length - ((k+1)), by omega, s13, (k+1), (fun p => if p = ((rankL (D.getD k []) : Nat) : Int) then some (0 : Int) else f0 p), rfl, (F13.step0 D9.stp), ok13, (cvi (by (first | rfl | omega | (simp_all; done) | (simp_all; omega))) (D9.m 2 rfl)), (D9.k q67), (D9.k q68), (D9.k q69), (D9.k q70), (D9.k q71), (D9.k q72), (cvm (by (rfl)) o32), o30, o31, by omega, h0.step hP (by omega), rfl⟩
  ·
   have ek : k = D.length := (by omega)
   refine wp_exit (tx (tx (bx (tn (wp_seq (wp_seq ?_))))))
   refine gI a12 s10 ok11 (gC (Ty.int (0 : Int)) (gE ok11 fun a15 s14 ok14 D10 => ?_)); have o33 := OwnM.k0 o21 D10.stp; have o34 := Own.k0 o22 D10.stp; have o35 := Own.k0 o23 D10.stp; refine tn (wp_block ?_)
   have o36 : Own s14 22 22 1 (Value.slice none 0 0) 0 (List.map Ty.ints ([] : List (List Int))) := Own.nil _ _ _ _
   refine loop (fun n3 a16 w3 => ∃ (t3 : GW) (i : Nat) (f : (Int → Option Int)) (R : (List (List Int))) (W : (List (List Int))) (N : (List (List Int))) (x9_1 x10_1 x11_1 : Value), t3.w = w3 ∧ FromL [] σ t3 ∧ Ok 127 [] a16 ∧ At (Ty.nat i) t3 a16 (.tmp 14) ∧ At (Ty.val x9_1) t3 a16 (.tmp 9) ∧ At (Ty.val x10_1) t3 a16 (.tmp 10) ∧ At (Ty.val x11_1) t3 a16 (.tmp 11) ∧ At (Ty.lst Ty.ints G) t3 a16 (.tmp 1) ∧ At (Ty.lst Ty.ints D) t3 a16 (.tmp 2) ∧ At (Ty.val x3) t3 a16 (.tmp 12) ∧ Own t3 20 22 1 x9_1 (List.length R) (List.map Ty.ints R) ∧ Own t3 21 22 1 x10_1 (List.length W) (List.map Ty.ints W) ∧ Own t3 22 22 1 x11_1 (List.length N) (List.map Ty.ints N) ∧ OwnM Ty.int kI t3 23 x3 f ∧ (PrS n G D i R W N) ∧ (i ≤ R.length) ∧ (DMap n D R f) ∧ (WordsB W) ∧ n3 = 1001 - i) (1001 - (0)) ?_ ?_
   ·
    exact ⟨s14, 0, f0, [roundsL n], [[]], ([] : List (List Int)), x1, x2, (Value.slice none 0 0), rfl, (F11.step0 D10.stp), ok14, (cvi (by (first | rfl | omega | (simp_all; done) | (simp_all; omega))) (D10.m 0 rfl)), (D10.k q52), (D10.k q53), (D10.k q54), (D10.k q50), (D10.k q51), (D10.k q55), (cvo (by (first | rfl | simp)) (by (first | rfl | simp)) o34), (cvo (by (first | rfl | simp)) (by (first | rfl | simp)) o35), (cvo (by (first | rfl | simp)) (by (first | rfl | simp)) o36), (cvm (by (rfl)) o33), PrS.start, by simp, DZ0.done hP (ek ▸ h0), wordsB_start, rfl⟩
   ·
    rintro n4 a17 w4 ⟨t4, i, f, R, W, N, x9_1, x10_1, x11_1, rfl, F16, ok15, q88, q89, q90, q91, q92, q93, q94, o37, o38, o39, o40, hS, hi, hf, hwb, rfl⟩
    obtain ⟨hR, hwl, hnl⟩ := hS.ok hP
    have hRl := hR.lim hP hnd hF hlm
    refine wp_seq (wp_seq ?_)
    refine gI a17 t4 ok15 (gM q88 (gM q89 (gT (Ty.nat (List.length R)) rfl (fun A B E I J d0 => rP (own_len Try.underlying24 (al (R := (Pr.own 20 22 1 (List.length R) (List.map Ty.ints R))) (ef d0 rfl) (Own.k0 o37 E)))) (gS rfl (fun A B E I J d0 d1 => rP (y_lss (ef d0 rfl) (ef d1 rfl))) (gE ok15 fun a18 s15 ok16 D11 => ?_))))); have F17 := F16.step0 D11.stp; have q96 := D11.k q89; have q97 := D11.k q90; have q98 := D11.k q91; have o41 := Own.k0 o37 D11.stp; have o42 := Own.k0 o38 D11.stp; have o43 := Own.k0 o39 D11.stp; have o44 := OwnM.k0 o40 D11.stp; refine tn ?_
    refine cond_p (p := (((i : Nat) : Int) < (((List.length R) : Nat) : Int))) (D11.m 3 rfl) (fun c2 => ?_) (fun c2 => ?_)
    ·
     have hi2 : i < R.length := (by omega)
     refine wp_skip (tn (wp_seq (wp_block (wp_seq ?_))))
     refine gI a18 s15 ok16 (gC (Ty.val (Value.slice none 0 0)) (gE ok16 fun a19 s16 ok17 D12 => ?_)); have o45 := Own.k0 o41 D12.stp; have o46 := Own.k0 o42 D12.stp; have o47 := Own.k0 o43 D12.stp; have o48 := OwnM.k0 o44 D12.stp; refine tn (wp_seq (wp_seq ?_))
     refine gI a19 s16 ok17 (gC (Ty.int (0 : Int)) (gE ok17 fun a20 s17 ok18 D13 => ?_)); have o49 := Own.k0 o45 D13.stp; have o50 := Own.k0 o46 D13.stp; have o51 := Own.k0 o47 D13.stp; have o52 := OwnM.k0 o48 D13.stp; refine tn (wp_block ?_)
     have o53 : Own s17 24 3 1 (Value.slice none 0 0) 0 (List.map Ty.int ([] : List Int)) := Own.nil _ _ _ _
     refine loop (fun n5 a21 w5 => ∃ (t5 : GW) (j : Nat) (f2 : (Int → Option Int)) (R2 : (List (List Int))) (W2 : (List (List Int))) (l2 : (List Int)) (x15_2 x9_2 x10_2 : Value), t5.w = w5 ∧ FromL [] σ t5 ∧ Ok 127 [] a21 ∧ At (Ty.nat j) t5 a21 (.tmp 16) ∧ At (Ty.val x15_2) t5 a21 (.tmp 15) ∧ At (Ty.val x9_2) t5 a21 (.tmp 9) ∧ At (Ty.val x10_2) t5 a21 (.tmp 10) ∧ At (Ty.nat i) t5 a21 (.tmp 14) ∧ At (Ty.val x11_1) t5 a21 (.tmp 11) ∧ At (Ty.lst Ty.ints G) t5 a21 (.tmp 1) ∧ At (Ty.lst Ty.ints D) t5 a21 (.tmp 2) ∧ At (Ty.val x3) t5 a21 (.tmp 12) ∧ Own t5 24 3 1 x15_2 (List.length l2) (List.map Ty.int l2) ∧ Own t5 20 22 1 x9_2 (List.length R2) (List.map Ty.ints R2) ∧ Own t5 21 22 1 x10_2 (List.length W2) (List.map Ty.ints W2) ∧ OwnM Ty.int kI t5 23 x3 f2 ∧ Own t5 22 22 1 x11_1 (List.length N) (List.map Ty.ints N) ∧ (j ≤ 2 * G.length) ∧ (PrT G D R W i j R2 W2 l2) ∧ (DMap n D R2 f2) ∧ (WordsB W2) ∧ n5 = 2 * G.length - j) (2 * G.length - (0)) ?_ ?_
     ·
      exact ⟨s17, 0, f, R, W, ([] : List Int), (Value.slice none 0 0), x9_1, x10_1, rfl, ((F17.step0 D12.stp).step0 D13.stp), ok18, (cvi (by (first | rfl | omega | (simp_all; done) | (simp_all; omega))) (D13.m 0 rfl)), (D13.k (D12.m 0 rfl)), (D13.k (D12.k q96)), (D13.k (D12.k q97)), (D13.k (D12.k (D11.k q88))), (D13.k (D12.k q98)), (D13.k (D12.k (D11.k q92))), (D13.k (D12.k (D11.k q93))), (D13.k (D12.k (D11.k q94))), (cvo (by (first | rfl | simp)) (by (first | rfl | simp)) o53), (cvo (by (simp)) (by (simp)) o49), (cvo (by (simp)) (by (simp)) o50), (cvm (by (rfl)) o52), o51, by omega, PrT.start, hf, hwb, rfl⟩
     ·
      rintro n6 a22 w6 ⟨t6, j, f2, R2, W2, l2, x15_2, x9_2, x10_2, rfl, F20, ok19, q120, q121, q122, q123, q124, q125, q126, q127, q128, o54, o55, o56, o57, o58, hj, hT, hf2, hwb2, rfl⟩
      obtain ⟨hR2, hlR2, hwl2, hll2, hlb2⟩ := hT.ok hP hR hwl hi2 (by omega)
      have hRl2 := hR2.lim hP hnd hF hlm
      refine wp_seq (wp_seq ?_)
      refine gI a22 t6 ok19 (gM q120 (gM q126 (gS rfl (fun A B E I J d0 => rP (y_len Try.underlying24 (ef d0 rfl))) (gT (Ty.nat (2 * (List.length G))) rfl (fun A B E I J d0 => rP ((y_mul rfl (ef d0 rfl) (w64 (by omega) (by omega))).mono (fun τ _ h => cvi (σ := τ) (by first | omega | exact (Int.natCast_mul _ _).symm) h))) (gS rfl (fun A B E I J d0 d1 => rP (y_lss (ef d0 rfl) (ef d1 rfl))) (gE ok19 fun a23 s18 ok20 D14 => ?_)))))); have F21 := F20.step0 D14.stp; have q129 := D14.k q120; have q130 := D14.k q121; have q131 := D14.k q122; have q132 := D14.k q123; have q133 := D14.k q124; have q134 := D14.k q125; have q135 := D14.k q126; have q136 := D14.k q127; have q137 := D14.k q128; have o59 := Own.k0 o54 D14.stp; have o60 := Own.k0 o55 D14.stp; have o61 := Own.k0 o56 D14.stp; have o62 := OwnM.k0 o57 D14.stp; have o63 := Own.k0 o58 D14.stp; have q138 := D14.m 4 rfl; refine tn ?_
      refine cond_p (p := (((j : Nat) : Int) < (((2 * (List.length G)) : Nat) : Int))) q138 (fun c3 => ?_) (fun c3 => ?_)
      ·
       have hlt := ltr_row hG (show j < 2 * G.length by omega); have hir := hR2.rows hP (show i < R2.length by omega); have hlr := hlt.1; have hb1 := hlr.bds hir.len; have hrj := hir.by hlr; have hrjr := hrj.row; have hrjl := hrj.len; have hgr := hlt.2; have hgl := (hG _ (mem_atD [] (show j / 2 < G.length by omega))).len; have hll := hlr.len; have hil := hir.len; have hlrr := hlr.row
       refine wp_skip (tn (wp_seq (wp_block (wp_seq ?_))))
       refine gI a23 s18 ok20 (gM q135 (gM q129 (gT (Ty.nat (j / 2)) rfl (fun A B E I J d0 => rP (y_quoN (ef d0 rfl) (toN (σ := B) rfl (by omega)) (by omega) (by omega))) (gT (Ty.ref [(Ty.lst Ty.int (G.getD (j / 2) []))]) rfl (fun A B E I J d0 d1 => rP (y_index1 Try.underlying24 Try.inf22 (ef d0 rfl) (ef d1 rfl) (by omega) (lst_get Ty.ints G [] (j / 2) (by omega)))) (gS rfl (fun A B E I J d0 => rP (y_load Try.underlying22 rfl (ef d0 rfl) rfl)) (gB 0 (gE ok20 fun a24 s19 ok21 D15 => ?_))))))); have q139 := D15.k q129; have o64 := Own.k0 o59 D15.stp; have o65 := Own.k0 o60 D15.stp; have o66 := Own.k0 o61 D15.stp; have o67 := OwnM.k0 o62 D15.stp; have o68 := Own.k0 o63 D15.stp; refine tn (wp_seq ?_)
       refine gI a24 s19 ok21 (gM q139 (gT (Ty.nat (j / 2)) rfl (fun A B E I J d0 => rP (y_quoN (ef d0 rfl) (toN (σ := B) rfl (by omega)) (by omega) (by omega))) (gT (Ty.nat ((j / 2) + 1)) rfl (fun A B E I J d0 => rP ((y_add (ef d0 rfl) rfl (w64 (by omega) (by omega))).mono (fun τ _ h => cvi (σ := τ) (by first | omega | exact (Int.natCast_mul _ _).symm) h))) (gB 0 (gE ok21 fun a25 s20 ok22 D16 => ?_))))); have q149 := D16.k q139; have o69 := Own.k0 o64 D16.stp; have o70 := Own.k0 o65 D16.stp; have o71 := Own.k0 o66 D16.stp; have o72 := OwnM.k0 o67 D16.stp; have o73 := Own.k0 o68 D16.stp; refine tn (wp_seq (wp_seq ?_))
       refine gI a25 s20 ok22 (gM q149 (gT (Ty.nat (j % 2)) rfl (fun A B E I J d0 => rP (y_remN (ef d0 rfl) (toN (σ := B) rfl (by omega)) (by omega))) (gS rfl (fun A B E I J d0 => rP (y_eql (ef d0 rfl) rfl)) (gE ok22 fun a26 s21 ok23 D17 => ?_)))); have F24 := ((F21.step0 D15.stp).step0 D16.stp).step0 D17.stp; have q160 := D17.k q149; have q161 := D17.k (D16.k (D15.k q130)); have q162 := D17.k (D16.k (D15.k q131)); have q163 := D17.k (D16.k (D15.k q132)); have q164 := D17.k (D16.k (D15.k q133)); have q165 := D17.k (D16.k (D15.k q134)); have q166 := D17.k (D16.k (D15.k q135)); have q167 := D17.k (D16.k (D15.k q136)); have q168 := D17.k (D16.k (D15.k q137)); have q169 := D17.k (D16.k (D15.m 5 rfl)); have q170 := D17.k (D16.m 3 rfl); have o74 := Own.k0 o69 D17.stp; have o75 := Own.k0 o70 D17.stp; have o76 := Own.k0 o71 D17.stp; have o77 := OwnM.k0 o72 D17.stp; have o78 := Own.k0 o73 D17.stp; refine tn ?_
       refine Go.KL.join_then (Q' := fun a27 w7 => ∃ (t7 : GW), t7.w = w7 ∧ FromL [] σ t7 ∧ Ok 127 [] a27 ∧ At (Ty.lst Ty.int (ltr G j)) t7 a27 (.tmp 17) ∧ At (Ty.int (ltrN j)) t7 a27 (.tmp 18) ∧ At (Ty.nat j) t7 a27 (.tmp 16) ∧ At (Ty.val x15_2) t7 a27 (.tmp 15) ∧ At (Ty.val x9_2) t7 a27 (.tmp 9) ∧ At (Ty.val x10_2) t7 a27 (.tmp 10) ∧ At (Ty.nat i) t7 a27 (.tmp 14) ∧ At (Ty.val x11_1) t7 a27 (.tmp 11) ∧ At (Ty.lst Ty.ints G) t7 a27 (.tmp 1) ∧ At (Ty.lst Ty.ints D) t7 a27 (.tmp 2) ∧ At (Ty.val x3) t7 a27 (.tmp 12) ∧ Own t7 24 3 1 x15_2 (List.length l2) (List.map Ty.int l2) ∧ Own t7 20 22 1 x9_2 (List.length R2) (List.map Ty.ints R2) ∧ Own t7 21 22 1 x10_2 (List.length W2) (List.map Ty.ints W2) ∧ OwnM Ty.int kI t7 23 x3 f2 ∧ Own t7 22 22 1 x11_1 (List.length N) (List.map Ty.ints N) ∧ True) ?_ ?_
       ·
        refine cond_p (p := ((((j % 2) : Nat) : Int) = (1 : Int))) (D17.m 2 rfl) (fun c4 => ?_) (fun c4 => ?_)
        ·
         refine wp_seq ?_
         refine gI a26 s21 ok23 (gM q169 (gS rfl (fun A B E I J d0 => rP (y_call _ Try.func23 rfl rfl my1 (rUndo_fn ((G.getD (j / 2) [])) _ _ (ef d0 rfl) (by assumption)))) (gB 0 (gE ok23 fun a28 s22 ok24 D18 => ?_)))); have o79 := Own.k0 o74 D18.stp; have o80 := Own.k0 o75 D18.stp; have o81 := Own.k0 o76 D18.stp; have o82 := OwnM.k0 o77 D18.stp; have o83 := Own.k0 o78 D18.stp; refine tn ?_
         refine gI a28 s22 ok24 (gM (D18.k q170) (gT (Ty.int (-((((j / 2) + 1) : Nat) : Int))) rfl (fun A B E I J d0 => rP (y_neg (ef d0 rfl) (w64 (by omega) (by omega)))) (gB 0 (gE ok24 fun a29 s23 ok25 D19 => ?_)))); have o84 := Own.k0 o79 D19.stp; have o85 := Own.k0 o80 D19.stp; have o86 := Own.k0 o81 D19.stp; have o87 := OwnM.k0 o82 D19.stp; have o88 := Own.k0 o83 D19.stp
         exact tn ⟨s23, rfl, ((F24.step0 D18.stp).step0 D19.stp), ok25, (cvt (by (unfold ltr; rw [if_pos (by omega)])) (D19.k (D18.m 2 rfl))), (cvi (by (unfold ltrN; rw [if_pos (by omega)])) (D19.m 2 rfl)), (D19.k (D18.k q160)), (D19.k (D18.k q161)), (D19.k (D18.k q162)), (D19.k (D18.k q163)), (D19.k (D18.k q164)), (D19.k (D18.k q165)), (D19.k (D18.k q166)), (D19.k (D18.k q167)), (D19.k (D18.k q168)), o84, o85, o86, o87, o88, trivial⟩
        ·
         refine wp_skip ?_
         exact tn ⟨s21, rfl, F24, ok23, (cvt (by (unfold ltr; rw [if_neg (by omega)])) q169), (cvi (by (unfold ltrN; rw [if_neg (by omega)])) q170), q160, q161, q162, q163, q164, q165, q166, q167, q168, o74, o75, o76, o77, o78, trivial⟩
       ·
        rintro a30 w8 ⟨t8, rfl, F27, ok26, q194, q195, q196, q197, q198, q199, q200, q201, q202, q203, q204, o89, o90, o91, o92, o93, -⟩
        refine wp_seq ?_
        refine gI a30 t8 ok26 (gM q198 (gM q200 (gT (Ty.val (cellPtr x9_2 i)) rfl (fun A B E I J d0 d1 => rP (own_index1 (i := ((i : Nat) : Int)) Try.underlying24 Try.inf22 (Own.k0 o90 E) (ef d0 rfl) (ef d1 rfl) (by omega) (by omega))) (gS rfl (fun A B E I J d0 => rP (own_load Try.underlying22 rfl (Own.k0 o90 E) (ef d0 rfl) (lst_get Ty.ints R2 [] i (by omega)))) (gM q194 (gS rfl (fun A B E I J d0 d1 => rP (y_call _ Try.func22 rfl rfl my2 (rBy_fn ((R2.getD i [])) ((ltr G j)) _ _ _ (ef d0 rfl) (ef d1 rfl) (by first | assumption | omega) (by first | assumption | omega)))) (gB 0 (gE ok26 fun a31 s24 ok27 D20 => ?_)))))))); have q214 := D20.k q204; have o94 := Own.k0 o89 D20.stp; have o95 := Own.k0 o90 D20.stp; have o96 := Own.k0 o91 D20.stp; have o97 := OwnM.k0 o92 D20.stp; have o98 := Own.k0 o93 D20.stp; have q215 := D20.m 6 rfl; refine tn (wp_seq ?_)
        refine gI a31 s24 ok27 (gM q214 (gM q215 (gS rfl (fun A B E I J d0 => rP (y_call _ Try.func21 rfl rfl my1 (rRank_fn ((byL ((R2.getD i [])) ((ltr G j)))) _ _ (ef d0 rfl) (by first | omega | assumption)))) (gT (Ty.tup2 (Ty.int ((f2 (((rankL ((byL ((R2.getD i [])) ((ltr G j))))) : Nat) : Int)).getD 0)) (Ty.bool (Option.isSome (f2 (((rankL ((byL ((R2.getD i [])) ((ltr G j))))) : Nat) : Int))))) rfl (fun A B E I J d0 d1 => rP (y_lookup2 (i := (((rankL ((byL ((R2.getD i [])) ((ltr G j))))) : Nat) : Int)) (z := 0) Try.underlying100 (keyInt Try.underlying3) Try.inf3 (fun _ => rfl) (OwnM.k0 o97 E) (ef d0 rfl) (ef d1 rfl))) (gS rfl (fun A B E I J d0 => rP (y_move (ef d0 rfl))) (gT (Ty.int ((f2 (((rankL ((byL ((R2.getD i [])) ((ltr G j))))) : Nat) : Int)).getD 0)) rfl (fun A B E I J d0 => rP (y_ext2_0 (ef d0 rfl))) (gT (Ty.bool (Option.isSome (f2 (((rankL ((byL ((R2.getD i [])) ((ltr G j))))) : Nat) : Int)))) rfl (fun A B E I J d0 d1 => rP (y_ext2_1 (ef d0 rfl))) (gB 0 (gB 0 (gE ok27 fun a32 s25 ok28 D21 => ?_)))))))))); have o99 := Own.k0 o94 D21.stp; have o100 := Own.k0 o95 D21.stp; have o101 := Own.k0 o96 D21.stp; have o102 := OwnM.k0 o97 D21.stp; have o103 := Own.k0 o98 D21.stp; refine tn (wp_seq (wp_seq ?_))
        refine gI a32 s25 ok28 (gM (D21.m 8 rfl) (gS rfl (fun A B E I J d0 => rP (y_not (ef d0 rfl))) (gE ok28 fun a33 s26 ok29 D22 => ?_))); have F30 := ((F27.step0 D20.stp).step0 D21.stp).step0 D22.stp; have q230 := D22.k (D21.k (D20.k q196)); have q231 := D22.k (D21.k (D20.k q197)); have q232 := D22.k (D21.k (D20.k q198)); have q233 := D22.k (D21.k (D20.k q199)); have q234 := D22.k (D21.k (D20.k q200)); have q235 := D22.k (D21.k (D20.k q201)); have q236 := D22.k (D21.k (D20.k q202)); have q237 := D22.k (D21.k (D20.k q203)); have q238 := D22.k (D21.k q214); have o104 := Own.k0 o99 D22.stp; have o105 := Own.k0 o100 D22.stp; have o106 := Own.k0 o101 D22.stp; have o107 := OwnM.k0 o102 D22.stp; have o108 := Own.k0 o103 D22.stp; refine tn ?_
        refine cond_t (D22.m 1 rfl) (fun c5 => ?_) (fun c5 => ?_)
        ·
         have hfn := dmap_none hf2 hrj (by simpa using c5); have hwi := hwb2 i (by omega)
         refine wp_seq ?_
         refine gI a33 s26 ok29 (gM q232 (gT (Ty.nat (List.length R2)) rfl (fun A B E I J d0 => rP (own_len Try.underlying24 (al (R := (Pr.own 20 22 1 (List.length R2) (List.map Ty.ints R2))) (ef d0 rfl) (Own.k0 o105 E)))) (gB 0 (gE ok29 fun a34 s27 ok30 D23 => ?_)))); have q245 := D23.k q232; have q252 := D23.k (D22.k (D21.k q215)); have o109 := Own.k0 o104 D23.stp; have o110 := Own.k0 o105 D23.stp; have o111 := Own.k0 o106 D23.stp; have o112 := OwnM.k0 o107 D23.stp; have o113 := Own.k0 o108 D23.stp; refine tn (wp_seq ?_)
         refine gI a34 s27 ok30 (gM q245 (gM q252 (gT (Ty.sl 1 1 [(Ty.lst Ty.int (byL ((R2.getD i [])) ((ltr G j))))]) rfl (fun A B E I J d0 => rP (y_build1o Try.underlying24 Try.inf22 rfl (one_sl) (ef d0 rfl))) (gE2 ok30 fun a35 s28 ok31 D24 => ?_)))); have o114 := Own.k0 o109 D24.stp; have o115 := Own.k0 o110 D24.stp; have o116 := Own.k0 o111 D24.stp; have o117 := OwnM.k0 o112 D24.stp; have o118 := Own.k0 o113 D24.stp
         have q266 : At (Ty.val x9_2) s28 a35 (.tmp 85) := D24.done 0 (by decide)
         have q267 := D24.m 2 rfl
         have b3 := sl_le q267
         refine tL ok31 (YldM.toL (m_append Try.underlying24 Try.inf22 (by decide) rfl (by decide) (al (R := (Pr.own 20 22 1 (List.length R2) (List.map Ty.ints R2))) q266 o115) q267 (by intro U hU; simp at hU; subst hU; exact one_sl) (by omega) (by omega))) fun a36 s29 hs5 ok32 r5 sm4 => ?_
         have F33 := ((F30.step0 D23.stp).step0 D24.stp).sl hs5; have q271 := kq hs5 sm4 9 (D24.k q245)
         obtain ⟨x4, hx4⟩ : ∃ x, a36.eval (.tmp 88) = x := ⟨_, rfl⟩
         have q280 : At (Ty.val x4) s29 a36 (.tmp 88) := hx4
         have o119 := al2 (R := (Pr.own 20 22 1 (List.length (R2 ++ [(byL ((R2.getD i [])) ((ltr G j)))])) (List.map Ty.ints (R2 ++ [(byL ((R2.getD i [])) ((ltr G j)))])))) hx4 (cvo (by simp) (by first | (rw [List.map_append]; rfl) | simp) r5)
         clear r5
         refine tL ok32 (Yld.toL (y_as q280)) fun a37 s30 hs6 ok33 r6 sm5 => ?_
         have F34 := F33.sl hs6; have q284 := kq hs6 sm5 10 (kq hs5 sm4 10 (D24.k (D23.k q233))); have q285 := kq hs6 sm5 14 (kq hs5 sm4 14 (D24.k (D23.k q234))); have o125 := Own.kl (Own.kl o116 hs5) hs6
         have q292 : At (Ty.val x4) s30 a37 (.tmp 9) := r6
         clear r6; refine wpList_nil (tn (wp_seq ?_))
         refine gI a37 s30 ok33 (gM q284 (gR (Pr.own 26 3 1 0 (List.map Ty.int ([] : List Int))) rfl (by intro A B E I J; exact rP ((y_lit0 (k := 26) Try.underlying22 Try.inf3).mono (fun _ _ h => cvo (by simp) (by simp) h))) (gM q284 (gM q285 (gT (Ty.val (cellPtr x10_2 i)) rfl (fun A B E I J d0 d1 => rP (own_index1 (i := ((i : Nat) : Int)) Try.underlying24 Try.inf22 (Own.k0 o125 E) (ef d0 rfl) (ef d1 rfl) (by omega) (by omega))) (gS rfl (fun A B E I J d0 => rP (own_load Try.underlying22 rfl (Own.k0 o125 E) (ef d0 rfl) (lst_get Ty.ints W2 [] i (by omega)))) (gE2 ok33 fun a38 s31 ok34 D25 => ?_))))))); have o129 := Own.k0 (Own.kl (Own.kl o114 hs5) hs6) D25.stp; have o130 := Own.k0 o125 D25.stp; have o131 := OwnM.k0 (OwnM.kl (OwnM.kl o117 hs5) hs6) D25.stp; have o132 := Own.k0 (Own.kl (Own.kl o118 hs5) hs6) D25.stp; have o133 := Own.k0 (Own.kl o119 hs6) D25.stp
         have q305 : At (Ty.val x10_2) s31 a38 (.tmp 89) := D25.done 0 (by decide)
         obtain ⟨x5, hx5⟩ : ∃ x, a38.eval (.tmp 90) = x := ⟨_, rfl⟩
         have q306 : At (Ty.val x5) s31 a38 (.tmp 90) := hx5
         have o134 := al2 (R := (Pr.own 26 3 1 0 (List.map Ty.int ([] : List Int)))) hx5 (D25.done 1 (by decide))
         have q307 := D25.m 5 rfl
         have b4 := sl_le q307
         refine tL ok34 (YldM.toL (m_append Try.underlying22 Try.inf3 (by decide) rfl (by decide) (al (R := (Pr.own 26 3 1 0 (List.map Ty.int ([] : List Int)))) q306 o134) q307 (one_map (fun _ => one_val rfl)) (by omega) (by omega))) fun a39 s32 hs7 ok35 r7 sm6 => ?_
         have F36 := (F34.step0 D25.stp).sl hs7
         obtain ⟨x6, hx6⟩ : ∃ x, a39.eval (.tmp 95) = x := ⟨_, rfl⟩
         have q321 : At (Ty.val x6) s32 a39 (.tmp 95) := hx6
         have o135 := al2 (R := (Pr.own 26 3 1 (List.length (W2.getD i [])) (List.map Ty.int (W2.getD i [])))) hx6 (cvo (by first | (simp; done) | (simp; omega)) (by first | (rw [List.map_append]; rfl) | simp) r7)
         clear r7
         refine tL ok35 (Yld.toL (y_mv (kq hs7 sm6 18 (D25.k (kq hs6 sm5 18 (kq hs5 sm4 18 (D24.k (D23.k (D22.k (D21.k (D20.k q195))))))))))) fun a40 s33 hs8 ok36 r8 sm7 => ?_
         have F37 := F36.sl hs8
         have q335 : At (Ty.int (ltrN j)) s33 a40 (.tmp 96) := r8
         clear r8
         refine tL (R := (fun v τ => Pr.has (Ty.pr (Ty.sl 1 1 [(Ty.int (ltrN j))])) τ v)) ok36 (Yld.toL (y_build1o Try.underlying22 Try.inf3 rfl (one_val rfl) q335)) fun a41 s34 hs9 ok37 r9 sm8 => ?_
         have F38 := F37.sl hs9
         have q349 : At (Ty.sl 1 1 [(Ty.int (ltrN j))]) s34 a41 (.tmp 97) := r9
         clear r9
         refine tL ok37 (YldM.toL (m_append Try.underlying22 Try.inf3 (by decide) rfl (by decide) (al (R := (Pr.own 26 3 1 (List.length (W2.getD i [])) (List.map Ty.int (W2.getD i [])))) (kq hs9 sm8 95 (kq hs8 sm7 95 q321)) (Own.kl (Own.kl o135 hs8) hs9)) q349 (by intro U hU; simp at hU; subst hU; exact one_val rfl) (by omega) (by omega))) fun a42 s35 hs10 ok38 r10 sm9 => ?_
         have F39 := F38.sl hs10
         obtain ⟨x7, hx7⟩ : ∃ x, a42.eval (.tmp 98) = x := ⟨_, rfl⟩
         have q362 : At (Ty.val x7) s35 a42 (.tmp 98) := hx7
         have o153 := al2 (R := (Pr.own 26 3 1 (List.length ((W2.getD i []) ++ [(ltrN j)])) (List.map Ty.int ((W2.getD i []) ++ [(ltrN j)])))) hx7 (cvo (by simp) (by first | (rw [List.map_append]; rfl) | simp) r10)
         clear r10
         obtain ⟨t9, e1, h1, q363⟩ := Own.seal o153 (by decide)
         rw [← e1]
         have F40 := F39.step h1 (by decide); have o159 := Own.keepL (Own.kl (Own.kl (Own.kl (Own.kl o129 hs7) hs8) hs9) hs10) (h1.toL (L := [26]) (by simp)) (by decide) (by decide); have o160 := Own.keepL (Own.kl (Own.kl (Own.kl (Own.kl o130 hs7) hs8) hs9) hs10) (h1.toL (L := [26]) (by simp)) (by decide) (by decide); have o161 := OwnM.keepL (OwnM.kl (OwnM.kl (OwnM.kl (OwnM.kl o131 hs7) hs8) hs9) hs10) (h1.toL (L := [26]) (by simp)) (by decide) (by decide); have o162 := Own.keepL (Own.kl (Own.kl (Own.kl (Own.kl o132 hs7) hs8) hs9) hs10) (h1.toL (L := [26]) (by simp)) (by decide) (by decide); have o163 := Own.keepL (Own.kl (Own.kl (Own.kl (Own.kl o133 hs7) hs8) hs9) hs10) (h1.toL (L := [26]) (by simp)) (by decide) (by decide); have q364 := Ty.up (Ty.nat j) (h1.le (by decide)) (kq hs10 sm9 16 (kq hs9 sm8 16 (kq hs8 sm7 16 (kq hs7 sm6 16 (D25.k (kq hs6 sm5 16 (kq hs5 sm4 16 (D24.k (D23.k q230))))))))); have q365 := Ty.up (Ty.val x15_2) (h1.le (by decide)) (kq hs10 sm9 15 (kq hs9 sm8 15 (kq hs8 sm7 15 (kq hs7 sm6 15 (D25.k (kq hs6 sm5 15 (kq hs5 sm4 15 (D24.k (D23.k q231))))))))); have q366 := Ty.up (Ty.val x10_2) (h1.le (by decide)) (kq hs10 sm9 10 (kq hs9 sm8 10 (kq hs8 sm7 10 (kq hs7 sm6 10 (D25.k q284))))); have q367 := Ty.up (Ty.nat i) (h1.le (by decide)) (kq hs10 sm9 14 (kq hs9 sm8 14 (kq hs8 sm7 14 (kq hs7 sm6 14 (D25.k q285))))); have q368 := Ty.up (Ty.val x11_1) (h1.le (by decide)) (kq hs10 sm9 11 (kq hs9 sm8 11 (kq hs8 sm7 11 (kq hs7 sm6 11 (D25.k (kq hs6 sm5 11 (kq hs5 sm4 11 (D24.k (D23.k q235))))))))); have q369 := Ty.up (Ty.lst Ty.ints G) (h1.le (by decide)) (kq hs10 sm9 1 (kq hs9 sm8 1 (kq hs8 sm7 1 (kq hs7 sm6 1 (D25.k (kq hs6 sm5 1 (kq hs5 sm4 1 (D24.k (D23.k q236))))))))); have q370 := Ty.up (Ty.lst Ty.ints D) (h1.le (by decide)) (kq hs10 sm9 2 (kq hs9 sm8 2 (kq hs8 sm7 2 (kq hs7 sm6 2 (D25.k (kq hs6 sm5 2 (kq hs5 sm4 2 (D24.k (D23.k q237)))))))))
         have q371 := Ty.up (Ty.val x3) (h1.le (by decide)) (kq hs10 sm9 12 (kq hs9 sm8 12 (kq hs8 sm7 12 (kq hs7 sm6 12 (D25.k (kq hs6 sm5 12 (kq hs5 sm4 12 (D24.k (D23.k q238))))))))); have q372 := Ty.up (Ty.lst Ty.int (byL ((R2.getD i [])) ((ltr G j)))) (h1.le (by decide)) (kq hs10 sm9 19 (kq hs9 sm8 19 (kq hs8 sm7 19 (kq hs7 sm6 19 (D25.k (kq hs6 sm5 19 (kq hs5 sm4 19 (D24.k q252)))))))); have q373 := Ty.up (Ty.nat (List.length R2)) (h1.le (by decide)) (kq hs10 sm9 20 (kq hs9 sm8 20 (kq hs8 sm7 20 (kq hs7 sm6 20 (D25.k (kq hs6 sm5 20 (kq hs5 sm4 20 (D24.k (D23.m 2 rfl))))))))); have q374 := Ty.up (Ty.val x4) (h1.le (by decide)) (kq hs10 sm9 9 (kq hs9 sm8 9 (kq hs8 sm7 9 (kq hs7 sm6 9 (D25.k q292))))); have q375 := Ty.up (Ty.val x10_2) (h1.le (by decide)) (kq hs10 sm9 89 (kq hs9 sm8 89 (kq hs8 sm7 89 (kq hs7 sm6 89 q305))))
         have q376 : At (Ty.lst Ty.int ((W2.getD i []) ++ [(ltrN j)])) t9 a42 (.tmp 98) := by have e : a42.eval (.tmp 98) = x7 := q362; show Ty.has _ _ _; rw [e]; exact q363
         refine tL (R := (fun v τ => Pr.has (Ty.pr (Ty.sl 1 1 [(Ty.lst Ty.int ((W2.getD i []) ++ [(ltrN j)]))])) τ v)) ok38 (Yld.toL (y_build1o Try.underlying24 Try.inf22 rfl (one_sl) q376)) fun a43 s36 hs11 ok39 r11 sm10 => ?_
         have F41 := F40.sl hs11
         have q389 : At (Ty.sl 1 1 [(Ty.lst Ty.int ((W2.getD i []) ++ [(ltrN j)]))]) s36 a43 (.tmp 99) := r11
         clear r11
         refine tL ok39 (YldM.toL (m_append Try.underlying24 Try.inf22 (by decide) rfl (by decide) (al (R := (Pr.own 21 22 1 (List.length W2) (List.map Ty.ints W2))) (kq hs11 sm10 89 q375) (Own.kl o160 hs11)) q389 (by intro U hU; simp at hU; subst hU; exact one_sl) (by omega) (by omega))) fun a44 s37 hs12 ok40 r12 sm11 => ?_
         have F42 := F41.sl hs12; have q392 := kq hs12 sm11 10 (kq hs11 sm10 10 q366)
         obtain ⟨x8, hx8⟩ : ∃ x, a44.eval (.tmp 100) = x := ⟨_, rfl⟩
         have q401 : At (Ty.val x8) s37 a44 (.tmp 100) := hx8
         have o169 := al2 (R := (Pr.own 21 22 1 (List.length (W2 ++ [((W2.getD i []) ++ [(ltrN j)])])) (List.map Ty.ints (W2 ++ [((W2.getD i []) ++ [(ltrN j)])])))) hx8 (cvo (by simp) (by first | (rw [List.map_append]; rfl) | simp) r12)
         clear r12
         refine tL ok40 (Yld.toL (y_as q401)) fun a45 s38 hs13 ok41 r13 sm12 => ?_
         have F43 := F42.sl hs13
         have q412 : At (Ty.val x8) s38 a45 (.tmp 10) := r13
         clear r13; refine wpList_nil (tn (wp_seq ?_))
         refine gI a45 s38 ok41 (gC (Ty.int (0 : Int)) (gE ok41 fun a46 s39 ok42 D26 => ?_)); have o179 := Own.k0 (Own.kl (Own.kl (Own.kl o159 hs11) hs12) hs13) D26.stp; have o180 := OwnM.k0 (OwnM.kl (OwnM.kl (OwnM.kl o161 hs11) hs12) hs13) D26.stp; have o181 := Own.k0 (Own.kl (Own.kl (Own.kl o162 hs11) hs12) hs13) D26.stp; have o182 := Own.k0 (Own.kl (Own.kl (Own.kl o163 hs11) hs12) hs13) D26.stp; have o183 := Own.k0 (Own.kl o169 hs13) D26.stp; refine tn (wp_block ?_)
         refine loop (fun n7 a47 w9 => ∃ (t10 : GW) (m : Nat) (f3 : (Int → Option Int)), t10.w = w9 ∧ FromL [] σ t10 ∧ Ok 127 [] a47 ∧ At (Ty.nat m) t10 a47 (.tmp 22) ∧ At (Ty.nat j) t10 a47 (.tmp 16) ∧ At (Ty.val x15_2) t10 a47 (.tmp 15) ∧ At (Ty.nat i) t10 a47 (.tmp 14) ∧ At (Ty.val x11_1) t10 a47 (.tmp 11) ∧ At (Ty.lst Ty.ints G) t10 a47 (.tmp 1) ∧ At (Ty.lst Ty.ints D) t10 a47 (.tmp 2) ∧ At (Ty.val x3) t10 a47 (.tmp 12) ∧ At (Ty.lst Ty.int (byL ((R2.getD i [])) ((ltr G j)))) t10 a47 (.tmp 19) ∧ At (Ty.nat (List.length R2)) t10 a47 (.tmp 20) ∧ At (Ty.val x4) t10 a47 (.tmp 9) ∧ At (Ty.val x8) t10 a47 (.tmp 10) ∧ OwnM Ty.int kI t10 23 x3 f3 ∧ Own t10 24 3 1 x15_2 (List.length l2) (List.map Ty.int l2) ∧ Own t10 22 22 1 x11_1 (List.length N) (List.map Ty.ints N) ∧ Own t10 20 22 1 x4 (List.length (R2 ++ [(byL ((R2.getD i [])) ((ltr G j)))])) (List.map Ty.ints (R2 ++ [(byL ((R2.getD i [])) ((ltr G j)))])) ∧ Own t10 21 22 1 x8 (List.length (W2 ++ [((W2.getD i []) ++ [(ltrN j)])])) (List.map Ty.ints (W2 ++ [((W2.getD i []) ++ [(ltrN j)])])) ∧ (m ≤ D.length) ∧ (DTo n D R2 (byL (R2.getD i []) (ltr G j)) m f3) ∧ n7 = D.length - m) (D.length - (0)) ?_ ?_
         ·
          exact ⟨s39, 0, f2, rfl, (F43.step0 D26.stp), ok42, (cvi (by (first | rfl | omega | (simp_all; done) | (simp_all; omega))) (D26.m 0 rfl)), (D26.k (kq hs13 sm12 16 (kq hs12 sm11 16 (kq hs11 sm10 16 q364)))), (D26.k (kq hs13 sm12 15 (kq hs12 sm11 15 (kq hs11 sm10 15 q365)))), (D26.k (kq hs13 sm12 14 (kq hs12 sm11 14 (kq hs11 sm10 14 q367)))), (D26.k (kq hs13 sm12 11 (kq hs12 sm11 11 (kq hs11 sm10 11 q368)))), (D26.k (kq hs13 sm12 1 (kq hs12 sm11 1 (kq hs11 sm10 1 q369)))), (D26.k (kq hs13 sm12 2 (kq hs12 sm11 2 (kq hs11 sm10 2 q370)))), (D26.k (kq hs13 sm12 12 (kq hs12 sm11 12 (kq hs11 sm10 12 q371)))), (D26.k (kq hs13 sm12 19 (kq hs12 sm11 19 (kq hs11 sm10 19 q372)))), (D26.k (kq hs13 sm12 20 (kq hs12 sm11 20 (kq hs11 sm10 20 q373)))), (D26.k (kq hs13 sm12 9 (kq hs12 sm11 9 (kq hs11 sm10 9 q374)))), (D26.k q412), (cvm (by (rfl)) o180), o179, o181, o182, o183, by omega, DTo.start hf2, rfl⟩
         ·
          rintro n8 a48 w10 ⟨t11, m, f3, rfl, F45, ok43, q425, q426, q427, q428, q429, q430, q431, q432, q433, q434, q435, q436, o184, o185, o186, o187, o188, hm, hD3, rfl⟩
          refine wp_seq (wp_seq ?_)
          refine gI a48 t11 ok43 (gM q425 (gM q431 (gS rfl (fun A B E I J d0 => rP (y_len Try.underlying24 (ef d0 rfl))) (gS rfl (fun A B E I J d0 d1 => rP (y_lss (ef d0 rfl) (ef d1 rfl))) (gE ok43 fun a49 s40 ok44 D27 => ?_))))); have F46 := F45.step0 D27.stp; have q437 := D27.k q425; have q438 := D27.k q426; have q439 := D27.k q427; have q440 := D27.k q428; have q441 := D27.k q429; have q442 := D27.k q430; have q443 := D27.k q431; have q444 := D27.k q432; have q445 := D27.k q433; have q446 := D27.k q434; have q447 := D27.k q435; have q448 := D27.k q436; have o189 := OwnM.k0 o184 D27.stp; have o190 := Own.k0 o185 D27.stp; have o191 := Own.k0 o186 D27.stp; have o192 := Own.k0 o187 D27.stp; have o193 := Own.k0 o188 D27.stp; refine tn ?_
          refine cond_p (p := (((m : Nat) : Int) < (((List.length D) : Nat) : Int))) (D27.m 3 rfl) (fun c6 => ?_) (fun c6 => ?_)
          ·
           have hmr := hDr _ (mem_atD [] (show m < D.length by omega)); have hb2 := hrj.bds hmr.len; have hmb := (hmr.by hrj).row; have hmbl := (hmr.by hrj).len; have hml := hmr.len
           refine wp_skip (tn (wp_seq (wp_block ?_)))
           refine gI a49 s40 ok44 (gM q444 (gM q443 (gM q437 (gT (Ty.ref [(Ty.lst Ty.int (D.getD m []))]) rfl (fun A B E I J d0 d1 => rP (y_index1 Try.underlying24 Try.inf22 (ef d0 rfl) (ef d1 rfl) (by omega) (lst_get Ty.ints D [] m (by omega)))) (gS rfl (fun A B E I J d0 => rP (y_load Try.underlying22 rfl (ef d0 rfl) rfl)) (gM q445 (gS rfl (fun A B E I J d0 d1 => rP (y_call _ Try.func22 rfl rfl my2 (rBy_fn ((D.getD m [])) ((byL ((R2.getD i [])) ((ltr G j)))) _ _ _ (ef d0 rfl) (ef d1 rfl) (by first | assumption | omega) (by first | assumption | omega)))) (gS rfl (fun A B E I J d0 d1 => rP (y_call _ Try.func21 rfl rfl my1 (rRank_fn ((byL ((D.getD m [])) ((byL ((R2.getD i [])) ((ltr G j)))))) _ _ (ef d0 rfl) (by first | omega | assumption)))) (gM q446 (gE2 ok44 fun a50 s41 ok45 D28 => ?_)))))))))); have o194 := OwnM.k0 o189 D28.stp; have o195 := Own.k0 o190 D28.stp; have o196 := Own.k0 o191 D28.stp; have o197 := Own.k0 o192 D28.stp; have o198 := Own.k0 o193 D28.stp
           have q462 : At (Ty.val x3) s41 a50 (.tmp 107) := D28.done 0 (by decide)
           refine tailL0 (L := [23]) (R := (fun _ τ => OwnM Ty.int kI τ 23 x3 (fun x_ => if x_ = (((rankL ((byL ((D.getD m [])) ((byL ((R2.getD i [])) ((ltr G j))))))) : Nat) : Int) then some (((List.length R2) : Nat) : Int) else f3 x_))) rfl rfl (YldM.toL (m_mapset (i := (((rankL ((byL ((D.getD m [])) ((byL ((R2.getD i [])) ((ltr G j))))))) : Nat) : Int)) Try.underlying100 (keyInt Try.underlying3) (by decide) o194 q462 (D28.m 7 rfl) (D28.m 8 rfl))) (fun v2 s42 hs14 r14 => ?_)
           have F48 := (F46.step0 D28.stp).sl hs14; have q465 := kpL hs14 (by decide) rfl (D28.k q437); have q466 := kpL hs14 (by decide) rfl (D28.k q438); have q467 := kpL hs14 (by decide) rfl (D28.k q439); have q468 := kpL hs14 (by decide) rfl (D28.k q440); have q469 := kpL hs14 (by decide) rfl (D28.k q441); have q470 := kpL hs14 (by decide) rfl (D28.k q442); have q471 := kpL hs14 (by decide) rfl (D28.k q443); have q472 := kpL hs14 (by decide) rfl (D28.k q444); have q473 := kpL hs14 (by decide) rfl (D28.k q445); have q474 := kpL hs14 (by decide) rfl (D28.k q446); have q475 := kpL hs14 (by decide) rfl (D28.k q447); have q476 := kpL hs14 (by decide) rfl (D28.k q448)
           have o199 : OwnM Ty.int kI s42 23 x3 (fun x_ => if x_ = (((rankL ((byL ((D.getD m [])) ((byL ((R2.getD i [])) ((ltr G j))))))) : Nat) : Int) then some (((List.length R2) : Nat) : Int) else f3 x_) := r14
           clear r14; refine wpList_nil (bn (tn ?_))
           refine gI a50 s42 ok45 (gM q465 (gT (Ty.nat (m + 1)) rfl (fun A B E I J d0 => rP ((y_add (ef d0 rfl) rfl (w64 (by omega) (by omega))).mono (fun τ _ h => cvi (σ := τ) (by first | omega | exact (Int.natCast_mul _ _).symm) h))) (gB 0 (gE ok45 fun a51 s43 ok46 D29 => ?_)))); have o204 := Own.k0 (Own.kl o195 hs14) D29.stp; have o205 := Own.k0 (Own.kl o196 hs14) D29.stp; have o206 := Own.k0 (Own.kl o197 hs14) D29.stp; have o207 := Own.k0 (Own.kl o198 hs14) D29.stp; have o208 := OwnM.k0 o199 D29.stp
           exact tn ⟨D.length - ((m+1)), by omega, s43, (m+1), (fun p => if p = ((rankL (byL (D.getD m []) (byL (R2.getD i []) (ltr G j))) : Nat) : Int) then some ((R2.length : Nat) : Int) else f3 p), rfl, (F48.step0 D29.stp), ok46, (cvi (by (first | rfl | omega | (simp_all; done) | (simp_all; omega))) (D29.m 2 rfl)), (D29.k q466), (D29.k q467), (D29.k q468), (D29.k q469), (D29.k q470), (D29.k q471), (D29.k q472), (D29.k q473), (D29.k q474), (D29.k q475), (D29.k q476), (cvm (by (first | rfl | simp)) o208), o204, o205, o206, o207, by omega, hD3.step hP hR2 hrj hfn (by omega), rfl⟩
          ·
           have em : m = D.length := (by omega); have hD4 := DTo.done hP hrj (em ▸ hD3)
           refine wp_exit (tx (tx (bx (tn ?_))))
           refine gI a49 s40 ok44 (gM q439 (gM q446 (gT (Ty.sl 1 1 [(Ty.nat (List.length R2))]) rfl (fun A B E I J d0 => rP (y_build1o Try.underlying22 Try.inf3 rfl (one_val rfl) (ef d0 rfl))) (gE2 ok44 fun a52 s44 ok47 D30 => ?_)))); have o209 := OwnM.k0 o189 D30.stp; have o210 := Own.k0 o190 D30.stp; have o211 := Own.k0 o191 D30.stp; have o212 := Own.k0 o192 D30.stp; have o213 := Own.k0 o193 D30.stp
           have q499 : At (Ty.val x15_2) s44 a52 (.tmp 116) := D30.done 0 (by decide)
           have q500 := D30.m 2 rfl
           have b5 := sl_le q500
           refine tL ok47 (YldM.toL (m_append Try.underlying22 Try.inf3 (by decide) rfl (by decide) (al (R := (Pr.own 24 3 1 (List.length l2) (List.map Ty.int l2))) q499 o210) q500 (by intro U hU; simp at hU; subst hU; exact one_val rfl) (by omega) (by omega))) fun a53 s45 hs15 ok48 r15 sm13 => ?_
           have F51 := (F46.step0 D30.stp).sl hs15; have q502 := kq hs15 sm13 15 (D30.k q439)
           obtain ⟨x9, hx9⟩ : ∃ x, a53.eval (.tmp 119) = x := ⟨_, rfl⟩
           have q510 : At (Ty.val x9) s45 a53 (.tmp 119) := hx9
           have o214 := al2 (R := (Pr.own 24 3 1 (List.length (l2 ++ [(((List.length R2) : Nat) : Int)])) (List.map Ty.int (l2 ++ [(((List.length R2) : Nat) : Int)])))) hx9 (cvo (by simp) (by first | (rw [List.map_append]; rfl) | simp) r15)
           clear r15
           refine tL ok48 (Yld.toL (y_as q510)) fun a54 s46 hs16 ok49 r16 sm14 => ?_
           have F52 := F51.sl hs16
           have q519 : At (Ty.val x9) s46 a54 (.tmp 15) := r16
           clear r16; refine wpList_nil (bn (tn ?_))
           refine gI a54 s46 ok49 (gM (kq hs16 sm14 16 (kq hs15 sm13 16 (D30.k q438))) (gT (Ty.nat (j + 1)) rfl (fun A B E I J d0 => rP ((y_add (ef d0 rfl) rfl (w64 (by omega) (by omega))).mono (fun τ _ h => cvi (σ := τ) (by first | omega | exact (Int.natCast_mul _ _).symm) h))) (gB 0 (gE ok49 fun a55 s47 ok50 D31 => ?_)))); have o224 := OwnM.k0 (OwnM.kl (OwnM.kl o209 hs15) hs16) D31.stp; have o225 := Own.k0 (Own.kl (Own.kl o211 hs15) hs16) D31.stp; have o226 := Own.k0 (Own.kl (Own.kl o212 hs15) hs16) D31.stp; have o227 := Own.k0 (Own.kl (Own.kl o213 hs15) hs16) D31.stp; have o228 := Own.k0 (Own.kl o214 hs16) D31.stp
           exact tn ⟨2 * G.length - ((j+1)), by omega, s47, (j+1), f3, (R2 ++ [(byL (R2.getD i []) (ltr G j))]), (W2 ++ [(W2.getD i [] ++ [ltrN j])]), (l2 ++ [((R2.length : Nat) : Int)]), x9, x4, x8, rfl, (F52.step0 D31.stp), ok50, (cvi (by (first | rfl | omega | (simp_all; done) | (simp_all; omega))) (D31.m 2 rfl)), (D31.k q519), (D31.k (kq hs16 sm14 9 (kq hs15 sm13 9 (D30.k q447)))), (D31.k (kq hs16 sm14 10 (kq hs15 sm13 10 (D30.k q448)))), (D31.k (kq hs16 sm14 14 (kq hs15 sm13 14 (D30.k q440)))), (D31.k (kq hs16 sm14 11 (kq hs15 sm13 11 (D30.k q441)))), (D31.k (kq hs16 sm14 1 (kq hs15 sm13 1 (D30.k q442)))), (D31.k (kq hs16 sm14 2 (kq hs15 sm13 2 (D30.k q443)))), (D31.k (kq hs16 sm14 12 (kq hs15 sm13 12 (D30.k q444)))), (cvo (by (first | rfl | simp)) (by (first | rfl | simp)) o228), (cvo (by (first | rfl | simp)) (by (first | rfl | simp)) o226), (cvo (by (first | rfl | simp)) (by (first | rfl | simp)) o227), (cvm (by (rfl)) o224), o225, by omega, hT.new hfn, hD4, hwb2.new (by omega), rfl⟩
        ·
         obtain ⟨kk, hfn, hk2, hkl⟩ := dmap_some hf2 hrj (by simpa using c5)
         refine wp_skip (tn ?_)
         refine gI a33 s26 ok29 (gM q231 (gM (D22.k (D21.m 7 rfl)) (gT (Ty.sl 1 1 [(Ty.int ((f2 (((rankL ((byL ((R2.getD i [])) ((ltr G j))))) : Nat) : Int)).getD 0))]) rfl (fun A B E I J d0 => rP (y_build1o Try.underlying22 Try.inf3 rfl (one_val rfl) (ef d0 rfl))) (gE2 ok29 fun a56 s48 ok51 D32 => ?_)))); have o229 := Own.k0 o104 D32.stp; have o230 := Own.k0 o105 D32.stp; have o231 := Own.k0 o106 D32.stp; have o232 := OwnM.k0 o107 D32.stp; have o233 := Own.k0 o108 D32.stp
         have q538 : At (Ty.val x15_2) s48 a56 (.tmp 116) := D32.done 0 (by decide)
         have q539 := D32.m 2 rfl
         have b6 := sl_le q539
         refine tL ok51 (YldM.toL (m_append Try.underlying22 Try.inf3 (by decide) rfl (by decide) (al (R := (Pr.own 24 3 1 (List.length l2) (List.map Ty.int l2))) q538 o229) q539 (by intro U hU; simp at hU; subst hU; exact one_val rfl) (by omega) (by omega))) fun a57 s49 hs17 ok52 r17 sm15 => ?_
         have F55 := (F30.step0 D32.stp).sl hs17; have q541 := kq hs17 sm15 15 (D32.k q231)
         obtain ⟨x10, hx10⟩ : ∃ x, a57.eval (.tmp 119) = x := ⟨_, rfl⟩
         have q549 : At (Ty.val x10) s49 a57 (.tmp 119) := hx10
         have o234 := al2 (R := (Pr.own 24 3 1 (List.length (l2 ++ [((f2 (((rankL ((byL ((R2.getD i [])) ((ltr G j))))) : Nat) : Int)).getD 0)])) (List.map Ty.int (l2 ++ [((f2 (((rankL ((byL ((R2.getD i [])) ((ltr G j))))) : Nat) : Int)).getD 0)])))) hx10 (cvo (by simp) (by first | (rw [List.map_append]; rfl) | simp) r17)
         clear r17
         refine tL ok52 (Yld.toL (y_as q549)) fun a58 s50 hs18 ok53 r18 sm16 => ?_
         have F56 := F55.sl hs18
         have q558 : At (Ty.val x10) s50 a58 (.tmp 15) := r18
         clear r18; refine wpList_nil (bn (tn ?_))
         refine gI a58 s50 ok53 (gM (kq hs18 sm16 16 (kq hs17 sm15 16 (D32.k q230))) (gT (Ty.nat (j + 1)) rfl (fun A B E I J d0 => rP ((y_add (ef d0 rfl) rfl (w64 (by omega) (by omega))).mono (fun τ _ h => cvi (σ := τ) (by first | omega | exact (Int.natCast_mul _ _).symm) h))) (gB 0 (gE ok53 fun a59 s51 ok54 D33 => ?_)))); have o244 := Own.k0 (Own.kl (Own.kl o230 hs17) hs18) D33.stp; have o245 := Own.k0 (Own.kl (Own.kl o231 hs17) hs18) D33.stp; have o246 := OwnM.k0 (OwnM.kl (OwnM.kl o232 hs17) hs18) D33.stp; have o247 := Own.k0 (Own.kl (Own.kl o233 hs17) hs18) D33.stp; have o248 := Own.k0 (Own.kl o234 hs18) D33.stp
         exact tn ⟨2 * G.length - ((j+1)), by omega, s51, (j+1), f2, R2, W2, (l2 ++ [(kk : Int)]), x10, x9_2, x10_2, rfl, (F56.step0 D33.stp), ok54, (cvi (by (first | rfl | omega | (simp_all; done) | (simp_all; omega))) (D33.m 2 rfl)), (D33.k q558), (D33.k (kq hs18 sm16 9 (kq hs17 sm15 9 (D32.k q232)))), (D33.k (kq hs18 sm16 10 (kq hs17 sm15 10 (D32.k q233)))), (D33.k (kq hs18 sm16 14 (kq hs17 sm15 14 (D32.k q234)))), (D33.k (kq hs18 sm16 11 (kq hs17 sm15 11 (D32.k q235)))), (D33.k (kq hs18 sm16 1 (kq hs17 sm15 1 (D32.k q236)))), (D33.k (kq hs18 sm16 2 (kq hs17 sm15 2 (D32.k q237)))), (D33.k (kq hs18 sm16 12 (kq hs17 sm15 12 (D32.k q238)))), (cvo (by (first | (rw [hk2]; done) | (simp; done) | (rw [hk2]; simp))) (by (first | (rw [hk2]; done) | (simp; done) | (rw [hk2]; simp))) o248), o244, o245, o246, o247, by omega, hT.old hfn, hf2, hwb2, rfl⟩
      ·
       have ej : j = 2 * G.length := (by omega); have hS2 := hS.next hi2 (ej ▸ hT)
       refine wp_exit (tx (tx (bx (tn ?_))))
       obtain ⟨t12, e2, h2, q568⟩ := Own.seal o59 (by decide)
       rw [← e2]
       have F58 := F21.step h2 (by decide); have o249 := Own.keepL o60 (h2.toL (L := [24]) (by simp)) (by decide) (by decide); have o250 := Own.keepL o61 (h2.toL (L := [24]) (by simp)) (by decide) (by decide); have o251 := OwnM.keepL o62 (h2.toL (L := [24]) (by simp)) (by decide) (by decide); have o252 := Own.keepL o63 (h2.toL (L := [24]) (by simp)) (by decide) (by decide); have q569 := Ty.up (Ty.nat j) (h2.le (by decide)) q129
       have q570 : At (Ty.lst Ty.int l2) t12 a23 (.tmp 15) := by have e : a23.eval (.tmp 15) = x15_2 := q130; show Ty.has _ _ _; rw [e]; exact q568
       have q571 := Ty.up (Ty.val x9_2) (h2.le (by decide)) q131; have q572 := Ty.up (Ty.val x10_2) (h2.le (by decide)) q132; have q573 := Ty.up (Ty.nat i) (h2.le (by decide)) q133; have q574 := Ty.up (Ty.val x11_1) (h2.le (by decide)) q134; have q575 := Ty.up (Ty.lst Ty.ints G) (h2.le (by decide)) q135; have q576 := Ty.up (Ty.lst Ty.ints D) (h2.le (by decide)) q136; have q577 := Ty.up (Ty.val x3) (h2.le (by decide)) q137; have q578 := Ty.up (Ty.bool (decide (((j : Nat) : Int) < (((2 * (List.length G)) : Nat) : Int)))) (h2.le (by decide)) q138
       refine gI a23 t12 ok20 (gM q574 (gM q570 (gT (Ty.sl 1 1 [(Ty.lst Ty.int l2)]) rfl (fun A B E I J d0 => rP (y_build1o Try.underlying24 Try.inf22 rfl (one_sl) (ef d0 rfl))) (gE2 ok20 fun a60 s52 ok55 D34 => ?_)))); have o253 := Own.k0 o249 D34.stp; have o254 := Own.k0 o250 D34.stp; have o255 := OwnM.k0 o251 D34.stp; have o256 := Own.k0 o252 D34.stp
       have q586 : At (Ty.val x11_1) s52 a60 (.tmp 120) := D34.done 0 (by decide)
       have q587 := D34.m 2 rfl
       have b7 := sl_le q587
       refine tL ok55 (YldM.toL (m_append Try.underlying24 Try.inf22 (by decide) rfl (by decide) (al (R := (Pr.own 22 22 1 (List.length N) (List.map Ty.ints N))) q586 o256) q587 (by intro U hU; simp at hU; subst hU; exact one_sl) (by omega) (by omega))) fun a61 s53 hs19 ok56 r19 sm17 => ?_
       have F60 := (F58.step0 D34.stp).sl hs19; have q591 := kq hs19 sm17 11 (D34.k q574)
       obtain ⟨x11, hx11⟩ : ∃ x, a61.eval (.tmp 123) = x := ⟨_, rfl⟩
       have q595 : At (Ty.val x11) s53 a61 (.tmp 123) := hx11
       have o257 := al2 (R := (Pr.own 22 22 1 (List.length (N ++ [l2])) (List.map Ty.ints (N ++ [l2])))) hx11 (cvo (by simp) (by first | (rw [List.map_append]; rfl) | simp) r19)
       clear r19
       refine tL ok56 (Yld.toL (y_as q595)) fun a62 s54 hs20 ok57 r20 sm18 => ?_
       have F61 := F60.sl hs20
       have q602 : At (Ty.val x11) s54 a62 (.tmp 11) := r20
       clear r20; refine wpList_nil (bn (tn ?_))
       refine gI a62 s54 ok57 (gM (kq hs20 sm18 14 (kq hs19 sm17 14 (D34.k q573))) (gT (Ty.nat (i + 1)) rfl (fun A B E I J d0 => rP ((y_add (ef d0 rfl) rfl (w64 (by omega) (by omega))).mono (fun τ _ h => cvi (σ := τ) (by first | omega | exact (Int.natCast_mul _ _).symm) h))) (gB 0 (gE ok57 fun a63 s55 ok58 D35 => ?_)))); have o265 := Own.k0 (Own.kl (Own.kl o253 hs19) hs20) D35.stp; have o266 := Own.k0 (Own.kl (Own.kl o254 hs19) hs20) D35.stp; have o267 := OwnM.k0 (OwnM.kl (OwnM.kl o255 hs19) hs20) D35.stp; have o268 := Own.k0 (Own.kl o257 hs20) D35.stp
       exact tn ⟨1001 - ((i + 1)), by omega, s55, (i + 1), f2, R2, W2, (N ++ [l2]), x9_2, x10_2, x11, rfl, (F61.step0 D35.stp), ok58, (cvi (by (first | rfl | omega | (simp_all; done) | (simp_all; omega))) (D35.m 2 rfl)), (D35.k (kq hs20 sm18 9 (kq hs19 sm17 9 (D34.k q571)))), (D35.k (kq hs20 sm18 10 (kq hs19 sm17 10 (D34.k q572)))), (D35.k q602), (D35.k (kq hs20 sm18 1 (kq hs19 sm17 1 (D34.k q575)))), (D35.k (kq hs20 sm18 2 (kq hs19 sm17 2 (D34.k q576)))), (D35.k (kq hs20 sm18 12 (kq hs19 sm17 12 (D34.k q577)))), (cvo (by (simp)) (by (simp)) o265), (cvo (by (simp)) (by (simp)) o266), (cvo (by (first | rfl | simp)) (by (first | rfl | simp)) o268), (cvm (by (rfl)) o267), hS2, by omega, hf2, hwb2, rfl⟩
    ·
     have hTT : R.length = i := (by omega)
     refine wp_exit (tx (tx (bx (tn (wp_seq ?_)))))
     refine gI a18 s15 ok16 (gM q98 (gM q97 (gM q96 (gB 0 (gB 0 (gB 0 (gE ok16 fun a64 s56 ok59 D36 => ?_))))))); have o269 := Own.k0 o41 D36.stp; have o270 := Own.k0 o42 D36.stp; have o271 := Own.k0 o43 D36.stp; have o272 := OwnM.k0 o44 D36.stp
     have q610 : At (Ty.val x11_1) s56 a64 (.tmp 6) := D36.done 3
     have q611 : At (Ty.val x10_1) s56 a64 (.tmp 7) := D36.done 4
     have q612 : At (Ty.val x9_1) s56 a64 (.tmp 8) := D36.done 5
     refine tn (wp_ret ?_)
     obtain ⟨t13, e3, h3, q613⟩ := Own.seal o271 (by decide)
     rw [← e3]
     have F64 := (F17.step0 D36.stp).step h3 (by decide); have o273 := Own.keepL o269 (h3.toL (L := [22]) (by simp)) (by decide) (by decide); have o274 := Own.keepL o270 (h3.toL (L := [22]) (by simp)) (by decide) (by decide)
     have q614 : At (Ty.lst Ty.ints N) t13 a64 (.tmp 6) := by have e : a64.eval (.tmp 6) = x11_1 := q610; show Ty.has _ _ _; rw [e]; exact q613
     have q615 := Ty.up (Ty.val x10_1) (h3.le (by decide)) q611; have q616 := Ty.up (Ty.val x9_1) (h3.le (by decide)) q612
     obtain ⟨t14, e4, h4, q617⟩ := Own.seal o274 (by decide)
     rw [← e4]
     have F65 := F64.step h4 (by decide); have o275 := Own.keepL o273 (h4.toL (L := [21]) (by simp)) (by decide) (by decide); have q618 := Ty.up (Ty.lst Ty.ints N) (h4.le (by decide)) q614
     have q619 : At (Ty.lst Ty.ints W) t14 a64 (.tmp 7) := by have e : a64.eval (.tmp 7) = x10_1 := q615; show Ty.has _ _ _; rw [e]; exact q617
     have q620 := Ty.up (Ty.val x9_1) (h4.le (by decide)) q616
     obtain ⟨t15, e5, h5, q621⟩ := Own.seal o275 (by decide)
     rw [← e5]
     have F66 := F65.step h5 (by decide); have q622 := Ty.up (Ty.lst Ty.ints N) (h5.le (by decide)) q618; have q623 := Ty.up (Ty.lst Ty.ints W) (h5.le (by decide)) q619
     have q624 : At (Ty.lst Ty.ints R) t15 a64 (.tmp 8) := by have e : a64.eval (.tmp 8) = x9_1 := q620; show Ty.has _ _ _; rw [e]; exact q621
     exact retL3 rfl ok59 F66 ⟨i, R, W, N, (hasT3 q622 q623 q624), (by exact hS), (by exact hTT)⟩


set_option maxHeartbeats 4000000 in
set_option maxRecDepth 100000 in
theorem cAll_fn (tv : Value) (nx : Value) (wd : Value) (mv : Value) (H : List (List Int)) (N : List (List Int)) (W : List (List Int)) (σ : GW) (hlow : Low [41, 42, 43] σ) (v0 : Value) (hv0 : Ty.has (Ty.val tv) σ v0) (ho_tv : OwnP σ 41 tv [(Ty.val nx), (Ty.val wd), (Ty.lst Ty.ints H), (Ty.val mv)]) (ho_nx : Own σ 42 22 1 nx (List.length N) (List.map Ty.ints N)) (ho_wd : Own σ 43 22 1 wd (List.length W) (List.map Ty.ints W)) (hl : W.length = N.length) (hNl : N.length ≤ 1000) (hNb : ∀ x ∈ N, x.length ≤ 1000000) (hWb : ∀ x ∈ W, x.length ≤ 1000000) :
    FnL Try.prog 35 #[v0] σ [41, 42, 43] (fun v τ => (Ty.has (Ty.tup2 (Ty.lst Ty.ints N) (Ty.lst Ty.ints W)) τ v) ∧ (OwnP τ 41 tv [(Ty.val nx), (Ty.val wd), (Ty.lst Ty.ints H), (Ty.val mv)]) ∧ (Own τ 42 22 1 nx (List.length N) (List.map Ty.ints N)) ∧ (Own τ 43 22 1 wd (List.length W) (List.map Ty.ints W))) := by
 refine fn_introL hlow Try.func35 rfl Try.ntmps35 (Nat.le_of_ble_eq_true rfl) (fun a0 F0 ok0 hargs => ?_)
 have p0 := pB (hargs 0 _ rfl) hv0
 clear hargs; refine wp_seq ?_
 refine gI a0 σ ok0 (gC (Ty.val (Value.slice none 0 0)) (gC (Ty.val (Value.slice none 0 0)) (gE ok0 fun a1 s1 ok1 D1 => ?_))); have q1 := D1.k p0; have o1 := OwnP.k0 ho_tv D1.stp; have o2 := Own.k0 ho_nx D1.stp; have o3 := Own.k0 ho_wd D1.stp; refine tn (wp_seq (wp_seq ?_))
 refine gI a1 s1 ok1 (gM q1 (gT (Ty.val tv) rfl (fun A B E I J d0 => rP (y_nilp (OwnP.k0 o1 E) (ef d0 rfl))) (gT (Ty.val (ptrAt tv 0)) rfl (fun A B E I J d0 => rP (ownp_field Try.fld106_0 Try.inf24 (by decide) (OwnP.k0 o1 E) (ef d0 rfl))) (gS rfl (fun A B E I J d0 => rP (ownp_load Try.underlying24 rfl (OwnP.k0 o1 E) (ef d0 rfl) rfl)) (gT (Ty.nat (List.length N)) rfl (fun A B E I J d0 => rP (own_len Try.underlying24 (al (R := (Pr.own 42 22 1 (List.length N) (List.map Ty.ints N))) (ef d0 rfl) (Own.k0 o2 E)))) (gT (Ty.int (0 : Int)) rfl (fun A B E I J => rP (y_move rfl)) (gE ok1 fun a2 s2 ok2 D2 => ?_))))))); have o4 := OwnP.k0 o1 D2.stp; have o5 := Own.k0 o2 D2.stp; have o6 := Own.k0 o3 D2.stp; refine tn (wp_block ?_)
 have o7 : Own s2 20 22 1 (Value.slice none 0 0) 0 (List.map Ty.ints ([] : List (List Int))) := Own.nil _ _ _ _
 have o8 : Own s2 21 22 1 (Value.slice none 0 0) 0 (List.map Ty.ints ([] : List (List Int))) := Own.nil _ _ _ _
 refine loop (fun n1 a3 w1 => ∃ (t1 : GW) (i : Nat) (x2_0 x3_0 : Value), t1.w = w1 ∧ FromL [41, 42, 43] σ t1 ∧ Ok 40 [] a3 ∧ At (Ty.nat i) t1 a3 (.tmp 10) ∧ At (Ty.val x2_0) t1 a3 (.tmp 2) ∧ At (Ty.val x3_0) t1 a3 (.tmp 3) ∧ At (Ty.val tv) t1 a3 (.tmp 0) ∧ At (Ty.nat (List.length N)) t1 a3 (.tmp 9) ∧ Own t1 20 22 1 x2_0 (List.length (N.take i)) (List.map Ty.ints (N.take i)) ∧ Own t1 21 22 1 x3_0 (List.length (W.take i)) (List.map Ty.ints (W.take i)) ∧ OwnP t1 41 tv [(Ty.val nx), (Ty.val wd), (Ty.lst Ty.ints H), (Ty.val mv)] ∧ Own t1 42 22 1 nx (List.length N) (List.map Ty.ints N) ∧ Own t1 43 22 1 wd (List.length W) (List.map Ty.ints W) ∧ (i ≤ N.length) ∧ n1 = N.length - i) (N.length - (0)) ?_ ?_
 ·
  exact ⟨s2, 0, (Value.slice none 0 0), (Value.slice none 0 0), rfl, ((F0.step0 D1.stp).step0 D2.stp), ok2, (cvi (by (first | rfl | omega | (simp_all; done) | (simp_all; omega))) (D2.m 5 rfl)), (D2.k (D1.m 0 rfl)), (D2.k (D1.m 1 rfl)), (D2.k q1), (D2.m 4 rfl), (cvo (by (first | rfl | simp)) (by (first | rfl | simp)) o7), (cvo (by (first | rfl | simp)) (by (first | rfl | simp)) o8), o4, o5, o6, by omega, rfl⟩
 ·
  rintro n2 a4 w2 ⟨t2, i, x2_0, x3_0, rfl, F3, ok3, q9, q10, q11, q12, q13, o9, o10, o11, o12, o13, hi, rfl⟩
  have htl := List.length_take_le i N
  have htl2 := List.length_take_le i W
  refine wp_seq ?_
  refine gI a4 t2 ok3 (gS rfl (fun A B E I J => rP (y_lss (kp (J 10 rfl) E q9) (kp (J 9 rfl) E q13))) (gE ok3 fun a5 s3 ok4 D3 => ?_)); have F4 := F3.step0 D3.stp; have q14 := D3.k q9; have q15 := D3.k q10; have q16 := D3.k q11; have o14 := Own.k0 o9 D3.stp; have o15 := Own.k0 o10 D3.stp; have o16 := OwnP.k0 o11 D3.stp; have o17 := Own.k0 o12 D3.stp; have o18 := Own.k0 o13 D3.stp; refine tn (wp_seq ?_)
  refine cond_p (p := (((i : Nat) : Int) < (((List.length N) : Nat) : Int))) (D3.m 0 rfl) (fun c1 => ?_) (fun c1 => ?_)
  ·
   have hb1 := hNb _ (mem_atD [] (show i < N.length by omega)); have hb2 := hWb _ (mem_atD [] (show i < W.length by omega))
   refine wp_skip (tn (wp_seq (wp_block (wp_seq ?_))))
   refine gI a5 s3 ok4 (gM q14 (gB 0 (gE ok4 fun a6 s4 ok5 D4 => ?_))); have q21 := D4.k q15; have q23 := D4.k (D3.k q12); have o19 := Own.k0 o14 D4.stp; have o20 := Own.k0 o15 D4.stp; have o21 := OwnP.k0 o16 D4.stp; have o22 := Own.k0 o17 D4.stp; have o23 := Own.k0 o18 D4.stp; have q25 := D4.m 1 rfl; refine tn (wp_seq ?_)
   refine gI a6 s4 ok5 (gM q21 (gR (Pr.own 22 3 1 0 (List.map Ty.int ([] : List Int))) rfl (by intro A B E I J; exact rP ((y_lit0 (k := 22) Try.underlying22 Try.inf3).mono (fun _ _ h => cvo (by simp) (by simp) h))) (gM q23 (gT (Ty.val tv) rfl (fun A B E I J d0 => rP (y_nilp (OwnP.k0 o21 E) (ef d0 rfl))) (gT (Ty.val (ptrAt tv 0)) rfl (fun A B E I J d0 => rP (ownp_field Try.fld106_0 Try.inf24 (by decide) (OwnP.k0 o21 E) (ef d0 rfl))) (gS rfl (fun A B E I J d0 => rP (ownp_load Try.underlying24 rfl (OwnP.k0 o21 E) (ef d0 rfl) rfl)) (gM q25 (gT (Ty.val (cellPtr nx i)) rfl (fun A B E I J d0 d1 => rP (own_index1 (i := ((i : Nat) : Int)) Try.underlying24 Try.inf22 (Own.k0 o22 E) (ef d0 rfl) (ef d1 rfl) (by omega) (by omega))) (gS rfl (fun A B E I J d0 => rP (own_load Try.underlying22 rfl (Own.k0 o22 E) (ef d0 rfl) (lst_get Ty.ints N [] i (by omega)))) (gE2 ok5 fun a7 s5 ok6 D5 => ?_)))))))))); have o24 := Own.k0 o19 D5.stp; have o25 := Own.k0 o20 D5.stp; have o26 := OwnP.k0 o21 D5.stp; have o27 := Own.k0 o22 D5.stp; have o28 := Own.k0 o23 D5.stp
   have q32 : At (Ty.val x2_0) s5 a7 (.tmp 13) := D5.done 0 (by decide)
   obtain ⟨x1, hx1⟩ : ∃ x, a7.eval (.tmp 14) = x := ⟨_, rfl⟩
   have q33 : At (Ty.val x1) s5 a7 (.tmp 14) := hx1
   have o29 := al2 (R := (Pr.own 22 3 1 0 (List.map Ty.int ([] : List Int)))) hx1 (D5.done 1 (by decide))
   have q34 := D5.m 8 rfl
   have b1 := sl_le q34
   refine tL ok6 (YldM.toL (m_append Try.underlying22 Try.inf3 (by decide) rfl (by decide) (al (R := (Pr.own 22 3 1 0 (List.map Ty.int ([] : List Int)))) q33 o29) q34 (one_map (fun _ => one_val rfl)) (by omega) (by omega))) fun a8 s6 hs1 ok7 r1 sm1 => ?_
   have F7 := ((F4.step0 D4.stp).step0 D5.stp).sl hs1
   obtain ⟨x2, hx2⟩ : ∃ x, a8.eval (.tmp 22) = x := ⟨_, rfl⟩
   have q42 : At (Ty.val x2) s6 a8 (.tmp 22) := hx2
   have o30 := al2 (R := (Pr.own 22 3 1 (List.length (N.getD i [])) (List.map Ty.int (N.getD i [])))) hx2 (cvo (by first | (simp; done) | (simp; omega)) (by first | (rw [List.map_append]; rfl) | simp) r1)
   clear r1
   obtain ⟨t3, e1, h1, q43⟩ := Own.seal o30 (by decide)
   rw [← e1]
   have F8 := F7.step h1 (by decide); have o36 := Own.keepL (Own.kl o24 hs1) (h1.toL (L := [22]) (by simp)) (by decide) (by decide); have o37 := Own.keepL (Own.kl o25 hs1) (h1.toL (L := [22]) (by simp)) (by decide) (by decide); have o38 := OwnP.keepL (OwnP.kl o26 hs1) (h1.toL (L := [22]) (by simp)) (by decide) (by decide); have o39 := Own.keepL (Own.kl o27 hs1) (h1.toL (L := [22]) (by simp)) (by decide) (by decide); have o40 := Own.keepL (Own.kl o28 hs1) (h1.toL (L := [22]) (by simp)) (by decide) (by decide); have q44 := Ty.up (Ty.nat i) (h1.le (by decide)) (kq hs1 sm1 10 (D5.k (D4.k q14))); have q45 := Ty.up (Ty.val x2_0) (h1.le (by decide)) (kq hs1 sm1 2 (D5.k q21)); have q46 := Ty.up (Ty.val x3_0) (h1.le (by decide)) (kq hs1 sm1 3 (D5.k (D4.k q16))); have q47 := Ty.up (Ty.val tv) (h1.le (by decide)) (kq hs1 sm1 0 (D5.k q23)); have q48 := Ty.up (Ty.nat (List.length N)) (h1.le (by decide)) (kq hs1 sm1 9 (D5.k (D4.k (D3.k q13)))); have q49 := Ty.up (Ty.nat i) (h1.le (by decide)) (kq hs1 sm1 4 (D5.k q25)); have q50 := Ty.up (Ty.val x2_0) (h1.le (by decide)) (kq hs1 sm1 13 q32)
   have q51 : At (Ty.lst Ty.int (N.getD i [])) t3 a8 (.tmp 22) := by have e : a8.eval (.tmp 22) = x2 := q42; show Ty.has _ _ _; rw [e]; exact q43
   refine tL (R := (fun v τ => Pr.has (Ty.pr (Ty.sl 1 1 [(Ty.lst Ty.int (N.getD i []))])) τ v)) ok7 (Yld.toL (y_build1o Try.underlying24 Try.inf22 rfl (one_sl) q51)) fun a9 s7 hs2 ok8 r2 sm2 => ?_
   have F9 := F8.sl hs2
   have q59 : At (Ty.sl 1 1 [(Ty.lst Ty.int (N.getD i []))]) s7 a9 (.tmp 23) := r2
   clear r2
   refine tL ok8 (YldM.toL (m_append Try.underlying24 Try.inf22 (by decide) rfl (by decide) (al (R := (Pr.own 20 22 1 (List.length (N.take i)) (List.map Ty.ints (N.take i)))) (kq hs2 sm2 13 q50) (Own.kl o36 hs2)) q59 (by intro U hU; simp at hU; subst hU; exact one_sl) (by omega) (by omega))) fun a10 s8 hs3 ok9 r3 sm3 => ?_
   have F10 := F9.sl hs3; have q61 := kq hs3 sm3 2 (kq hs2 sm2 2 q45)
   obtain ⟨x3, hx3⟩ : ∃ x, a10.eval (.tmp 24) = x := ⟨_, rfl⟩
   have q66 : At (Ty.val x3) s8 a10 (.tmp 24) := hx3
   have o46 := al2 (R := (Pr.own 20 22 1 (List.length ((N.take i) ++ [(N.getD i [])])) (List.map Ty.ints ((N.take i) ++ [(N.getD i [])])))) hx3 (cvo (by simp) (by first | (rw [List.map_append]; rfl) | simp) r3)
   clear r3
   refine tL ok9 (Yld.toL (y_as q66)) fun a11 s9 hs4 ok10 r4 sm4 => ?_
   have F11 := F10.sl hs4; have q68 := kq hs4 sm4 3 (kq hs3 sm3 3 (kq hs2 sm2 3 q46)); have q69 := kq hs4 sm4 0 (kq hs3 sm3 0 (kq hs2 sm2 0 q47)); have o52 := OwnP.kl (OwnP.kl (OwnP.kl o38 hs2) hs3) hs4; have o54 := Own.kl (Own.kl (Own.kl o40 hs2) hs3) hs4
   have q72 : At (Ty.val x3) s9 a11 (.tmp 2) := r4
   clear r4; refine wpList_nil (tn ?_)
   refine gI a11 s9 ok10 (gM q68 (gR (Pr.own 23 3 1 0 (List.map Ty.int ([] : List Int))) rfl (by intro A B E I J; exact rP ((y_lit0 (k := 23) Try.underlying22 Try.inf3).mono (fun _ _ h => cvo (by simp) (by simp) h))) (gM q69 (gT (Ty.val tv) rfl (fun A B E I J d0 => rP (y_nilp (OwnP.k0 o52 E) (ef d0 rfl))) (gT (Ty.val (ptrAt tv 1)) rfl (fun A B E I J d0 => rP (ownp_field Try.fld106_1 Try.inf24 (by decide) (OwnP.k0 o52 E) (ef d0 rfl))) (gS rfl (fun A B E I J d0 => rP (ownp_load Try.underlying24 rfl (OwnP.k0 o52 E) (ef d0 rfl) rfl)) (gM (kq hs4 sm4 4 (kq hs3 sm3 4 (kq hs2 sm2 4 q49))) (gT (Ty.val (cellPtr wd i)) rfl (fun A B E I J d0 d1 => rP (own_index1 (i := ((i : Nat) : Int)) Try.underlying24 Try.inf22 (Own.k0 o54 E) (ef d0 rfl) (ef d1 rfl) (by omega) (by omega))) (gS rfl (fun A B E I J d0 => rP (own_load Try.underlying22 rfl (Own.k0 o54 E) (ef d0 rfl) (lst_get Ty.ints W [] i (by omega)))) (gE2 ok10 fun a12 s10 ok11 D6 => ?_)))))))))); have o56 := Own.k0 (Own.kl (Own.kl (Own.kl o37 hs2) hs3) hs4) D6.stp; have o57 := OwnP.k0 o52 D6.stp; have o58 := Own.k0 (Own.kl (Own.kl (Own.kl o39 hs2) hs3) hs4) D6.stp; have o59 := Own.k0 o54 D6.stp; have o60 := Own.k0 (Own.kl o46 hs4) D6.stp
   have q78 : At (Ty.val x3_0) s10 a12 (.tmp 25) := D6.done 0 (by decide)
   obtain ⟨x4, hx4⟩ : ∃ x, a12.eval (.tmp 26) = x := ⟨_, rfl⟩
   have q79 : At (Ty.val x4) s10 a12 (.tmp 26) := hx4
   have o61 := al2 (R := (Pr.own 23 3 1 0 (List.map Ty.int ([] : List Int)))) hx4 (D6.done 1 (by decide))
   have q80 := D6.m 8 rfl
   have b2 := sl_le q80
   refine tL ok11 (YldM.toL (m_append Try.underlying22 Try.inf3 (by decide) rfl (by decide) (al (R := (Pr.own 23 3 1 0 (List.map Ty.int ([] : List Int)))) q79 o61) q80 (one_map (fun _ => one_val rfl)) (by omega) (by omega))) fun a13 s11 hs5 ok12 r5 sm5 => ?_
   have F13 := (F11.step0 D6.stp).sl hs5
   obtain ⟨x5, hx5⟩ : ∃ x, a13.eval (.tmp 34) = x := ⟨_, rfl⟩
   have q87 : At (Ty.val x5) s11 a13 (.tmp 34) := hx5
   have o62 := al2 (R := (Pr.own 23 3 1 (List.length (W.getD i [])) (List.map Ty.int (W.getD i [])))) hx5 (cvo (by first | (simp; done) | (simp; omega)) (by first | (rw [List.map_append]; rfl) | simp) r5)
   clear r5
   obtain ⟨t4, e2, h2, q88⟩ := Own.seal o62 (by decide)
   rw [← e2]
   have F14 := F13.step h2 (by decide); have o68 := Own.keepL (Own.kl o56 hs5) (h2.toL (L := [23]) (by simp)) (by decide) (by decide); have o69 := OwnP.keepL (OwnP.kl o57 hs5) (h2.toL (L := [23]) (by simp)) (by decide) (by decide); have o70 := Own.keepL (Own.kl o58 hs5) (h2.toL (L := [23]) (by simp)) (by decide) (by decide); have o71 := Own.keepL (Own.kl o59 hs5) (h2.toL (L := [23]) (by simp)) (by decide) (by decide); have o72 := Own.keepL (Own.kl o60 hs5) (h2.toL (L := [23]) (by simp)) (by decide) (by decide); have q89 := Ty.up (Ty.nat i) (h2.le (by decide)) (kq hs5 sm5 10 (D6.k (kq hs4 sm4 10 (kq hs3 sm3 10 (kq hs2 sm2 10 q44))))); have q90 := Ty.up (Ty.val x3_0) (h2.le (by decide)) (kq hs5 sm5 3 (D6.k q68)); have q91 := Ty.up (Ty.val tv) (h2.le (by decide)) (kq hs5 sm5 0 (D6.k q69)); have q92 := Ty.up (Ty.nat (List.length N)) (h2.le (by decide)) (kq hs5 sm5 9 (D6.k (kq hs4 sm4 9 (kq hs3 sm3 9 (kq hs2 sm2 9 q48))))); have q93 := Ty.up (Ty.val x3) (h2.le (by decide)) (kq hs5 sm5 2 (D6.k q72)); have q94 := Ty.up (Ty.val x3_0) (h2.le (by decide)) (kq hs5 sm5 25 q78)
   have q95 : At (Ty.lst Ty.int (W.getD i [])) t4 a13 (.tmp 34) := by have e : a13.eval (.tmp 34) = x5 := q87; show Ty.has _ _ _; rw [e]; exact q88
   refine tL (R := (fun v τ => Pr.has (Ty.pr (Ty.sl 1 1 [(Ty.lst Ty.int (W.getD i []))])) τ v)) ok12 (Yld.toL (y_build1o Try.underlying24 Try.inf22 rfl (one_sl) q95)) fun a14 s12 hs6 ok13 r6 sm6 => ?_
   have F15 := F14.sl hs6
   have q102 : At (Ty.sl 1 1 [(Ty.lst Ty.int (W.getD i []))]) s12 a14 (.tmp 35) := r6
   clear r6
   refine tL ok13 (YldM.toL (m_append Try.underlying24 Try.inf22 (by decide) rfl (by decide) (al (R := (Pr.own 21 22 1 (List.length (W.take i)) (List.map Ty.ints (W.take i)))) (kq hs6 sm6 25 q94) (Own.kl o68 hs6)) q102 (by intro U hU; simp at hU; subst hU; exact one_sl) (by omega) (by omega))) fun a15 s13 hs7 ok14 r7 sm7 => ?_
   have F16 := F15.sl hs7; have q104 := kq hs7 sm7 3 (kq hs6 sm6 3 q90)
   obtain ⟨x6, hx6⟩ : ∃ x, a15.eval (.tmp 36) = x := ⟨_, rfl⟩
   have q108 : At (Ty.val x6) s13 a15 (.tmp 36) := hx6
   have o78 := al2 (R := (Pr.own 21 22 1 (List.length ((W.take i) ++ [(W.getD i [])])) (List.map Ty.ints ((W.take i) ++ [(W.getD i [])])))) hx6 (cvo (by simp) (by first | (rw [List.map_append]; rfl) | simp) r7)
   clear r7
   refine tL ok14 (Yld.toL (y_as q108)) fun a16 s14 hs8 ok15 r8 sm8 => ?_
   have F17 := F16.sl hs8
   have q113 : At (Ty.val x6) s14 a16 (.tmp 3) := r8
   clear r8; refine wpList_nil (bn (tn ?_))
   refine gI a16 s14 ok15 (gT (Ty.nat (i + 1)) rfl (fun A B E I J => rP ((y_add (kp (J 10 rfl) E (kq hs8 sm8 10 (kq hs7 sm7 10 (kq hs6 sm6 10 q89)))) rfl (w64 (by omega) (by omega))).mono (fun τ _ h => cvi (σ := τ) (by first | omega | exact (Int.natCast_mul _ _).symm) h))) (gS rfl (fun A B E I J d0 => rP (y_move (ef d0 rfl))) (gE ok15 fun a17 s15 ok16 D7 => ?_))); have o88 := OwnP.k0 (OwnP.kl (OwnP.kl (OwnP.kl o69 hs6) hs7) hs8) D7.stp; have o89 := Own.k0 (Own.kl (Own.kl (Own.kl o70 hs6) hs7) hs8) D7.stp; have o90 := Own.k0 (Own.kl (Own.kl (Own.kl o71 hs6) hs7) hs8) D7.stp; have o91 := Own.k0 (Own.kl (Own.kl (Own.kl o72 hs6) hs7) hs8) D7.stp; have o92 := Own.k0 (Own.kl o78 hs8) D7.stp
   exact tn ⟨N.length - ((i+1)), by omega, s15, (i+1), x3, x6, rfl, (F17.step0 D7.stp), ok16, (cvi (by (first | rfl | omega | (simp_all; done) | (simp_all; omega))) (D7.m 1 rfl)), (D7.k (kq hs8 sm8 2 (kq hs7 sm7 2 (kq hs6 sm6 2 q93)))), (D7.k q113), (D7.k (kq hs8 sm8 0 (kq hs7 sm7 0 (kq hs6 sm6 0 q91)))), (D7.k (kq hs8 sm8 9 (kq hs7 sm7 9 (kq hs6 sm6 9 q92)))), (cvo (by (first | rfl | (rw [take_snoc N [] i (by omega)]; done) | (rw [take_snoc N [] i (by omega)]; simp; done))) (by (first | rfl | (rw [take_snoc N [] i (by omega)]; done) | (rw [take_snoc N [] i (by omega)]; simp; done))) o91), (cvo (by (first | rfl | (rw [take_snoc W [] i (by omega)]; done) | (rw [take_snoc W [] i (by omega)]; simp; done))) (by (first | rfl | (rw [take_snoc W [] i (by omega)]; done) | (rw [take_snoc W [] i (by omega)]; simp; done))) o92), o88, o89, o90, by omega, rfl⟩
  ·
   have ei : i = N.length := (by omega)
   refine wp_exit (tx (tx (bx (tn (wp_seq ?_)))))
   refine gI a5 s3 ok4 (gM q15 (gM q16 (gB 0 (gB 0 (gE ok4 fun a18 s16 ok17 D8 => ?_))))); have o93 := Own.k0 o14 D8.stp; have o94 := Own.k0 o15 D8.stp; have o95 := OwnP.k0 o16 D8.stp; have o96 := Own.k0 o17 D8.stp; have o97 := Own.k0 o18 D8.stp
   have q119 : At (Ty.val x2_0) s16 a18 (.tmp 2) := D8.done 2
   have q120 : At (Ty.val x3_0) s16 a18 (.tmp 3) := D8.done 3
   refine tn (wp_ret ?_)
   obtain ⟨t5, e3, h3, q121⟩ := Own.seal o93 (by decide)
   rw [← e3]
   have F20 := (F4.step0 D8.stp).step h3 (by decide); have o98 := Own.keepL o94 (h3.toL (L := [20]) (by simp)) (by decide) (by decide); have o99 := OwnP.keepL o95 (h3.toL (L := [20]) (by simp)) (by decide) (by decide); have o100 := Own.keepL o96 (h3.toL (L := [20]) (by simp)) (by decide) (by decide); have o101 := Own.keepL o97 (h3.toL (L := [20]) (by simp)) (by decide) (by decide)
   have q122 : At (Ty.lst Ty.ints (N.take i)) t5 a18 (.tmp 2) := by have e : a18.eval (.tmp 2) = x2_0 := q119; show Ty.has _ _ _; rw [e]; exact q121
   have q123 := Ty.up (Ty.val x3_0) (h3.le (by decide)) q120
   obtain ⟨t6, e4, h4, q124⟩ := Own.seal o98 (by decide)
   rw [← e4]
   have F21 := F20.step h4 (by decide); have o102 := OwnP.keepL o99 (h4.toL (L := [21]) (by simp)) (by decide) (by decide); have o103 := Own.keepL o100 (h4.toL (L := [21]) (by simp)) (by decide) (by decide); have o104 := Own.keepL o101 (h4.toL (L := [21]) (by simp)) (by decide) (by decide); have q125 := Ty.up (Ty.lst Ty.ints (N.take i)) (h4.le (by decide)) q122
   have q126 : At (Ty.lst Ty.ints (W.take i)) t6 a18 (.tmp 3) := by have e : a18.eval (.tmp 3) = x3_0 := q123; show Ty.has _ _ _; rw [e]; exact q124
   exact retL2 rfl ok17 F21 ⟨(hasT2 (cvt (by (rw [ei, List.take_length])) q125) (cvt (by (rw [ei, ← hl, List.take_length])) q126)), o102, o103, o104⟩


set_option maxRecDepth 100000 in
theorem rsame_fn (xs : List Int) (ys : List Int) (σ : GW) (v0 v1 : Value) (hv0 : Ty.has (Ty.lst Ty.int xs) σ v0) (hv1 : Ty.has (Ty.lst Ty.int ys) σ v1)  :
    FnC Try.prog 37 #[v0, v1] σ (Ty.bool (decide (xs = ys))) := by
 refine fn_intro Try.func37 rfl Try.ntmps37 (Nat.le_of_ble_eq_true rfl) (fun s0 a0 hle F0 ok0 hargs => ?_)
 have p0 := pA hle (hargs 0 _ rfl) hv0
 have b1 := sl_le p0
 have p1 := pA hle (hargs 1 _ rfl) hv1
 have b2 := sl_le p1
 clear hargs; refine wp_seq ?_
 refine gI a0 s0 ok0 (gC (Ty.bool false) (gE ok0 fun a1 s1 ok1 D1 => ?_)); have q1 := D1.k p0; have q2 := D1.k p1; refine tn (wp_seq (wp_seq ?_))
 refine gI a1 s1 ok1 (gM q1 (gS rfl (fun A B E I J d0 => rP (y_len Try.underlying22 (ef d0 rfl))) (gM q2 (gS rfl (fun A B E I J d0 => rP (y_len Try.underlying22 (ef d0 rfl))) (gS rfl (fun A B E I J d0 d1 => rP (y_neq (ef d0 rfl) (ef d1 rfl))) (gE ok1 fun a2 s2 ok2 D2 => ?_)))))); have F2 := (F0.step0 D1.stp).step0 D2.stp; refine tn ?_
 refine cond_p (p := ((((List.length xs) : Nat) : Int) ≠ (((List.length ys) : Nat) : Int))) (D2.m 4 rfl) (fun c1 => ?_) (fun c1 => ?_)
 ·
  refine wp_seq ?_
  refine gI a2 s2 ok2 (gC (Ty.bool false) (gE ok2 fun a3 s3 ok3 D3 => ?_)); refine tn (wp_ret (tr ?_))
  exact ret1 rfl ok3 (F2.step0 D3.stp) (cvb (by (rw [decide_eq_false]; intro e; subst e; omega)) (D3.m 0 rfl))
 ·
  refine wp_skip (tn (wp_seq (wp_seq ?_)))
  refine gI a2 s2 ok2 (gC (Ty.int (0 : Int)) (gE ok2 fun a4 s4 ok4 D4 => ?_)); refine tn (wp_block ?_)
  refine loop (fun n1 a5 w1 => ∃ (t1 : GW) (k : Nat), t1.w = w1 ∧ From s0 t1 ∧ Ok 26 [] a5 ∧ At (Ty.nat k) t1 a5 (.tmp 5) ∧ At (Ty.lst Ty.int xs) t1 a5 (.tmp 0) ∧ At (Ty.lst Ty.int ys) t1 a5 (.tmp 1) ∧ (k ≤ xs.length) ∧ (xs.length = ys.length) ∧ (∀ j, j < k → xs.getD j 0 = ys.getD j 0) ∧ n1 = xs.length - k) (xs.length - (0)) ?_ ?_
  ·
   exact ⟨s4, 0, rfl, (F2.step0 D4.stp), ok4, (cvi (by (first | rfl | omega | (simp_all; done) | (simp_all; omega))) (D4.m 0 rfl)), (D4.k (D2.k q1)), (D4.k (D2.k q2)), by omega, by omega, fun j hj => absurd hj (Nat.not_lt_zero j), rfl⟩
  ·
   rintro n2 a6 w2 ⟨t2, k, rfl, F5, ok5, q10, q11, q12, hk, hl, heq, rfl⟩
   refine wp_seq (wp_seq ?_)
   refine gI a6 t2 ok5 (gM q10 (gM q11 (gS rfl (fun A B E I J d0 => rP (y_len Try.underlying22 (ef d0 rfl))) (gS rfl (fun A B E I J d0 d1 => rP (y_lss (ef d0 rfl) (ef d1 rfl))) (gE ok5 fun a7 s5 ok6 D5 => ?_))))); have F6 := F5.step0 D5.stp; have q13 := D5.k q10; have q14 := D5.k q11; have q15 := D5.k q12; refine tn ?_
   refine cond_p (p := (((k : Nat) : Int) < (((List.length xs) : Nat) : Int))) (D5.m 3 rfl) (fun c2 => ?_) (fun c2 => ?_)
   ·
    refine wp_skip (tn (wp_seq (wp_block (wp_seq ?_))))
    refine gI a7 s5 ok6 (gM q14 (gM q13 (gT (Ty.ref [(Ty.int (xs.getD k 0))]) rfl (fun A B E I J d0 d1 => rP (y_index1 Try.underlying22 Try.inf3 (ef d0 rfl) (ef d1 rfl) (by omega) (lst_get Ty.int xs 0 k (by omega)))) (gS rfl (fun A B E I J d0 => rP (y_load Try.underlying3 rfl (ef d0 rfl) rfl)) (gM q15 (gM q13 (gT (Ty.ref [(Ty.int (ys.getD k 0))]) rfl (fun A B E I J d0 d1 => rP (y_index1 Try.underlying22 Try.inf3 (ef d0 rfl) (ef d1 rfl) (by omega) (lst_get Ty.int ys 0 k (by omega)))) (gS rfl (fun A B E I J d0 => rP (y_load Try.underlying3 rfl (ef d0 rfl) rfl)) (gS rfl (fun A B E I J d0 d1 => rP (y_neq (ef d0 rfl) (ef d1 rfl))) (gE ok6 fun a8 s6 ok7 D6 => ?_)))))))))); have F7 := F6.step0 D6.stp; refine tn ?_
    refine cond_p (p := ((xs.getD k 0) ≠ (ys.getD k 0))) (D6.m 8 rfl) (fun c3 => ?_) (fun c3 => ?_)
    ·
     refine wp_seq ?_
     refine gI a8 s6 ok7 (gC (Ty.bool false) (gE ok7 fun a9 s7 ok8 D7 => ?_)); refine tn (wp_ret (br (tr (tr (br (tr ?_))))))
     exact ret1 rfl ok8 (F7.step0 D7.stp) (cvb (by (exact (decide_eq_false (fun e => by subst e; simp_all)).symm)) (D7.m 0 rfl))
    ·
     refine wp_skip (bn (tn ?_))
     refine gI a8 s6 ok7 (gM (D6.k q13) (gT (Ty.int (((k : Nat) : Int) + (1 : Int))) rfl (fun A B E I J d0 => rP (y_add (ef d0 rfl) rfl (w64 (by omega) (by omega)))) (gB 0 (gE ok7 fun a10 s8 ok9 D8 => ?_))))
     exact tn ⟨xs.length - ((k+1)), by omega, s8, (k+1), rfl, (F7.step0 D8.stp), ok9, (cvi (by (first | rfl | omega | (simp_all; done) | (simp_all; omega))) (D8.m 2 rfl)), (D8.k (D6.k q14)), (D8.k (D6.k q15)), by omega, by omega, all_snoc heq (by assumption), rfl⟩
   ·
    refine wp_exit (tx (tx (bx (tn (wp_seq ?_)))))
    refine gI a7 s5 ok6 (gC (Ty.bool true) (gE ok6 fun a11 s9 ok10 D9 => ?_)); refine tn (wp_ret ?_)
    exact ret1 rfl ok10 (F6.step0 D9.stp) (cvb (by (exact (decide_eq_true (list_ext (by omega) (fun j hj => heq j (by omega)))).symm)) (D9.m 0 rfl))


set_option maxHeartbeats 4000000 in
set_option maxRecDepth 100000 in
theorem rSameAll_fn (a : List (List Int)) (b : List (List Int)) (σ : GW)  (v0 v1 : Value) (hv0 : Ty.has (Ty.lst Ty.ints a) σ v0) (hv1 : Ty.has (Ty.lst Ty.ints b) σ v1)   :
    FnC Try.prog 29 #[v0, v1] σ (Ty.bool (decide (a = b))) := by
 refine fn_intro0 Try.func29 rfl Try.ntmps29 (Nat.le_of_ble_eq_true rfl) (fun s0 a0 hle F0 ok0 hargs => ?_)
 have p0 := pA hle (hargs 0 _ rfl) hv0
 have b1 := sl_le p0
 have p1 := pA hle (hargs 1 _ rfl) hv1
 have b2 := sl_le p1
 clear hargs; refine wp_seq ?_
 refine gI a0 s0 ok0 (gC (Ty.bool false) (gE ok0 fun a1 s1 ok1 D1 => ?_)); have q1 := D1.k p0; have q2 := D1.k p1; refine tn (wp_seq (wp_seq ?_))
 refine gI a1 s1 ok1 (gM q1 (gS rfl (fun A B E I J d0 => rP (y_len Try.underlying24 (ef d0 rfl))) (gM q2 (gS rfl (fun A B E I J d0 => rP (y_len Try.underlying24 (ef d0 rfl))) (gS rfl (fun A B E I J d0 d1 => rP (y_neq (ef d0 rfl) (ef d1 rfl))) (gE ok1 fun a2 s2 ok2 D2 => ?_)))))); have F2 := (F0.step0 D1.stp).step0 D2.stp; refine tn ?_
 refine cond_p (p := ((((List.length a) : Nat) : Int) ≠ (((List.length b) : Nat) : Int))) (D2.m 4 rfl) (fun c1 => ?_) (fun c1 => ?_)
 ·
  refine wp_seq ?_
  refine gI a2 s2 ok2 (gC (Ty.bool false) (gE ok2 fun a3 s3 ok3 D3 => ?_)); refine tn (wp_ret (tr ?_))
  exact retL1 rfl ok3 (F2.step0 D3.stp) (cvb (by (rw [decide_eq_false]; intro e; subst e; omega)) (D3.m 0 rfl))
 ·
  refine wp_skip (tn (wp_seq (wp_seq ?_)))
  refine gI a2 s2 ok2 (gC (Ty.int (0 : Int)) (gE ok2 fun a4 s4 ok4 D4 => ?_)); refine tn (wp_block ?_)
  refine loop (fun n1 a5 w1 => ∃ (t1 : GW) (k : Nat), t1.w = w1 ∧ FromL [] s0 t1 ∧ Ok 29 [] a5 ∧ At (Ty.nat k) t1 a5 (.tmp 5) ∧ At (Ty.lst Ty.ints a) t1 a5 (.tmp 0) ∧ At (Ty.lst Ty.ints b) t1 a5 (.tmp 1) ∧ (k ≤ a.length) ∧ (a.length = b.length) ∧ (∀ j, j < k → a.getD j [] = b.getD j []) ∧ n1 = a.length - k) (a.length - (0)) ?_ ?_
  ·
   exact ⟨s4, 0, rfl, (F2.step0 D4.stp), ok4, (cvi (by (first | rfl | omega | (simp_all; done) | (simp_all; omega))) (D4.m 0 rfl)), (D4.k (D2.k q1)), (D4.k (D2.k q2)), by omega, by omega, fun j hj => absurd hj (Nat.not_lt_zero j), rfl⟩
  ·
   rintro n2 a6 w2 ⟨t2, k, rfl, F5, ok5, q10, q11, q12, hk, hl, heq, rfl⟩
   refine wp_seq (wp_seq ?_)
   refine gI a6 t2 ok5 (gM q10 (gM q11 (gS rfl (fun A B E I J d0 => rP (y_len Try.underlying24 (ef d0 rfl))) (gS rfl (fun A B E I J d0 d1 => rP (y_lss (ef d0 rfl) (ef d1 rfl))) (gE ok5 fun a7 s5 ok6 D5 => ?_))))); have F6 := F5.step0 D5.stp; have q13 := D5.k q10; have q14 := D5.k q11; have q15 := D5.k q12; refine tn ?_
   refine cond_p (p := (((k : Nat) : Int) < (((List.length a) : Nat) : Int))) (D5.m 3 rfl) (fun c2 => ?_) (fun c2 => ?_)
   ·
    refine wp_skip (tn (wp_seq (wp_block (wp_seq ?_))))
    refine gI a7 s5 ok6 (gM q14 (gM q13 (gT (Ty.ref [(Ty.lst Ty.int (a.getD k []))]) rfl (fun A B E I J d0 d1 => rP (y_index1 Try.underlying24 Try.inf22 (ef d0 rfl) (ef d1 rfl) (by omega) (lst_get Ty.ints a [] k (by omega)))) (gS rfl (fun A B E I J d0 => rP (y_load Try.underlying22 rfl (ef d0 rfl) rfl)) (gM q15 (gM q13 (gT (Ty.ref [(Ty.lst Ty.int (b.getD k []))]) rfl (fun A B E I J d0 d1 => rP (y_index1 Try.underlying24 Try.inf22 (ef d0 rfl) (ef d1 rfl) (by omega) (lst_get Ty.ints b [] k (by omega)))) (gS rfl (fun A B E I J d0 => rP (y_load Try.underlying22 rfl (ef d0 rfl) rfl)) (gS rfl (fun A B E I J d0 d1 => rP (y_call _ Try.func37 rfl rfl my2 (rsame_fn ((a.getD k [])) ((b.getD k [])) _ _ _ (ef d0 rfl) (ef d1 rfl) ))) (gB 0 (gE ok6 fun a8 s6 ok7 D6 => ?_))))))))))); refine tn (wp_seq ?_)
    refine gI a8 s6 ok7 (gM (D6.m 9 rfl) (gS rfl (fun A B E I J d0 => rP (y_not (ef d0 rfl))) (gE ok7 fun a9 s7 ok8 D7 => ?_))); have F8 := (F6.step0 D6.stp).step0 D7.stp; refine tn ?_
    refine cond_t (D7.m 1 rfl) (fun c3 => ?_) (fun c3 => ?_)
    ·
     refine wp_seq ?_
     refine gI a9 s7 ok8 (gC (Ty.bool false) (gE ok8 fun a10 s8 ok9 D8 => ?_)); refine tn (wp_ret (br (tr (tr (br (tr ?_))))))
     exact retL1 rfl ok9 (F8.step0 D8.stp) (cvb (by (exact (decide_eq_false (fun e => by subst e; simp at c3)).symm)) (D8.m 0 rfl))
    ·
     refine wp_skip (bn (tn ?_))
     refine gI a9 s7 ok8 (gM (D7.k (D6.k q13)) (gT (Ty.int (((k : Nat) : Int) + (1 : Int))) rfl (fun A B E I J d0 => rP (y_add (ef d0 rfl) rfl (w64 (by omega) (by omega)))) (gB 0 (gE ok8 fun a11 s9 ok10 D9 => ?_))))
     exact tn ⟨a.length - ((k+1)), by omega, s9, (k+1), rfl, (F8.step0 D9.stp), ok10, (cvi (by (first | rfl | omega | (simp_all; done) | (simp_all; omega))) (D9.m 2 rfl)), (D9.k (D7.k (D6.k q14))), (D9.k (D7.k (D6.k q15))), by omega, by omega, all_snocs heq (by simpa using c3), rfl⟩
   ·
    refine wp_exit (tx (tx (bx (tn (wp_seq ?_)))))
    refine gI a7 s5 ok6 (gC (Ty.bool true) (gE ok6 fun a12 s10 ok11 D10 => ?_)); refine tn (wp_ret ?_)
    exact retL1 rfl ok11 (F6.step0 D10.stp) (cvb (by (exact (decide_eq_true (lists_ext (by omega) (fun j hj => heq j (by omega)))).symm)) (D10.m 0 rfl))


set_option maxHeartbeats 4000000 in
set_option maxRecDepth 100000 in
theorem cOf_fn (tv : Value) (nx : Value) (wd : Value) (mv : Value) (H : List (List Int)) (n : Nat) (G : List (List Int)) (R : List (List Int)) (f : Int → Option Int) (r : List Int) (σ : GW) (hlow : Low [41, 44] σ) (v0 v1 : Value) (hv0 : Ty.has (Ty.val tv) σ v0) (hv1 : Ty.has (Ty.lst Ty.int r) σ v1) (ho_tv : OwnP σ 41 tv [(Ty.val nx), (Ty.val wd), (Ty.lst Ty.ints H), (Ty.val mv)]) (ho_mv : OwnM Ty.int kI σ 44 mv f) (hP : PrtP n G H) (hf : PMap n H R f) (hRl : R.length ≤ 1000) :
    FnL Try.prog 38 #[v0, v1] σ [41, 44] (fun v τ => (Ty.has (Ty.tup2 (Ty.nat (ofK n H R r)) (Ty.int (ofE n H R r))) τ v) ∧ (OwnP τ 41 tv [(Ty.val nx), (Ty.val wd), (Ty.lst Ty.ints H), (Ty.val mv)]) ∧ (OwnM Ty.int kI τ 44 mv f)) := by
 have hn := hP.hn
 have hHr := hP.row
 have hH0 := List.length_pos_of_mem hP.one
 have hH0l := (hHr _ (mem_atD [] hH0)).len
 have hH0m : (H.getD (Int.toNat 0) []).length = n := hH0l
 refine fn_introL hlow Try.func38 rfl Try.ntmps38 (Nat.le_of_ble_eq_true rfl) (fun a0 F0 ok0 hargs => ?_)
 have p0 := pB (hargs 0 _ rfl) hv0
 have p1 := pB (hargs 1 _ rfl) hv1
 have b1 := sl_le p1
 clear hargs; refine wp_seq ?_
 refine gI a0 σ ok0 (gC (Ty.int (0 : Int)) (gC (Ty.int (0 : Int)) (gE ok0 fun a1 s1 ok1 D1 => ?_))); have q2 := D1.k p1; have o1 := OwnP.k0 ho_tv D1.stp; have o2 := OwnM.k0 ho_mv D1.stp; refine tn (wp_seq (wp_seq ?_))
 refine gI a1 s1 ok1 (gM q2 (gS rfl (fun A B E I J d0 => rP (y_call _ Try.func72 rfl rfl my1 (rowCheck_fn (r) _ _ (ef d0 rfl) ))) (gB 0 (gE ok1 fun a2 s2 ok2 D2 => ?_)))); have o3 := OwnP.k0 o1 D2.stp; have o4 := OwnM.k0 o2 D2.stp; have q5 := D2.m 2 rfl; refine tn (wp_seq ?_)
 refine gI a2 s2 ok2 (gM q5 (gS rfl (fun A B E I J d0 => rP (y_neq (ef d0 rfl) rfl)) (gE ok2 fun a3 s3 ok3 D3 => ?_))); have F3 := ((F0.step0 D1.stp).step0 D2.stp).step0 D3.stp; have q6 := D3.k (D2.k (D1.k p0)); have q7 := D3.k (D2.k q2); have o5 := OwnP.k0 o3 D3.stp; have o6 := OwnM.k0 o4 D3.stp; refine tn ?_
 refine cond_p (p := ((rowMay r) ≠ (0 : Int))) (D3.m 1 rfl) (fun c1 => ?_) (fun c1 => ?_)
 ·
  obtain ⟨hE, hK⟩ := ofE_may (n := n) (H := H) (R := R) c1
  refine wp_seq ?_
  refine gI a3 s3 ok3 (gM (D3.k q5) (gC (Ty.int (0 : Int)) (gB 0 (gE ok3 fun a4 s4 ok4 D4 => ?_)))); have o7 := OwnP.k0 o5 D4.stp; have o8 := OwnM.k0 o6 D4.stp; refine tn (wp_ret (tr ?_))
  exact retL2 rfl ok4 (F3.step0 D4.stp) ⟨(hasT2 (cvi (by (rw [hK]; rfl)) (D4.m 1 rfl)) (cvi (by (rw [hE])) (D4.m 2 rfl))), o7, o8⟩
 ·
  have hm0 : rowMay r = 0 := Classical.not_not.1 c1; have hrr := rowMay_ok.1 hm0
  refine wp_skip (tn (wp_seq (wp_seq ?_)))
  refine gI a3 s3 ok3 (gM q7 (gS rfl (fun A B E I J d0 => rP (y_len Try.underlying22 (ef d0 rfl))) (gM q6 (gT (Ty.val tv) rfl (fun A B E I J d0 => rP (y_nilp (OwnP.k0 o5 E) (ef d0 rfl))) (gT (Ty.val (ptrAt tv 2)) rfl (fun A B E I J d0 => rP (ownp_field Try.fld106_2 Try.inf24 (by decide) (OwnP.k0 o5 E) (ef d0 rfl))) (gS rfl (fun A B E I J d0 => rP (ownp_load Try.underlying24 rfl (OwnP.k0 o5 E) (ef d0 rfl) rfl)) (gT (Ty.ref [(Ty.lst Ty.int (H.getD ((0 : Int)).toNat []))]) rfl (fun A B E I J d0 => rP (y_index1 Try.underlying24 Try.inf22 (ef d0 rfl) rfl (by omega) (lst_get Ty.ints H [] ((0 : Int)).toNat (by omega)))) (gS rfl (fun A B E I J d0 => rP (y_load Try.underlying22 rfl (ef d0 rfl) rfl)) (gS rfl (fun A B E I J d0 => rP (y_len Try.underlying22 (ef d0 rfl))) (gS rfl (fun A B E I J d0 d1 => rP (y_neq (ef d0 rfl) (ef d1 rfl))) (gE ok3 fun a5 s5 ok5 D5 => ?_))))))))))); have F5 := F3.step0 D5.stp; have q12 := D5.k q6; have o9 := OwnP.k0 o5 D5.stp; have o10 := OwnM.k0 o6 D5.stp; refine tn ?_
  refine cond_p (p := ((((List.length r) : Nat) : Int) ≠ (((List.length (H.getD ((0 : Int)).toNat [])) : Nat) : Int))) (D5.m 9 rfl) (fun c2 => ?_) (fun c2 => ?_)
  ·
   obtain ⟨hE, hK⟩ := ofE_len (n := n) (H := H) (R := R) hm0 (by omega)
   refine wp_seq ?_
   refine gI a5 s5 ok5 (gC (Ty.int (0 : Int)) (gC (Ty.int (1 : Int)) (gE ok5 fun a6 s6 ok6 D6 => ?_))); have o11 := OwnP.k0 o9 D6.stp; have o12 := OwnM.k0 o10 D6.stp; refine tn (wp_ret (tr ?_))
   exact retL2 rfl ok6 (F5.step0 D6.stp) ⟨(hasT2 (cvi (by (rw [hK]; rfl)) (D6.m 0 rfl)) (cvi (by (rw [hE])) (D6.m 1 rfl))), o11, o12⟩
  ·
   have hrl : r.length = n := (by omega); have hr : RowN n r := ⟨hrr, hrl⟩
   refine wp_skip (tn (wp_seq ?_))
   refine gI a5 s5 ok5 (gM q12 (gT (Ty.val tv) rfl (fun A B E I J d0 => rP (y_nilp (OwnP.k0 o9 E) (ef d0 rfl))) (gT (Ty.val (ptrAt tv 3)) rfl (fun A B E I J d0 => rP (ownp_field Try.fld106_3 Try.inf100 (by decide) (OwnP.k0 o9 E) (ef d0 rfl))) (gS rfl (fun A B E I J d0 => rP (ownp_load Try.underlying100 rfl (OwnP.k0 o9 E) (ef d0 rfl) rfl)) (gM q12 (gM (D5.k q7) (gT (Ty.int (nmP H r)) rfl (fun A B E I J d0 d1 => rP (y_callp (R := (Ty.int (nmP H r))) #[A.eval (.tmp 29), A.eval (.tmp 30)] int_any (OwnP.seal (OwnP.k0 o9 E) (by decide)) (by decide) (ef d0 rfl) Try.func73 rfl rfl (by simp only [List.map_toArray, List.map_cons, List.map_nil]) (fun s_ hle_ hs_ => cName_fn (nx) (wd) (mv) (H) (n) (r) s_ _ _ hs_ (Ty.up (Ty.lst Ty.int r) hle_ (ef d1 rfl)) (by first | omega | assumption) (by first | omega | assumption) (by first | omega | assumption)))) (gT (Ty.tup2 (Ty.int ((f (nmP H r)).getD 0)) (Ty.bool (Option.isSome (f (nmP H r))))) rfl (fun A B E I J d0 d1 => rP (y_lookup2 (i := (nmP H r)) (z := 0) Try.underlying100 (keyInt Try.underlying3) Try.inf3 (fun _ => rfl) (OwnM.k0 o10 E) (ef d0 rfl) (ef d1 rfl))) (gS rfl (fun A B E I J d0 => rP (y_move (ef d0 rfl))) (gT (Ty.int ((f (nmP H r)).getD 0)) rfl (fun A B E I J d0 => rP (y_ext2_0 (ef d0 rfl))) (gT (Ty.bool (Option.isSome (f (nmP H r)))) rfl (fun A B E I J d0 d1 => rP (y_ext2_1 (ef d0 rfl))) (gB 0 (gB 0 (gE ok5 fun a7 s7 ok7 D7 => ?_)))))))))))))); have o13 := OwnP.k0 o9 D7.stp; have o14 := OwnM.k0 o10 D7.stp; refine tn (wp_seq (wp_seq ?_))
   refine gI a7 s7 ok7 (gM (D7.m 12 rfl) (gS rfl (fun A B E I J d0 => rP (y_not (ef d0 rfl))) (gE ok7 fun a8 s8 ok8 D8 => ?_))); have F8 := (F5.step0 D7.stp).step0 D8.stp; have o15 := OwnP.k0 o13 D8.stp; have o16 := OwnM.k0 o14 D8.stp; refine tn ?_
   refine cond_t (D8.m 1 rfl) (fun c3 => ?_) (fun c3 => ?_)
   ·
    have hfn := pmap_none hf hr (by simpa using c3); obtain ⟨hE, hK⟩ := ofE_no hm0 hrl hfn
    refine wp_seq ?_
    refine gI a8 s8 ok8 (gC (Ty.int (0 : Int)) (gC (Ty.int (14 : Int)) (gE ok8 fun a9 s9 ok9 D9 => ?_))); have o17 := OwnP.k0 o15 D9.stp; have o18 := OwnM.k0 o16 D9.stp; refine tn (wp_ret (tr ?_))
    exact retL2 rfl ok9 (F8.step0 D9.stp) ⟨(hasT2 (cvi (by (rw [hK]; rfl)) (D9.m 0 rfl)) (cvi (by (rw [hE])) (D9.m 1 rfl))), o17, o18⟩
   ·
    obtain ⟨kk, hfn, hk2, hkl⟩ := pmap_some hf hr (by simpa using c3); obtain ⟨hE, hK⟩ := ofE_yes hm0 hrl hfn
    refine wp_skip (tn (wp_seq ?_))
    refine gI a8 s8 ok8 (gM (D8.k (D7.m 11 rfl)) (gB 0 (gC (Ty.int (0 : Int)) (gE ok8 fun a10 s10 ok10 D10 => ?_)))); have o19 := OwnP.k0 o15 D10.stp; have o20 := OwnM.k0 o16 D10.stp; refine tn (wp_ret ?_)
    exact retL2 rfl ok10 (F8.step0 D10.stp) ⟨(hasT2 (cvi (by (rw [hK, hk2])) (D10.m 1 rfl)) (cvi (by (rw [hE])) (D10.m 2 rfl))), o19, o20⟩


end Go.Proofs.Ytkjifbgofckfeaa
