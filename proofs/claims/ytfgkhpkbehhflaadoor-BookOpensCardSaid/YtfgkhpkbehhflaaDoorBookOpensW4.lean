/- The functions that the law BookOpens reaches, each by its contract. Part 4. -/
import Derived.Test.YtfgkhpkbehhflaaDoorBookOpensW3
namespace Go.Proofs.YtfgkhpkbehhflaaDoor
open Go.KL
theorem Tryd.inf5 : Info Tryd.prog 5 (.int .u8 0) 1 1 := by unfold Info; kernel_rfl
set_option maxHeartbeats 4000000 in
set_option maxRecDepth 100000 in
theorem rDecN_fn : ∀ (d : Nat) (n : Nat) (σ : GW)  (v0 : Value) (hv0 : Ty.has (Ty.nat n) σ v0)  (hd : d = n) (hn : n < 9223372036854775808), FnC Tryd.prog 44 #[v0] σ (Ty.val (Value.string (dcB n))) := by
 intro d
 induction d using Nat.strongRecOn with
 | _ d ih =>
 intro n σ v0 hv0 hd hn
 refine fn_intro0 Tryd.func44 rfl Tryd.ntmps44 (Nat.le_of_ble_eq_true rfl) (fun s0 a0 hle F0 ok0 hargs => ?_)
 have p0 := pA hle (hargs 0 _ rfl) hv0
 clear hargs; refine wp_seq ?_
 refine gI a0 s0 ok0 (gC (Ty.val (Value.string (ByteArray.mk #[]))) (gE ok0 fun a1 s1 ok1 D1 => ?_)); have q1 := D1.k p0; refine tn (wp_seq (wp_seq ?_))
 refine gI a1 s1 ok1 (gM q1 (gS rfl (fun A B G H I d0 => rP (y_lss (eI d0) rfl)) (gE ok1 fun a2 s2 ok2 D2 => ?_))); have q2 := D2.k q1; refine tn ?_
 refine cond_p (p := (((n : Nat) : Int) < (-9 : Int))) (D2.m 1 rfl) (fun c1 => ?_) (fun c1 => ?_)
 ·
  exfalso
  omega
 ·
  refine wp_skip (tn (wp_seq (wp_seq ?_)))
  refine gI a2 s2 ok2 (gM q2 (gS rfl (fun A B G H I d0 => rP (y_lss (eI d0) rfl)) (gE ok2 fun a3 s3 ok3 D3 => ?_))); have q4 := D3.k q2; refine tn ?_
  refine cond_p (p := (((n : Nat) : Int) < (0 : Int))) (D3.m 1 rfl) (fun c2 => ?_) (fun c2 => ?_)
  ·
   exfalso
   omega
  ·
   refine wp_skip (tn (wp_seq (wp_seq ?_)))
   refine gI a3 s3 ok3 (gM q4 (gS rfl (fun A B G H I d0 => rP (y_lss (eI d0) rfl)) (gE ok3 fun a4 s4 ok4 D4 => ?_))); have F4 := (((F0.step0 D1.stp).step0 D2.stp).step0 D3.stp).step0 D4.stp; have q6 := D4.k q4; refine tn ?_
   refine cond_p (p := (((n : Nat) : Int) < (10 : Int))) (D4.m 1 rfl) (fun c3 => ?_) (fun c3 => ?_)
   ·
    refine wp_seq ?_
    refine gI a4 s4 ok4 (gM q6 (gT (Ty.nat (48 + n)) rfl (fun A B G H I d0 => rP ((y_add rfl (eI d0) wX).mono (fun τ _ h => cN (σ := τ) h))) (gT (Ty.val (Value.int .u8 (((48 + n) : Nat) : Int))) rfl (fun A B G H I d0 => rP (y_conv Tryd.underlying5 (eI d0) (by exact wrap_u8 oM oM) (by rw [Tryd.underlying3]; rfl))) (gT (Ty.sl 1 1 [(Ty.byte (Nat.toUInt8 (Int.toNat (((48 + n) : Nat) : Int))))]) rfl (fun A B G H I d0 => rP (y_build1o Tryd.underlying22 Tryd.inf5 rfl (one_val rfl) (cvByte oM oM (eI d0)))) (gT (Ty.val (Value.string (bsL [(Nat.toUInt8 (Int.toNat (((48 + n) : Nat) : Int)))]))) rfl (fun A B G H I d0 => rP (y_convBS (bs := [(Nat.toUInt8 (Int.toNat (((48 + n) : Nat) : Int)))]) Tryd.underlying22 Tryd.underlying5 Tryd.underlying9 (eI d0))) (gB 0 (gE ok4 fun a5 s5 ok5 D5 => ?_))))))); refine tn (wp_ret (tr ?_))
    exact retL1 rfl ok5 (F4.step0 D5.stp) (cvt (by (rw [show Nat.toUInt8 (Int.toNat ((48 + n : Nat) : Int)) = UInt8.ofNat (48 + n) from rfl, dec_small oM])) (D5.m 5 rfl))
   ·
    refine wp_skip (tn (wp_seq ?_))
    refine gI a4 s4 ok4 (gM q6 (gT (Ty.nat (n / 10)) rfl (fun A B G H I d0 => rP (y_quoN (eI d0) (toN (σ := B) rfl oM) oM oM)) (gS rfl (fun A B G H I d0 => rP (y_call _ Tryd.func44 rfl rfl my1 (ih (((n / 10))) oM ((n / 10)) _ _ (cvi (σ := B) (by first | omega | rfl) (ef d0 rfl)) (by first | omega | rfl) (by first | omega | rfl)))) (gM q6 (gT (Ty.nat (n % 10)) rfl (fun A B G H I d0 => rP (y_remN (eI d0) (toN (σ := B) rfl oM) oM)) (gT (Ty.nat (48 + (n % 10))) rfl (fun A B G H I d0 => rP ((y_add rfl (eI d0) wX).mono (fun τ _ h => cN (σ := τ) h))) (gT (Ty.val (Value.int .u8 (((48 + (n % 10)) : Nat) : Int))) rfl (fun A B G H I d0 => rP (y_conv Tryd.underlying5 (eI d0) (by exact wrap_u8 oM oM) (by rw [Tryd.underlying3]; rfl))) (gT (Ty.sl 1 1 [(Ty.byte (Nat.toUInt8 (Int.toNat (((48 + (n % 10)) : Nat) : Int))))]) rfl (fun A B G H I d0 => rP (y_build1o Tryd.underlying22 Tryd.inf5 rfl (one_val rfl) (cvByte oM oM (eI d0)))) (gT (Ty.val (Value.string (bsL [(Nat.toUInt8 (Int.toNat (((48 + (n % 10)) : Nat) : Int)))]))) rfl (fun A B G H I d0 => rP (y_convBS (bs := [(Nat.toUInt8 (Int.toNat (((48 + (n % 10)) : Nat) : Int)))]) Tryd.underlying22 Tryd.underlying5 Tryd.underlying9 (eI d0))) (gT (Ty.val (Value.string ((dcB ((n / 10))) ++ (bsL [(Nat.toUInt8 (Int.toNat (((48 + (n % 10)) : Nat) : Int)))])))) rfl (fun A B G H I d0 d1 => rP (y_scat (eI d0) (eI d1) (by have h1_ := dcB_le (n := n / 10) oM; simp only [bsL_size, List.length_singleton]; omega))) (gB 0 (gE ok4 fun a6 s6 ok6 D6 => ?_)))))))))))); refine tn (wp_ret ?_)
    exact retL1 rfl ok6 (F4.step0 D6.stp) (cvt (by (rw [show Nat.toUInt8 (Int.toNat ((48 + n % 10 : Nat) : Int)) = UInt8.ofNat (48 + n % 10) from rfl, dec_great oM])) (D6.m 10 rfl))


set_option maxHeartbeats 4000000 in
set_option maxRecDepth 100000 in
theorem rLine_fn (dy : Int) (ch : Int) (mt : ByteArray) (rg : List ByteArray) (σ : GW)  (v0 : Value) (hv0 : Ty.has (Ty.agg [(Ty.int dy), (Ty.int ch), (Ty.val (Value.string mt)), (Ty.lst Ty.str rg)]) σ v0)  (hok : mayR (dy, ch, mt, rg) = 0) (hzm : mt.size ≤ 1000000) (hjz : (joinR rg).length ≤ 1000000) :
    FnC Tryd.prog 33 #[v0] σ (Ty.val (Value.string (bsL (lineR (dy, ch, mt, rg))))) := by
 have hz124 : (ByteArray.mk #[124]).size = 1 := rfl
 have hz35 : (ByteArray.mk #[35]).size = 1 := rfl
 have hz10 : (ByteArray.mk #[10]).size = 1 := rfl
 have hro := mayR_ok hok
 have hd0_ : 0 ≤ dy := hro.d0
 have hd1_ : dy ≤ 1000000 := hro.d1
 have hc0_ : 1 ≤ ch := hro.c0
 have hc1_ : ch ≤ 1000000 := hro.c1
 have hn2_ : rg.length ≤ 12 := hro.n2
 have hz1_ := dcB_le (n := dy.toNat) oM
 have hz2_ := dcB_le (n := ch.toNat) oM
 have hz3_ : (jnB rg).size = (joinR rg).length := bsL_size _
 have hhz_ := hd_sz (mt := mt) (show dy.toNat < 18446744073709551616 by omega) (show ch.toNat < 18446744073709551616 by omega)
 have hz44 : (ByteArray.mk #[44]).size = 1 := rfl
 refine fn_intro0 Tryd.func33 rfl Tryd.ntmps33 (Nat.le_of_ble_eq_true rfl) (fun s0 a0 hle F0 ok0 hargs => ?_)
 have p0 := pA hle (hargs 0 _ rfl) hv0
 clear hargs; refine wp_seq ?_
 refine gI a0 s0 ok0 (gS rfl (fun A B G H I => rP (y_boxagg (kp (I 0 rfl) G p0))) (gC (Ty.val (Value.string (ByteArray.mk #[]))) (gE ok0 fun a1 s1 ok1 D1 => ?_))); have q1 := D1.m 0 rfl; refine tn (wp_seq ?_)
 refine gI a1 s1 ok1 (gS rfl (fun A B G H I => rP (y_field Tryd.fld42_0 Tryd.inf3 dE (kp (I 1 rfl) G q1) rfl)) (gS rfl (fun A B G H I d0 => rP (y_load Tryd.underlying3 rfl (eI d0) rfl)) (gS rfl (fun A B G H I d0 => rP (y_call _ Tryd.func44 rfl rfl my1 (rDecN_fn (((dy).toNat)) ((dy).toNat) _ _ (cvi (σ := B) (by first | omega | rfl) (ef d0 rfl)) (by first | omega | rfl) (by first | omega | rfl)))) (gT (Ty.val (Value.string ((dcB ((dy).toNat)) ++ (ByteArray.mk #[124])))) rfl (fun A B G H I d0 => rP (y_scat (eI d0) rfl (by (try simp only [ByteArray.size_append]); omega))) (gS rfl (fun A B G H I => rP (y_field Tryd.fld42_1 Tryd.inf3 dE (kp (I 1 rfl) G q1) rfl)) (gS rfl (fun A B G H I d0 => rP (y_load Tryd.underlying3 rfl (eI d0) rfl)) (gS rfl (fun A B G H I d0 d1 => rP (y_call _ Tryd.func44 rfl rfl my1 (rDecN_fn (((ch).toNat)) ((ch).toNat) _ _ (cvi (σ := B) (by first | omega | rfl) (ef d0 rfl)) (by first | omega | rfl) (by first | omega | rfl)))) (gT (Ty.val (Value.string (((dcB ((dy).toNat)) ++ (ByteArray.mk #[124])) ++ (dcB ((ch).toNat))))) rfl (fun A B G H I d0 d1 => rP (y_scat (eI d0) (eI d1) (by (try simp only [ByteArray.size_append]); omega))) (gT (Ty.val (Value.string ((((dcB ((dy).toNat)) ++ (ByteArray.mk #[124])) ++ (dcB ((ch).toNat))) ++ (ByteArray.mk #[124])))) rfl (fun A B G H I d0 => rP (y_scat (eI d0) rfl (by (try simp only [ByteArray.size_append]); omega))) (gS rfl (fun A B G H I => rP (y_field Tryd.fld42_2 Tryd.inf9 dE (kp (I 1 rfl) G q1) rfl)) (gS rfl (fun A B G H I d0 => rP (y_load Tryd.underlying9 rfl (eI d0) rfl)) ?_)))))))))))
 refine gT (Ty.val (Value.string (((((dcB ((dy).toNat)) ++ (ByteArray.mk #[124])) ++ (dcB ((ch).toNat))) ++ (ByteArray.mk #[124])) ++ mt))) rfl (fun A B G H I d0 d1 => rP (y_scat (eI d0) (eI d1) (by (try simp only [ByteArray.size_append]); omega))) (gT (Ty.val (Value.string ((((((dcB ((dy).toNat)) ++ (ByteArray.mk #[124])) ++ (dcB ((ch).toNat))) ++ (ByteArray.mk #[124])) ++ mt) ++ (ByteArray.mk #[124])))) rfl (fun A B G H I d0 => rP (y_scat (eI d0) rfl (by (try simp only [ByteArray.size_append]); omega))) (gB 0 (gE ok1 fun a2 s2 ok2 D2 => ?_)))
 have q4 : At (Ty.val (Value.string ((hdB dy ch mt) ++ jnB (rg.take 0)))) s2 a2 (.tmp 3) := (cvt (by (exact congrArg _ (congrArg _ (ba_add_nil (hdB dy ch mt)).symm))) (D2.m 13 rfl))
 refine tn (wp_seq (wp_seq ?_))
 refine gI a2 s2 ok2 (gC (Ty.int (0 : Int)) (gE ok2 fun a3 s3 ok3 D3 => ?_)); refine tn (wp_block ?_)
 refine loop (fun n1 a4 w1 => ∃ (t1 : GW) (k : Nat), t1.w = w1 ∧ FromL [] s0 t1 ∧ Ok 59 [] a4 ∧ At (Ty.nat k) t1 a4 (.tmp 4) ∧ At (Ty.val (Value.string ((hdB dy ch mt) ++ jnB (rg.take k)))) t1 a4 (.tmp 3) ∧ At (Ty.ref [(Ty.int dy), (Ty.int ch), (Ty.val (Value.string mt)), (Ty.lst Ty.str rg)]) t1 a4 (.tmp 1) ∧ (k ≤ rg.length) ∧ n1 = rg.length - k) (rg.length - (0)) ?_ ?_
 ·
  exact ⟨s3, 0, rfl, (((F0.step0 D1.stp).step0 D2.stp).step0 D3.stp), ok3, (cJ (D3.m 0 rfl)), (cvt (by (rfl)) (D3.k q4)), (D3.k (D2.k q1)), by omega, rfl⟩
 ·
  rintro n2 a5 w2 ⟨t2, k, rfl, F4, ok4, q8, q9, q10, hk, rfl⟩
  have hjt_ : (jnB (rg.take k)).size ≤ (joinR rg).length := by (have h_ := joinR_take (rg := rg) (k := k); rwa [← bsL_size] at h_)
  have hjc_ : (jnC rg k).size ≤ (joinR rg).length + 1 := jnC_sz
  refine wp_seq (wp_seq ?_)
  refine gI a5 t2 ok4 (gM q8 (gS rfl (fun A B G H I => rP (y_field Tryd.fld42_3 Tryd.inf40 dE (kp (I 1 rfl) G q10) rfl)) (gS rfl (fun A B G H I d0 => rP (y_load Tryd.underlying40 rfl (eI d0) rfl)) (gS rfl (fun A B G H I d0 => rP (y_len Tryd.underlying40 (eI d0))) (gS rfl (fun A B G H I d0 d1 => rP (y_lss (eI d0) (eI d1))) (gE ok4 fun a6 s4 ok5 D4 => ?_)))))); have F5 := F4.step0 D4.stp; have q11 := D4.k q8; have q12 := D4.k q9; refine tn ?_
  refine cond_p (p := (((k : Nat) : Int) < (((List.length rg) : Nat) : Int))) (D4.m 4 rfl) (fun c1 => ?_) (fun c1 => ?_)
  ·
   have hgm_ := joinR_mem (getD_memS (rg := rg) (k := k) oM)
   refine wp_skip (tn (wp_seq (wp_block (wp_seq (wp_seq ?_)))))
   refine gI a6 s4 ok5 (gM q11 (gS rfl (fun A B G H I d0 => rP (y_gtr (eI d0) rfl)) (gE ok5 fun a7 s5 ok6 D5 => ?_))); have F6 := F5.step0 D5.stp; have q15 := D5.k q11; have q16 := D5.k q12; have q17 := D5.k (D4.k q10); refine tn ?_
   refine Go.KL.join_then (Q' := fun a8 w3 => ∃ (t3 : GW), t3.w = w3 ∧ FromL [] s0 t3 ∧ Ok 59 [] a8 ∧ At (Ty.val (Value.string ((hdB dy ch mt) ++ jnC rg k))) t3 a8 (.tmp 3) ∧ At (Ty.nat k) t3 a8 (.tmp 4) ∧ At (Ty.ref [(Ty.int dy), (Ty.int ch), (Ty.val (Value.string mt)), (Ty.lst Ty.str rg)]) t3 a8 (.tmp 1) ∧ True) ?_ ?_
   ·
    refine cond_p (p := ((0 : Int) < ((k : Nat) : Int))) (D5.m 1 rfl) (fun c2 => ?_) (fun c2 => ?_)
    ·
     refine gI a7 s5 ok6 (gM q16 (gT (Ty.val (Value.string (((hdB dy ch mt) ++ jnB (rg.take k)) ++ (ByteArray.mk #[44])))) rfl (fun A B G H I d0 => rP (y_scat (eI d0) rfl (by (try simp only [ByteArray.size_append]); omega))) (gB 0 (gE ok6 fun a9 s6 ok7 D6 => ?_))))
     exact tn ⟨s6, rfl, (F6.step0 D6.stp), ok7, (cvt (by (rw [jnC_yes oM])) (D6.m 2 rfl)), (D6.k q15), (D6.k q17), trivial⟩
    ·
     refine wp_skip ?_
     exact tn ⟨s5, rfl, F6, ok6, (cvt (by (rw [jnC_no oM])) q16), q15, q17, trivial⟩
   ·
    rintro a10 w4 ⟨t4, rfl, F8, ok8, q22, q23, q24, -⟩
    refine gI a10 t4 ok8 (gM q22 (gS rfl (fun A B G H I => rP (y_field Tryd.fld42_3 Tryd.inf40 dE (kp (I 1 rfl) G q24) rfl)) (gS rfl (fun A B G H I d0 => rP (y_load Tryd.underlying40 rfl (eI d0) rfl)) (gM q23 (gT (Ty.ref [(Ty.val (Value.string (rg.getD k ByteArray.empty)))]) rfl (fun A B G H I d0 d1 => rP (y_index1 Tryd.underlying40 Tryd.inf9 (eI d0) (eI d1) oM (lst_get Ty.str rg ByteArray.empty k oM))) (gS rfl (fun A B G H I d0 => rP (y_load Tryd.underlying9 rfl (eI d0) rfl)) (gT (Ty.val (Value.string (((hdB dy ch mt) ++ jnC rg k) ++ (rg.getD k ByteArray.empty)))) rfl (fun A B G H I d0 d1 => rP (y_scat (eI d0) (eI d1) (by (try simp only [ByteArray.size_append]); omega))) (gB 0 (gE ok8 fun a11 s7 ok9 D7 => ?_))))))))); refine bn (tn ?_)
    refine gI a11 s7 ok9 (gM (D7.k q23) (gT (Ty.nat (k + 1)) rfl (fun A B G H I d0 => rP ((y_add (eI d0) rfl wX).mono (fun τ _ h => cN (σ := τ) h))) (gB 0 (gE ok9 fun a12 s8 ok10 D8 => ?_))))
    exact tn ⟨rg.length - ((k+1)), by omega, s8, (k+1), rfl, ((F8.step0 D7.stp).step0 D8.stp), ok10, (cJ (D8.m 2 rfl)), (cvt (by (rw [jnC_step oM])) (D8.k (D7.m 7 rfl))), (D8.k (D7.k q24)), by omega, rfl⟩
  ·
   have hbe_ : (hdB dy ch mt) ++ jnB (rg.take k) = (bsL (bodyR (dy, ch, mt, rg))) := hd_body (r := (dy, ch, mt, rg)) (show k = rg.length by omega); have hbl_ := body_len hok hzm hjz; have hbz_ : (bsL (bodyR (dy, ch, mt, rg))).size = (bodyR (dy, ch, mt, rg)).length := bsL_size _
   have q31 : At (Ty.val (Value.string (bsL (bodyR (dy, ch, mt, rg))))) s4 a6 (.tmp 3) := cvt (T := (Ty.val (Value.string ((hdB dy ch mt) ++ jnB (rg.take k))))) (U := (Ty.val (Value.string (bsL (bodyR (dy, ch, mt, rg)))))) (by exact congrArg _ (congrArg _ hbe_)) q12
   refine wp_exit (tx (tx (bx (tn (wp_seq ?_)))))
   refine gI a6 s4 ok5 (gC (Ty.val (Value.int .u32 (5381 : Int))) (gE ok5 fun a13 s9 ok11 D9 => ?_)); refine tn (wp_seq (wp_seq ?_))
   refine gI a13 s9 ok11 (gC (Ty.int (0 : Int)) (gE ok11 fun a14 s10 ok12 D10 => ?_)); refine tn (wp_block ?_)
   refine loop (fun n3 a15 w5 => ∃ (t5 : GW) (k : Nat), t5.w = w5 ∧ FromL [] s0 t5 ∧ Ok 59 [] a15 ∧ At (Ty.nat k) t5 a15 (.tmp 6) ∧ At (Ty.val (Value.int .u32 (((ckT (ByteArray.data (bsL (bodyR (dy, ch, mt, rg)))).toList k) : Nat) : Int))) t5 a15 (.tmp 5) ∧ At (Ty.val (Value.string (bsL (bodyR (dy, ch, mt, rg))))) t5 a15 (.tmp 3) ∧ (k ≤ (bsL (bodyR (dy, ch, mt, rg))).size) ∧ n3 = (bsL (bodyR (dy, ch, mt, rg))).size - k) ((bsL (bodyR (dy, ch, mt, rg))).size - (0)) ?_ ?_
   ·
    exact ⟨s10, 0, rfl, ((F5.step0 D9.stp).step0 D10.stp), ok12, (cJ (D10.m 0 rfl)), (cvi (by (rfl)) (D10.k (D9.m 0 rfl))), (D10.k (D9.k q31)), by omega, rfl⟩
   ·
    rintro n4 a16 w6 ⟨t6, k, rfl, F13, ok13, q37, q38, q39, hk, rfl⟩
    have hck := ckT_lt (l := (ByteArray.data (bsL (bodyR (dy, ch, mt, rg)))).toList) (i := k)
    have hdz_ := dcB_le (n := ckT (ByteArray.data (bsL (bodyR (dy, ch, mt, rg)))).toList k) (Nat.lt_trans ckT_lt dE)
    have hb256 := UInt8.toNat_lt ((bsL (bodyR (dy, ch, mt, rg))).get! k)
    have hc33 : ckT (ByteArray.data (bsL (bodyR (dy, ch, mt, rg)))).toList k * 33 % 4294967296 < 4294967296 := Nat.mod_lt _ dE
    refine wp_seq (wp_seq ?_)
    refine gI a16 t6 ok13 (gM q37 (gM q39 (gT (Ty.nat (ByteArray.size (bsL (bodyR (dy, ch, mt, rg))))) rfl (fun A B G H I d0 => rP (y_len_str Tryd.underlying9 (eI d0))) (gS rfl (fun A B G H I d0 d1 => rP (y_lss (eI d0) (eI d1))) (gE ok13 fun a17 s11 ok14 D11 => ?_))))); have F14 := F13.step0 D11.stp; have q41 := D11.k q38; have q42 := D11.k q39; refine tn ?_
    refine cond_p (p := (((k : Nat) : Int) < (((ByteArray.size (bsL (bodyR (dy, ch, mt, rg)))) : Nat) : Int))) (D11.m 3 rfl) (fun c3 => ?_) (fun c3 => ?_)
    ·
     refine wp_skip (tn (wp_seq (wp_block (wp_seq ?_))))
     refine gI a17 s11 ok14 (gM q41 (gT (Ty.val (Value.int .u32 ((((ckT (ByteArray.data (bsL (bodyR (dy, ch, mt, rg)))).toList k) * 33 % 4294967296 : Nat)) : Int))) rfl (fun A B G H I d0 => rP (y_mul33 (h := (ckT (ByteArray.data (bsL (bodyR (dy, ch, mt, rg)))).toList k)) (eI d0) rfl)) (gB 0 (gE ok14 fun a18 s12 ok15 D12 => ?_)))); have q44 := D12.k (D11.k q37); have q45 := D12.k q42; refine tn ?_
     refine gI a18 s12 ok15 (gM (D12.m 2 rfl) (gM q45 (gM q44 (gT (Ty.val (Value.int .u8 ((((bsL (bodyR (dy, ch, mt, rg))).get! k).toNat : Nat) : Int))) rfl (fun A B G H I d0 d1 => rP (y_sindex Tryd.underlying9 (eI d0) (eI d1) oM oM)) (gT (Ty.val (Value.int .u32 ((((bsL (bodyR (dy, ch, mt, rg))).get! k).toNat : Nat) : Int))) rfl (fun A B G H I d0 => rP (y_conv Tryd.underlying72 (eI d0) (by exact wrap_u32 oM oM) (by rw [Tryd.underlying5]; rfl))) (gT (Ty.val (Value.int .u32 (((((ckT (ByteArray.data (bsL (bodyR (dy, ch, mt, rg)))).toList k) * 33 % 4294967296) ^^^ ((bsL (bodyR (dy, ch, mt, rg))).get! k).toNat : Nat)) : Int))) rfl (fun A B G H I d0 d1 => rP (y_xor32 (m := ((ckT (ByteArray.data (bsL (bodyR (dy, ch, mt, rg)))).toList k) * 33 % 4294967296)) (n := ((bsL (bodyR (dy, ch, mt, rg))).get! k).toNat) (eI d0) (eI d1) oM oM)) (gB 0 (gE ok15 fun a19 s13 ok16 D13 => ?_)))))))); refine bn (tn ?_)
     refine gI a19 s13 ok16 (gM (D13.k q44) (gT (Ty.nat (k + 1)) rfl (fun A B G H I d0 => rP ((y_add (eI d0) rfl wX).mono (fun τ _ h => cN (σ := τ) h))) (gB 0 (gE ok16 fun a20 s14 ok17 D14 => ?_))))
     exact tn ⟨(bsL (bodyR (dy, ch, mt, rg))).size - ((k+1)), by omega, s14, (k+1), rfl, (((F14.step0 D12.stp).step0 D13.stp).step0 D14.stp), ok17, (cJ (D14.m 2 rfl)), (cvi (by (rw [ckT_step oM])) (D14.k (D13.m 6 rfl))), (D14.k (D13.k q45)), by omega, rfl⟩
    ·
     refine wp_exit (tx (tx (bx (tn (wp_seq ?_)))))
     refine gI a17 s11 ok14 (gM q42 (gT (Ty.val (Value.string ((bsL (bodyR (dy, ch, mt, rg))) ++ (ByteArray.mk #[35])))) rfl (fun A B G H I d0 => rP (y_scat (eI d0) rfl (by (try simp only [ByteArray.size_append]); omega))) (gM q41 (gT (Ty.nat (ckT (ByteArray.data (bsL (bodyR (dy, ch, mt, rg)))).toList k)) rfl (fun A B G H I d0 => rP (y_conv Tryd.underlying3 (eI d0) (by exact w64 oM oM) (by rw [Tryd.underlying72]; rfl))) (gS rfl (fun A B G H I d0 => rP (y_call _ Tryd.func44 rfl rfl my1 (rDecN_fn (((ckT (ByteArray.data (bsL (bodyR (dy, ch, mt, rg)))).toList k))) ((ckT (ByteArray.data (bsL (bodyR (dy, ch, mt, rg)))).toList k)) _ _ (cvi (σ := B) (by first | omega | rfl) (ef d0 rfl)) (by first | omega | rfl) (by first | omega | rfl)))) (gT (Ty.val (Value.string (((bsL (bodyR (dy, ch, mt, rg))) ++ (ByteArray.mk #[35])) ++ (dcB ((ckT (ByteArray.data (bsL (bodyR (dy, ch, mt, rg)))).toList k)))))) rfl (fun A B G H I d0 d1 => rP (y_scat (eI d0) (eI d1) (by (try simp only [ByteArray.size_append]); omega))) (gT (Ty.val (Value.string ((((bsL (bodyR (dy, ch, mt, rg))) ++ (ByteArray.mk #[35])) ++ (dcB ((ckT (ByteArray.data (bsL (bodyR (dy, ch, mt, rg)))).toList k)))) ++ (ByteArray.mk #[10])))) rfl (fun A B G H I d0 => rP (y_scat (eI d0) rfl (by (try simp only [ByteArray.size_append]); omega))) (gB 0 (gE ok14 fun a21 s15 ok18 D15 => ?_))))))))); refine tn (wp_ret ?_)
     exact retL1 rfl ok18 (F14.step0 D15.stp) (cvt (by (rw [ckT_end oM]; exact congrArg _ (congrArg _ line_eq))) (D15.m 7 rfl))


set_option maxHeartbeats 4000000 in
set_option maxRecDepth 100000 in
theorem rRead_fn (s : ByteArray) (σ : GW) (hlow : Low [] σ) (v0 : Value) (hv0 : Ty.has (Ty.val (Value.string s)) σ v0)  (hsz : s.size ≤ 1000000) :
    FnL Tryd.prog 16 #[v0] σ [] (fun v τ => ∃ (dy2 : Int), ∃ (ch2 : Int), ∃ (mt2 : ByteArray), ∃ (rg2 : List ByteArray), (Ty.has (Ty.tup2 (Ty.agg [(Ty.int dy2), (Ty.int ch2), (Ty.val (Value.string mt2)), (Ty.lst Ty.str rg2)]) (Ty.bool (Option.isSome (readR (ByteArray.data s).toList)))) τ v) ∧ (∀ q, (readR (ByteArray.data s).toList) = some q → q = (dy2, ch2, mt2, rg2))) := by
 have hz10 : (ByteArray.mk #[10]).size = 1 := rfl
 have hcp_ := cutT_pos (c := 35) (s := s)
 have hpz_ := p0B_sz (s := s)
 have hp35_ : ((cutT 35 s).getD ((0 : Int)).toNat ByteArray.empty).size ≤ s.size := p0B_sz
 have hp0_ : ((ptB s).getD ((0 : Int)).toNat ByteArray.empty).size ≤ s.size := ptB_sz (s := s) 0
 have hp1_ : ((ptB s).getD ((1 : Int)).toNat ByteArray.empty).size ≤ s.size := ptB_sz (s := s) 1
 have hp2_ : ((ptB s).getD ((2 : Int)).toNat ByteArray.empty).size ≤ s.size := ptB_sz (s := s) 2
 have hp3_ : ((ptB s).getD ((3 : Int)).toNat ByteArray.empty).size ≤ s.size := ptB_sz (s := s) 3
 have hrz_ : ∀ x ∈ cutT 44 ((ptB s).getD ((3 : Int)).toNat ByteArray.empty), x.size ≤ 17592186044416 := fun x hx => Nat.le_trans (cutT_sz hx) oM
 have hrn_ : (cutT 44 ((ptB s).getD ((3 : Int)).toNat ByteArray.empty)).length ≤ 1099511627776 := Nat.le_trans cutT_n oM
 have hrj_ : (joinR (cutT 44 ((ptB s).getD ((3 : Int)).toNat ByteArray.empty))).length ≤ s.size := refB_join
 refine fn_introL hlow Tryd.func16 rfl Tryd.ntmps16 (Nat.le_of_ble_eq_true rfl) (fun a0 F0 ok0 hargs => ?_)
 have p0 := pB (hargs 0 _ rfl) hv0
 clear hargs; refine wp_seq ?_
 refine gI a0 σ ok0 (gR (Pr.ownp 61 [(Ty.int (0 : Int)), (Ty.int (0 : Int)), (Ty.val (Value.string ByteArray.empty)), (Ty.val (Value.slice none 0 0))]) rfl (by intro A B G H I; exact rP (y_alloc Tryd.inf42 rfl (alloc_vals (vs := [.int .i64 0, .int .i64 0, .string ByteArray.empty, .slice none 0 0]) rfl))) (gC (Ty.bool false) (gE ok0 fun a1 s1 ok1 D1 => ?_))); have q1 := D1.k p0
 obtain ⟨x1, hx1⟩ : ∃ x, a1.eval (.tmp 2) = x := ⟨_, rfl⟩
 have q2 : At (Ty.val x1) s1 a1 (.tmp 2) := hx1
 have o1 := al2 (R := (Pr.ownp 61 [(Ty.int (0 : Int)), (Ty.int (0 : Int)), (Ty.val (Value.string ByteArray.empty)), (Ty.val (Value.slice none 0 0))])) hx1 (D1.done 0)
 refine tn (wp_seq ?_)
 refine gI a1 s1 ok1 (gM q1 (gS rfl (fun A B G H I d0 => rP (y_call _ Tryd.func30 rfl rfl my2 (rCutAtC_fn (s) ((35 : UInt8)) _ _ _ (eI d0) rfl oM))) (gB 0 (gE ok1 fun a2 s2 ok2 D2 => ?_)))); have o2 := OwnP.k0 o1 D2.stp; refine tn (wp_seq ?_)
 refine gI a2 s2 ok2 (gM (D2.m 2 rfl) (gT (Ty.ref [(Ty.val (Value.string ((cutT ((35 : UInt8)) s).getD ((0 : Int)).toNat ByteArray.empty)))]) rfl (fun A B G H I d0 => rP (y_index1 Tryd.underlying40 Tryd.inf9 (eI d0) rfl oM (lst_get Ty.str (cutT ((35 : UInt8)) s) ByteArray.empty ((0 : Int)).toNat oM))) (gS rfl (fun A B G H I d0 => rP (y_load Tryd.underlying9 rfl (eI d0) rfl)) (gS rfl (fun A B G H I d0 => rP (y_call _ Tryd.func30 rfl rfl my2 (rCutAtC_fn (((cutT ((35 : UInt8)) s).getD ((0 : Int)).toNat ByteArray.empty)) ((124 : UInt8)) _ _ _ (eI d0) rfl oM))) (gB 0 (gE ok2 fun a3 s3 ok3 D3 => ?_)))))); have o3 := OwnP.k0 o2 D3.stp
 have q9 : At (Ty.lst Ty.str (ptB s)) s3 a3 (.tmp 5) := (cvt (by (rfl)) (D3.m 4 rfl))
 refine tn (wp_seq (wp_seq ?_))
 refine gI a3 s3 ok3 (gM q9 (gS rfl (fun A B G H I d0 => rP (y_len Tryd.underlying40 (eI d0))) (gS rfl (fun A B G H I d0 => rP (y_neq (eI d0) rfl)) (gE ok3 fun a4 s4 ok4 D4 => ?_)))); have F4 := (((F0.step0 D1.stp).step0 D2.stp).step0 D3.stp).step0 D4.stp; have q11 := D4.k (D3.k (D2.k q2)); have q12 := D4.k q9; have o4 := OwnP.k0 o3 D4.stp; refine tn ?_
 refine cond_p (p := ((((List.length (ptB s)) : Nat) : Int) ≠ (4 : Int))) (D4.m 2 rfl) (fun c1 => ?_) (fun c1 => ?_)
 ·
  have hne4 : (ptB s).length ≠ 4 := oM; have hbd := rb_bad hne4
  refine wp_seq ?_
  refine gI a4 s4 ok4 (gT (Ty.agg [(Ty.int (0 : Int)), (Ty.int (0 : Int)), (Ty.val (Value.string ByteArray.empty)), (Ty.val (Value.slice none 0 0))]) rfl (fun A B G H I => rP (y_bld [] [(Ty.int (0 : Int)), (Ty.int (0 : Int)), (Ty.val (Value.string ByteArray.empty)), (Ty.val (Value.slice none 0 0))] (l := [(0, 1), (1, 1), (2, 1), (3, 1)]) rfl Tryd.inf42 rfl (alloc_vals (vs := [.int .i64 0, .int .i64 0, .string ByteArray.empty, .slice none 0 0]) rfl) rfl (by intro p hp; cases hp))) (gE2 ok4 fun a5 s5 ok5 D5 => ?_)); have q14 := D5.k q11; have o5 := OwnP.k0 o4 D5.stp
  refine tailL0 (L := [61]) (R := (fun _ τ => OwnP τ 61 x1 [(Ty.int (0 : Int)), (Ty.int (0 : Int)), (Ty.val (Value.string ByteArray.empty)), (Ty.val (Value.slice none 0 0))])) rfl rfl (YldM.toL (m_storeagg Tryd.inf42 dE o5 q14 rfl (D5.m 0 rfl) (by intro U hU; simp only [List.mem_cons, List.not_mem_nil, or_false] at hU; rcases hU with rfl | rfl | rfl | rfl <;> first | exact one_val rfl | exact one_sl | exact one_flt | exact one_cx | exact one_ref))) (fun v1 s6 hs1 r1 => ?_)
  have q16 := kpL hs1 dE rfl q14
  have o6 : OwnP s6 61 x1 [(Ty.int (0 : Int)), (Ty.int (0 : Int)), (Ty.val (Value.string ByteArray.empty)), (Ty.val (Value.slice none 0 0))] := r1
  clear r1
  refine tL (R := (fun v τ => Pr.has (Ty.pr (Ty.bool false)) τ v)) ok5 (Yld.toL (y_assign rfl)) fun a6 s7 hs2 ok6 r2 sm1 => ?_
  have q19 : At (Ty.bool false) s7 a6 (.tmp 3) := r2
  clear r2; refine wpList_nil (tn (wp_ret (tr ?_)))
  have o8 : OwnP s7 61 x1 [(Ty.int (0 : Int)), (Ty.int (0 : Int)), (Ty.val (Value.string ByteArray.empty)), (Ty.val (Value.slice none 0 0))] := (OwnP.kl o6 hs2)
  have o9 : OwnP s7 61 x1 [(Ty.int ((0 : Int))), (Ty.int (0 : Int)), (Ty.val (Value.string ByteArray.empty)), (Ty.val (Value.slice none 0 0))] := cvop (by rw [show (Ty.int (0 : Int)) = (Ty.int ((0 : Int))) from by (first | rfl | omega | (simp_all; done))]) o8
  have o10 : OwnP s7 61 x1 [(Ty.int ((0 : Int))), (Ty.int ((0 : Int))), (Ty.val (Value.string ByteArray.empty)), (Ty.val (Value.slice none 0 0))] := cvop (by rw [show (Ty.int (0 : Int)) = (Ty.int ((0 : Int))) from by (first | rfl | omega | (simp_all; done))]) o9
  have o11 : OwnP s7 61 x1 [(Ty.int ((0 : Int))), (Ty.int ((0 : Int))), (Ty.val (Value.string (ByteArray.empty))), (Ty.val (Value.slice none 0 0))] := cvop (by rw [show (Ty.val (Value.string ByteArray.empty)) = (Ty.val (Value.string (ByteArray.empty))) from by (first | rfl | omega | (simp_all; done))]) o10
  have o12 : OwnP s7 61 x1 [(Ty.int ((0 : Int))), (Ty.int ((0 : Int))), (Ty.val (Value.string (ByteArray.empty))), (Ty.lst Ty.str (([] : List ByteArray)))] := ownp_cellq 3 (Ty.lst Ty.str (([] : List ByteArray))) o11 rfl (nil_has (by first | rfl | omega | (simp_all; done)))
  exact retL2c (k := 61) (ts := [(Ty.int ((0 : Int))), (Ty.int ((0 : Int))), (Ty.val (Value.string (ByteArray.empty))), (Ty.lst Ty.str (([] : List ByteArray)))]) rfl ok6 (((F4.step0 D5.stp).sl hs1).sl hs2) Tryd.underlying42 Tryd.inf42 (al (R := (Pr.ownp 61 [(Ty.int ((0 : Int))), (Ty.int ((0 : Int))), (Ty.val (Value.string (ByteArray.empty))), (Ty.lst Ty.str (([] : List ByteArray)))])) (kq hs2 sm1 2 q16) o12) (fun v_ hv_ => ⟨(0 : Int), (0 : Int), ByteArray.empty, ([] : List ByteArray), (hasT2 hv_ (cvb (by (rw [hbd]; rfl)) q19)), (by intro q hq; rw [hbd] at hq; cases hq)⟩)
 ·
  have h4 : (ptB s).length = 4 := oM
  refine wp_skip (tn (wp_seq ?_))
  refine gI a4 s4 ok4 (gM q12 (gT (Ty.ref [(Ty.val (Value.string ((ptB s).getD ((0 : Int)).toNat ByteArray.empty)))]) rfl (fun A B G H I d0 => rP (y_index1 Tryd.underlying40 Tryd.inf9 (eI d0) rfl oM (lst_get Ty.str (ptB s) ByteArray.empty ((0 : Int)).toNat oM))) (gS rfl (fun A B G H I d0 => rP (y_load Tryd.underlying9 rfl (eI d0) rfl)) (gS rfl (fun A B G H I d0 => rP (y_call _ Tryd.func31 rfl rfl my1 (rDigits_fn (((ptB s).getD ((0 : Int)).toNat ByteArray.empty)) _ _ (eI d0) oM))) (gM q12 (gT (Ty.ref [(Ty.val (Value.string ((ptB s).getD ((1 : Int)).toNat ByteArray.empty)))]) rfl (fun A B G H I d0 => rP (y_index1 Tryd.underlying40 Tryd.inf9 (eI d0) rfl oM (lst_get Ty.str (ptB s) ByteArray.empty ((1 : Int)).toNat oM))) (gS rfl (fun A B G H I d0 => rP (y_load Tryd.underlying9 rfl (eI d0) rfl)) (gS rfl (fun A B G H I d0 d1 => rP (y_call _ Tryd.func31 rfl rfl my1 (rDigits_fn (((ptB s).getD ((1 : Int)).toNat ByteArray.empty)) _ _ (eI d0) oM))) (gM q12 (gT (Ty.ref [(Ty.val (Value.string ((ptB s).getD ((2 : Int)).toNat ByteArray.empty)))]) rfl (fun A B G H I d0 => rP (y_index1 Tryd.underlying40 Tryd.inf9 (eI d0) rfl oM (lst_get Ty.str (ptB s) ByteArray.empty ((2 : Int)).toNat oM))) (gS rfl (fun A B G H I d0 => rP (y_load Tryd.underlying9 rfl (eI d0) rfl)) (gM q12 (gT (Ty.ref [(Ty.val (Value.string ((ptB s).getD ((3 : Int)).toNat ByteArray.empty)))]) rfl (fun A B G H I d0 => rP (y_index1 Tryd.underlying40 Tryd.inf9 (eI d0) rfl oM (lst_get Ty.str (ptB s) ByteArray.empty ((3 : Int)).toNat oM))) ?_)))))))))))))
  refine gS rfl (fun A B G H I d0 => rP (y_load Tryd.underlying9 rfl (eI d0) rfl)) (gS rfl (fun A B G H I d0 d1 => rP (y_call _ Tryd.func30 rfl rfl my2 (rCutAtC_fn (((ptB s).getD ((3 : Int)).toNat ByteArray.empty)) ((44 : UInt8)) _ _ _ (eI d0) rfl oM))) (gT (Ty.agg [(Ty.int (digE (((ptB s).getD ((0 : Int)).toNat ByteArray.empty)))), (Ty.int (digE (((ptB s).getD ((1 : Int)).toNat ByteArray.empty)))), (Ty.val (Value.string ((ptB s).getD ((2 : Int)).toNat ByteArray.empty))), (Ty.lst Ty.str (cutT ((44 : UInt8)) (((ptB s).getD ((3 : Int)).toNat ByteArray.empty))))]) rfl (fun A B G H I d0 d1 d2 d3 => rP (y_bld [(0, (.tmp 21), (Ty.int (digE (((ptB s).getD ((0 : Int)).toNat ByteArray.empty))))), (1, (.tmp 25), (Ty.int (digE (((ptB s).getD ((1 : Int)).toNat ByteArray.empty))))), (2, (.tmp 28), (Ty.val (Value.string ((ptB s).getD ((2 : Int)).toNat ByteArray.empty)))), (3, (.tmp 32), (Ty.lst Ty.str (cutT ((44 : UInt8)) (((ptB s).getD ((3 : Int)).toNat ByteArray.empty)))))] [(Ty.int (0 : Int)), (Ty.int (0 : Int)), (Ty.val (Value.string ByteArray.empty)), (Ty.val (Value.slice none 0 0))] (l := [(0, 1), (1, 1), (2, 1), (3, 1)]) rfl Tryd.inf42 rfl (alloc_vals (vs := [.int .i64 0, .int .i64 0, .string ByteArray.empty, .slice none 0 0]) rfl) rfl (by intro p hp; simp only [List.mem_cons, List.not_mem_nil, or_false] at hp; rcases hp with rfl | rfl | rfl | rfl; exact ⟨one_val rfl, (eI d0)⟩; exact ⟨one_val rfl, (eI d1)⟩; exact ⟨one_val rfl, (eI d2)⟩; exact ⟨one_sl, (eI d3)⟩))) ?_))
  refine gR (Pr.ownp 62 [(Ty.int (0 : Int)), (Ty.int (0 : Int)), (Ty.val (Value.string ByteArray.empty)), (Ty.val (Value.slice none 0 0))]) rfl (by intro A B G H I; exact rP (y_alloc Tryd.inf42 rfl (alloc_vals (vs := [.int .i64 0, .int .i64 0, .string ByteArray.empty, .slice none 0 0]) rfl))) (gE2 ok4 fun a7 s8 ok7 D6 => ?_); have o13 := OwnP.k0 o4 D6.stp
  obtain ⟨x2, hx2⟩ : ∃ x, a7.eval (.tmp 6) = x := ⟨_, rfl⟩
  have q23 : At (Ty.val x2) s8 a7 (.tmp 6) := hx2
  have o14 := al2 (R := (Pr.ownp 62 [(Ty.int (0 : Int)), (Ty.int (0 : Int)), (Ty.val (Value.string ByteArray.empty)), (Ty.val (Value.slice none 0 0))])) hx2 (D6.done 16 dE)
  refine tailL0 (L := [62]) (R := (fun _ τ => OwnP τ 62 x2 [(Ty.int (digE (((ptB s).getD ((0 : Int)).toNat ByteArray.empty)))), (Ty.int (digE (((ptB s).getD ((1 : Int)).toNat ByteArray.empty)))), (Ty.val (Value.string ((ptB s).getD ((2 : Int)).toNat ByteArray.empty))), (Ty.lst Ty.str (cutT ((44 : UInt8)) (((ptB s).getD ((3 : Int)).toNat ByteArray.empty))))])) rfl rfl (YldM.toL (m_storeagg Tryd.inf42 dE o14 q23 rfl (D6.m 15 rfl) (by intro U hU; simp only [List.mem_cons, List.not_mem_nil, or_false] at hU; rcases hU with rfl | rfl | rfl | rfl <;> first | exact one_val rfl | exact one_sl | exact one_flt | exact one_cx | exact one_ref))) (fun v2 s9 hs3 r3 => ?_)
  have q24 := kpL hs3 dE rfl (D6.k (D4.k (D3.k (D2.k q1)))); have q25 := kpL hs3 dE rfl (D6.k q11); have q26 := kpL hs3 dE rfl q23
  have o15 : OwnP s9 62 x2 [(Ty.int (digE (((ptB s).getD ((0 : Int)).toNat ByteArray.empty)))), (Ty.int (digE (((ptB s).getD ((1 : Int)).toNat ByteArray.empty)))), (Ty.val (Value.string ((ptB s).getD ((2 : Int)).toNat ByteArray.empty))), (Ty.lst Ty.str (cutT ((44 : UInt8)) (((ptB s).getD ((3 : Int)).toNat ByteArray.empty))))] := r3
  clear r3; refine wpList_nil (tn (wp_seq ?_))
  refine gI a7 s9 ok7 (gT (Ty.agg [(Ty.int (digE (((ptB s).getD ((0 : Int)).toNat ByteArray.empty)))), (Ty.int (digE (((ptB s).getD ((1 : Int)).toNat ByteArray.empty)))), (Ty.val (Value.string ((ptB s).getD ((2 : Int)).toNat ByteArray.empty))), (Ty.lst Ty.str (cutT ((44 : UInt8)) (((ptB s).getD ((3 : Int)).toNat ByteArray.empty))))]) rfl (fun A B G H I => rP (ownp_loadagg Tryd.underlying42 Tryd.inf42 (OwnP.k0 o15 G) (kp (I 6 rfl) G q26))) (gS rfl (fun A B G H I d0 => rP (y_call _ Tryd.func32 rfl rfl my1 (rMay_fn ((digE (((ptB s).getD ((0 : Int)).toNat ByteArray.empty)))) ((digE (((ptB s).getD ((1 : Int)).toNat ByteArray.empty)))) (((ptB s).getD ((2 : Int)).toNat ByteArray.empty)) ((cutT ((44 : UInt8)) (((ptB s).getD ((3 : Int)).toNat ByteArray.empty)))) _ _ (eI d0) oX oX oX))) (gB 0 (gE ok7 fun a8 s10 ok8 D7 => ?_)))); have q29 := D7.k q25; have q30 := D7.k q26; have o17 := OwnP.k0 (OwnP.kl o13 hs3) D7.stp; have o18 := OwnP.k0 o15 D7.stp; refine tn (wp_seq ?_)
  refine reg7 (a := a8) (σ := s10) rfl 11 10 [61] dE (Pr.stP 61 x1 [(Ty.int (digE (((ptB s).getD ((0 : Int)).toNat ByteArray.empty)))), (Ty.int (digE (((ptB s).getD ((1 : Int)).toNat ByteArray.empty)))), (Ty.val (Value.string ((ptB s).getD ((2 : Int)).toNat ByteArray.empty))), (Ty.lst Ty.str (cutT ((44 : UInt8)) (((ptB s).getD ((3 : Int)).toNat ByteArray.empty))))]) (fun i_ => List.getD [(Ty.agg [(Ty.int (digE (((ptB s).getD ((0 : Int)).toNat ByteArray.empty)))), (Ty.int (digE (((ptB s).getD ((1 : Int)).toNat ByteArray.empty)))), (Ty.val (Value.string ((ptB s).getD ((2 : Int)).toNat ByteArray.empty))), (Ty.lst Ty.str (cutT ((44 : UInt8)) (((ptB s).getD ((3 : Int)).toNat ByteArray.empty))))]), (Ty.int (mayR (((digE (((ptB s).getD ((0 : Int)).toNat ByteArray.empty)))), ((digE (((ptB s).getD ((1 : Int)).toNat ByteArray.empty)))), (((ptB s).getD ((2 : Int)).toNat ByteArray.empty)), ((cutT ((44 : UInt8)) (((ptB s).getD ((3 : Int)).toNat ByteArray.empty))))))), (Ty.bool (decide ((mayR (((digE (((ptB s).getD ((0 : Int)).toNat ByteArray.empty)))), ((digE (((ptB s).getD ((1 : Int)).toNat ByteArray.empty)))), (((ptB s).getD ((2 : Int)).toNat ByteArray.empty)), ((cutT ((44 : UInt8)) (((ptB s).getD ((3 : Int)).toNat ByteArray.empty)))))) = (0 : Int)))), (Ty.bool (decide ((mayR (((digE (((ptB s).getD ((0 : Int)).toNat ByteArray.empty)))), ((digE (((ptB s).getD ((1 : Int)).toNat ByteArray.empty)))), (((ptB s).getD ((2 : Int)).toNat ByteArray.empty)), ((cutT ((44 : UInt8)) (((ptB s).getD ((3 : Int)).toNat ByteArray.empty)))))) = (0 : Int)))), (Ty.grd ((decide ((mayR (((digE (((ptB s).getD ((0 : Int)).toNat ByteArray.empty)))), ((digE (((ptB s).getD ((1 : Int)).toNat ByteArray.empty)))), (((ptB s).getD ((2 : Int)).toNat ByteArray.empty)), ((cutT ((44 : UInt8)) (((ptB s).getD ((3 : Int)).toNat ByteArray.empty)))))) = (0 : Int))) = true) (Ty.agg [(Ty.int (digE (((ptB s).getD ((0 : Int)).toNat ByteArray.empty)))), (Ty.int (digE (((ptB s).getD ((1 : Int)).toNat ByteArray.empty)))), (Ty.val (Value.string ((ptB s).getD ((2 : Int)).toNat ByteArray.empty))), (Ty.lst Ty.str (cutT ((44 : UInt8)) (((ptB s).getD ((3 : Int)).toNat ByteArray.empty))))])), (Ty.grd ((decide ((mayR (((digE (((ptB s).getD ((0 : Int)).toNat ByteArray.empty)))), ((digE (((ptB s).getD ((1 : Int)).toNat ByteArray.empty)))), (((ptB s).getD ((2 : Int)).toNat ByteArray.empty)), ((cutT ((44 : UInt8)) (((ptB s).getD ((3 : Int)).toNat ByteArray.empty)))))) = (0 : Int))) = true) (Ty.val (Value.string (bsL (lineR (((digE (((ptB s).getD ((0 : Int)).toNat ByteArray.empty)))), ((digE (((ptB s).getD ((1 : Int)).toNat ByteArray.empty)))), (((ptB s).getD ((2 : Int)).toNat ByteArray.empty)), ((cutT ((44 : UInt8)) (((ptB s).getD ((3 : Int)).toNat ByteArray.empty)))))))))), (Ty.grd ((decide ((mayR (((digE (((ptB s).getD ((0 : Int)).toNat ByteArray.empty)))), ((digE (((ptB s).getD ((1 : Int)).toNat ByteArray.empty)))), (((ptB s).getD ((2 : Int)).toNat ByteArray.empty)), ((cutT ((44 : UInt8)) (((ptB s).getD ((3 : Int)).toNat ByteArray.empty)))))) = (0 : Int))) = true) (Ty.val (Value.string s))), (Ty.grd ((decide ((mayR (((digE (((ptB s).getD ((0 : Int)).toNat ByteArray.empty)))), ((digE (((ptB s).getD ((1 : Int)).toNat ByteArray.empty)))), (((ptB s).getD ((2 : Int)).toNat ByteArray.empty)), ((cutT ((44 : UInt8)) (((ptB s).getD ((3 : Int)).toNat ByteArray.empty)))))) = (0 : Int))) = true) (Ty.val (Value.string (s ++ (ByteArray.mk #[10]))))), (Ty.grd ((decide ((mayR (((digE (((ptB s).getD ((0 : Int)).toNat ByteArray.empty)))), ((digE (((ptB s).getD ((1 : Int)).toNat ByteArray.empty)))), (((ptB s).getD ((2 : Int)).toNat ByteArray.empty)), ((cutT ((44 : UInt8)) (((ptB s).getD ((3 : Int)).toNat ByteArray.empty)))))) = (0 : Int))) = true) (Ty.bool (decide ((bsL (lineR (((digE (((ptB s).getD ((0 : Int)).toNat ByteArray.empty)))), ((digE (((ptB s).getD ((1 : Int)).toNat ByteArray.empty)))), (((ptB s).getD ((2 : Int)).toNat ByteArray.empty)), ((cutT ((44 : UInt8)) (((ptB s).getD ((3 : Int)).toNat ByteArray.empty))))))) = (s ++ (ByteArray.mk #[10])))))), (Ty.bool ((decide ((mayR (((digE (((ptB s).getD ((0 : Int)).toNat ByteArray.empty)))), ((digE (((ptB s).getD ((1 : Int)).toNat ByteArray.empty)))), (((ptB s).getD ((2 : Int)).toNat ByteArray.empty)), ((cutT ((44 : UInt8)) (((ptB s).getD ((3 : Int)).toNat ByteArray.empty)))))) = (0 : Int))) && (decide ((bsL (lineR (((digE (((ptB s).getD ((0 : Int)).toNat ByteArray.empty)))), ((digE (((ptB s).getD ((1 : Int)).toNat ByteArray.empty)))), (((ptB s).getD ((2 : Int)).toNat ByteArray.empty)), ((cutT ((44 : UInt8)) (((ptB s).getD ((3 : Int)).toNat ByteArray.empty))))))) = (s ++ (ByteArray.mk #[10])))))), Ty.any] i_ Ty.any) ok8 rfl dE rfl dE rfl rfl ⟨?_, ?_, ?_, ?_, ?_, ?_, ?_, ?_, ?_, ?_, ?_, trivial⟩ ?_
  · refine obR3 dE ?_
    intro A B G H I
    exact rP (ownp_loadagg Tryd.underlying42 Tryd.inf42 (OwnP.keepL o18 G dE dE) (kpL G dE (I 6 rfl) q30))
  · refine obR3 dE ?_
    intro A B G H I
    exact rP (y_move (kpL G dE (I 7 rfl) (D7.m 2 rfl)))
  · refine obR3 dE ?_
    intro A B G H I d0
    have e1 : At (Ty.int (mayR (((digE (((ptB s).getD ((0 : Int)).toNat ByteArray.empty)))), ((digE (((ptB s).getD ((1 : Int)).toNat ByteArray.empty)))), (((ptB s).getD ((2 : Int)).toNat ByteArray.empty)), ((cutT ((44 : UInt8)) (((ptB s).getD ((3 : Int)).toNat ByteArray.empty))))))) B A (.tmp 37) := d0 rfl
    exact rP (y_eql e1 rfl)
  · refine obR3 dE ?_
    intro A B G H I d0
    have e2 : At (Ty.bool (decide ((mayR (((digE (((ptB s).getD ((0 : Int)).toNat ByteArray.empty)))), ((digE (((ptB s).getD ((1 : Int)).toNat ByteArray.empty)))), (((ptB s).getD ((2 : Int)).toNat ByteArray.empty)), ((cutT ((44 : UInt8)) (((ptB s).getD ((3 : Int)).toNat ByteArray.empty)))))) = (0 : Int)))) B A (.tmp 38) := d0 rfl
    exact rP (y_move e2)
  · refine obR3 dE ?_
    intro A B G H I d0
    have e3 : At (Ty.bool (decide ((mayR (((digE (((ptB s).getD ((0 : Int)).toNat ByteArray.empty)))), ((digE (((ptB s).getD ((1 : Int)).toNat ByteArray.empty)))), (((ptB s).getD ((2 : Int)).toNat ByteArray.empty)), ((cutT ((44 : UInt8)) (((ptB s).getD ((3 : Int)).toNat ByteArray.empty)))))) = (0 : Int)))) B A (.tmp 39) := d0 rfl
    refine run_guard H rfl rfl dE e3 (fun hg => ?_)
    have hp := of_decide_eq_true hg
    exact ownp_loadagg Tryd.underlying42 Tryd.inf42 (OwnP.keepL o18 G dE dE) (kpL G dE (I 6 rfl) q30)
  · refine obR3 dE ?_
    intro A B G H I d0 d1 d2
    have e4 : At (Ty.grd ((decide ((mayR (((digE (((ptB s).getD ((0 : Int)).toNat ByteArray.empty)))), ((digE (((ptB s).getD ((1 : Int)).toNat ByteArray.empty)))), (((ptB s).getD ((2 : Int)).toNat ByteArray.empty)), ((cutT ((44 : UInt8)) (((ptB s).getD ((3 : Int)).toNat ByteArray.empty)))))) = (0 : Int))) = true) (Ty.agg [(Ty.int (digE (((ptB s).getD ((0 : Int)).toNat ByteArray.empty)))), (Ty.int (digE (((ptB s).getD ((1 : Int)).toNat ByteArray.empty)))), (Ty.val (Value.string ((ptB s).getD ((2 : Int)).toNat ByteArray.empty))), (Ty.lst Ty.str (cutT ((44 : UInt8)) (((ptB s).getD ((3 : Int)).toNat ByteArray.empty))))])) B A (.tmp 40) := d0 rfl
    have e3 : At (Ty.bool (decide ((mayR (((digE (((ptB s).getD ((0 : Int)).toNat ByteArray.empty)))), ((digE (((ptB s).getD ((1 : Int)).toNat ByteArray.empty)))), (((ptB s).getD ((2 : Int)).toNat ByteArray.empty)), ((cutT ((44 : UInt8)) (((ptB s).getD ((3 : Int)).toNat ByteArray.empty)))))) = (0 : Int)))) B A (.tmp 39) := d1 rfl
    refine run_guard H rfl rfl dE e3 (fun hg => ?_)
    have hp := of_decide_eq_true hg
    exact y_call _ Tryd.func33 rfl rfl my1 (rLine_fn ((digE (((ptB s).getD ((0 : Int)).toNat ByteArray.empty)))) ((digE (((ptB s).getD ((1 : Int)).toNat ByteArray.empty)))) (((ptB s).getD ((2 : Int)).toNat ByteArray.empty)) ((cutT ((44 : UInt8)) (((ptB s).getD ((3 : Int)).toNat ByteArray.empty)))) _ _ (e4.1 hg) (by first | omega | assumption | rfl) (by first | omega | assumption | rfl) (by first | omega | assumption | rfl))
  · refine obR3 dE ?_
    intro A B G H I d0 d1
    have e3 : At (Ty.bool (decide ((mayR (((digE (((ptB s).getD ((0 : Int)).toNat ByteArray.empty)))), ((digE (((ptB s).getD ((1 : Int)).toNat ByteArray.empty)))), (((ptB s).getD ((2 : Int)).toNat ByteArray.empty)), ((cutT ((44 : UInt8)) (((ptB s).getD ((3 : Int)).toNat ByteArray.empty)))))) = (0 : Int)))) B A (.tmp 39) := d0 rfl
    refine run_guard H rfl rfl dE e3 (fun hg => ?_)
    have hp := of_decide_eq_true hg
    exact y_move (kpL G dE (I 0 rfl) (D7.k q24))
  · refine obR3 dE ?_
    intro A B G H I d0 d1 d2
    have e6 : At (Ty.grd ((decide ((mayR (((digE (((ptB s).getD ((0 : Int)).toNat ByteArray.empty)))), ((digE (((ptB s).getD ((1 : Int)).toNat ByteArray.empty)))), (((ptB s).getD ((2 : Int)).toNat ByteArray.empty)), ((cutT ((44 : UInt8)) (((ptB s).getD ((3 : Int)).toNat ByteArray.empty)))))) = (0 : Int))) = true) (Ty.val (Value.string s))) B A (.tmp 42) := d0 rfl
    have e3 : At (Ty.bool (decide ((mayR (((digE (((ptB s).getD ((0 : Int)).toNat ByteArray.empty)))), ((digE (((ptB s).getD ((1 : Int)).toNat ByteArray.empty)))), (((ptB s).getD ((2 : Int)).toNat ByteArray.empty)), ((cutT ((44 : UInt8)) (((ptB s).getD ((3 : Int)).toNat ByteArray.empty)))))) = (0 : Int)))) B A (.tmp 39) := d1 rfl
    refine run_guard H rfl rfl dE e3 (fun hg => ?_)
    have hp := of_decide_eq_true hg
    exact y_scat (e6.1 hg) rfl oM
  · refine obR3 dE ?_
    intro A B G H I d0 d1 d2 d3
    have e5 : At (Ty.grd ((decide ((mayR (((digE (((ptB s).getD ((0 : Int)).toNat ByteArray.empty)))), ((digE (((ptB s).getD ((1 : Int)).toNat ByteArray.empty)))), (((ptB s).getD ((2 : Int)).toNat ByteArray.empty)), ((cutT ((44 : UInt8)) (((ptB s).getD ((3 : Int)).toNat ByteArray.empty)))))) = (0 : Int))) = true) (Ty.val (Value.string (bsL (lineR (((digE (((ptB s).getD ((0 : Int)).toNat ByteArray.empty)))), ((digE (((ptB s).getD ((1 : Int)).toNat ByteArray.empty)))), (((ptB s).getD ((2 : Int)).toNat ByteArray.empty)), ((cutT ((44 : UInt8)) (((ptB s).getD ((3 : Int)).toNat ByteArray.empty)))))))))) B A (.tmp 41) := d0 rfl
    have e7 : At (Ty.grd ((decide ((mayR (((digE (((ptB s).getD ((0 : Int)).toNat ByteArray.empty)))), ((digE (((ptB s).getD ((1 : Int)).toNat ByteArray.empty)))), (((ptB s).getD ((2 : Int)).toNat ByteArray.empty)), ((cutT ((44 : UInt8)) (((ptB s).getD ((3 : Int)).toNat ByteArray.empty)))))) = (0 : Int))) = true) (Ty.val (Value.string (s ++ (ByteArray.mk #[10]))))) B A (.tmp 43) := d1 rfl
    have e3 : At (Ty.bool (decide ((mayR (((digE (((ptB s).getD ((0 : Int)).toNat ByteArray.empty)))), ((digE (((ptB s).getD ((1 : Int)).toNat ByteArray.empty)))), (((ptB s).getD ((2 : Int)).toNat ByteArray.empty)), ((cutT ((44 : UInt8)) (((ptB s).getD ((3 : Int)).toNat ByteArray.empty)))))) = (0 : Int)))) B A (.tmp 39) := d2 rfl
    refine run_guard H rfl rfl dE e3 (fun hg => ?_)
    have hp := of_decide_eq_true hg
    exact y_seql Tryd.underlying9 (e5.1 hg) (e7.1 hg)
  · refine obR3 dE ?_
    intro A B G H I d0 d1 d2
    have e3 : At (Ty.bool (decide ((mayR (((digE (((ptB s).getD ((0 : Int)).toNat ByteArray.empty)))), ((digE (((ptB s).getD ((1 : Int)).toNat ByteArray.empty)))), (((ptB s).getD ((2 : Int)).toNat ByteArray.empty)), ((cutT ((44 : UInt8)) (((ptB s).getD ((3 : Int)).toNat ByteArray.empty)))))) = (0 : Int)))) B A (.tmp 39) := d0 rfl
    have e8 : At (Ty.grd ((decide ((mayR (((digE (((ptB s).getD ((0 : Int)).toNat ByteArray.empty)))), ((digE (((ptB s).getD ((1 : Int)).toNat ByteArray.empty)))), (((ptB s).getD ((2 : Int)).toNat ByteArray.empty)), ((cutT ((44 : UInt8)) (((ptB s).getD ((3 : Int)).toNat ByteArray.empty)))))) = (0 : Int))) = true) (Ty.bool (decide ((bsL (lineR (((digE (((ptB s).getD ((0 : Int)).toNat ByteArray.empty)))), ((digE (((ptB s).getD ((1 : Int)).toNat ByteArray.empty)))), (((ptB s).getD ((2 : Int)).toNat ByteArray.empty)), ((cutT ((44 : UInt8)) (((ptB s).getD ((3 : Int)).toNat ByteArray.empty))))))) = (s ++ (ByteArray.mk #[10])))))) B A (.tmp 44) := d1 rfl
    exact rP (y_pick_and e3 e8 rfl)
  · refine obR3w rfl ?_
    intro A B G H I d0 d1 d2 d3 d4 d5 d6 d7 d8 d9 d10 d11
    have e0 : At (Ty.agg [(Ty.int (digE (((ptB s).getD ((0 : Int)).toNat ByteArray.empty)))), (Ty.int (digE (((ptB s).getD ((1 : Int)).toNat ByteArray.empty)))), (Ty.val (Value.string ((ptB s).getD ((2 : Int)).toNat ByteArray.empty))), (Ty.lst Ty.str (cutT ((44 : UInt8)) (((ptB s).getD ((3 : Int)).toNat ByteArray.empty))))]) B A (.tmp 36) := d0 rfl
    exact YldM.toL (m_storeagg Tryd.inf42 dE (OwnP.k0 o17 G) (kp (I 2 rfl) G q29) rfl e0 (by intro U hU; simp only [List.mem_cons, List.not_mem_nil, or_false] at hU; rcases hU with rfl | rfl | rfl | rfl <;> first | exact one_val rfl | exact one_sl | exact one_flt | exact one_cx | exact one_ref))
  intro a9 s11 D8; have ok9 := D8.ok; have F11 := (((F4.step0 D6.stp).sl hs3).step0 D7.stp).stepL D8.stp dE
  have q32 : At (Ty.val x1) s11 a9 (.tmp 2) := D8.kt dE q29 rfl
  have o20 := OwnP.keepL o18 D8.stp dE dE
  have q33 : At (Ty.bool ((decide ((mayR (((digE (((ptB s).getD ((0 : Int)).toNat ByteArray.empty)))), ((digE (((ptB s).getD ((1 : Int)).toNat ByteArray.empty)))), (((ptB s).getD ((2 : Int)).toNat ByteArray.empty)), ((cutT ((44 : UInt8)) (((ptB s).getD ((3 : Int)).toNat ByteArray.empty)))))) = (0 : Int))) && (decide ((bsL (lineR (((digE (((ptB s).getD ((0 : Int)).toNat ByteArray.empty)))), ((digE (((ptB s).getD ((1 : Int)).toNat ByteArray.empty)))), (((ptB s).getD ((2 : Int)).toNat ByteArray.empty)), ((cutT ((44 : UInt8)) (((ptB s).getD ((3 : Int)).toNat ByteArray.empty))))))) = (s ++ (ByteArray.mk #[10])))))) s11 a9 (.tmp 45) := D8.done 9 dE
  have o19 : OwnP s11 61 x1 [(Ty.int (digE (((ptB s).getD ((0 : Int)).toNat ByteArray.empty)))), (Ty.int (digE (((ptB s).getD ((1 : Int)).toNat ByteArray.empty)))), (Ty.val (Value.string ((ptB s).getD ((2 : Int)).toNat ByteArray.empty))), (Ty.lst Ty.str (cutT ((44 : UInt8)) (((ptB s).getD ((3 : Int)).toNat ByteArray.empty))))] := D8.donep
  refine tL ok9 (Yld.toL (y_as q33)) fun a10 s12 hs4 ok10 r4 sm2 => ?_
  have o21 := OwnP.kl o20 hs4
  have q36 : At (Ty.bool ((decide ((mayR (((digE (((ptB s).getD ((0 : Int)).toNat ByteArray.empty)))), ((digE (((ptB s).getD ((1 : Int)).toNat ByteArray.empty)))), (((ptB s).getD ((2 : Int)).toNat ByteArray.empty)), ((cutT ((44 : UInt8)) (((ptB s).getD ((3 : Int)).toNat ByteArray.empty)))))) = (0 : Int))) && (decide ((bsL (lineR (((digE (((ptB s).getD ((0 : Int)).toNat ByteArray.empty)))), ((digE (((ptB s).getD ((1 : Int)).toNat ByteArray.empty)))), (((ptB s).getD ((2 : Int)).toNat ByteArray.empty)), ((cutT ((44 : UInt8)) (((ptB s).getD ((3 : Int)).toNat ByteArray.empty))))))) = (s ++ (ByteArray.mk #[10])))))) s12 a10 (.tmp 3) := r4
  clear r4; refine wpList_nil (tn (wp_ret ?_))
  have o23 : OwnP s12 61 x1 [(Ty.int (digE (((ptB s).getD ((0 : Int)).toNat ByteArray.empty)))), (Ty.int (digE (((ptB s).getD ((1 : Int)).toNat ByteArray.empty)))), (Ty.val (Value.string ((ptB s).getD ((2 : Int)).toNat ByteArray.empty))), (Ty.lst Ty.str (cutT ((44 : UInt8)) (((ptB s).getD ((3 : Int)).toNat ByteArray.empty))))] := (OwnP.kl o19 hs4)
  have o24 : OwnP s12 61 x1 [(Ty.int ((digE ((ptB s).getD 0 ByteArray.empty)))), (Ty.int (digE (((ptB s).getD ((1 : Int)).toNat ByteArray.empty)))), (Ty.val (Value.string ((ptB s).getD ((2 : Int)).toNat ByteArray.empty))), (Ty.lst Ty.str (cutT ((44 : UInt8)) (((ptB s).getD ((3 : Int)).toNat ByteArray.empty))))] := cvop (by rw [show (Ty.int (digE (((ptB s).getD ((0 : Int)).toNat ByteArray.empty)))) = (Ty.int ((digE ((ptB s).getD 0 ByteArray.empty)))) from by (first | rfl | omega | (simp_all; done))]) o23
  have o25 : OwnP s12 61 x1 [(Ty.int ((digE ((ptB s).getD 0 ByteArray.empty)))), (Ty.int ((digE ((ptB s).getD 1 ByteArray.empty)))), (Ty.val (Value.string ((ptB s).getD ((2 : Int)).toNat ByteArray.empty))), (Ty.lst Ty.str (cutT ((44 : UInt8)) (((ptB s).getD ((3 : Int)).toNat ByteArray.empty))))] := cvop (by rw [show (Ty.int (digE (((ptB s).getD ((1 : Int)).toNat ByteArray.empty)))) = (Ty.int ((digE ((ptB s).getD 1 ByteArray.empty)))) from by (first | rfl | omega | (simp_all; done))]) o24
  have o26 : OwnP s12 61 x1 [(Ty.int ((digE ((ptB s).getD 0 ByteArray.empty)))), (Ty.int ((digE ((ptB s).getD 1 ByteArray.empty)))), (Ty.val (Value.string (((ptB s).getD 2 ByteArray.empty)))), (Ty.lst Ty.str (cutT ((44 : UInt8)) (((ptB s).getD ((3 : Int)).toNat ByteArray.empty))))] := cvop (by rw [show (Ty.val (Value.string ((ptB s).getD ((2 : Int)).toNat ByteArray.empty))) = (Ty.val (Value.string (((ptB s).getD 2 ByteArray.empty)))) from by (first | rfl | omega | (simp_all; done))]) o25
  have o27 : OwnP s12 61 x1 [(Ty.int ((digE ((ptB s).getD 0 ByteArray.empty)))), (Ty.int ((digE ((ptB s).getD 1 ByteArray.empty)))), (Ty.val (Value.string (((ptB s).getD 2 ByteArray.empty)))), (Ty.lst Ty.str ((cutT 44 ((ptB s).getD 3 ByteArray.empty))))] := cvop (by rw [show (Ty.lst Ty.str (cutT ((44 : UInt8)) (((ptB s).getD ((3 : Int)).toNat ByteArray.empty)))) = (Ty.lst Ty.str ((cutT 44 ((ptB s).getD 3 ByteArray.empty)))) from by (first | rfl | omega | (simp_all; done))]) o26
  exact retL2c (k := 61) (ts := [(Ty.int ((digE ((ptB s).getD 0 ByteArray.empty)))), (Ty.int ((digE ((ptB s).getD 1 ByteArray.empty)))), (Ty.val (Value.string (((ptB s).getD 2 ByteArray.empty)))), (Ty.lst Ty.str ((cutT 44 ((ptB s).getD 3 ByteArray.empty))))]) rfl ok10 (F11.sl hs4) Tryd.underlying42 Tryd.inf42 (al (R := (Pr.ownp 61 [(Ty.int ((digE ((ptB s).getD 0 ByteArray.empty)))), (Ty.int ((digE ((ptB s).getD 1 ByteArray.empty)))), (Ty.val (Value.string (((ptB s).getD 2 ByteArray.empty)))), (Ty.lst Ty.str ((cutT 44 ((ptB s).getD 3 ByteArray.empty))))])) (kq hs4 sm2 2 q32) o27) (fun v_ hv_ => ⟨(digE ((ptB s).getD 0 ByteArray.empty)), (digE ((ptB s).getD 1 ByteArray.empty)), ((ptB s).getD 2 ByteArray.empty), (cutT 44 ((ptB s).getD 3 ByteArray.empty)), (hasT2 hv_ (cvb (by (exact rb_ok h4)) q36)), (by exact rb_is h4)⟩)


set_option maxHeartbeats 4000000 in
set_option maxRecDepth 100000 in
theorem rOpen_fn (l : List UInt8) (σ : GW)  (v0 : Value) (hv0 : Ty.has (Ty.lst Ty.byte l) σ v0)  (hl : l.length ≤ 1000000) :
    FnC Tryd.prog 6 #[v0] σ (Ty.tup2 (Ty.lstc 4 recC (opn 1000 l).1) (Ty.nat (opn 1000 l).2)) := by
 refine fn_intro0 Tryd.func6 rfl Tryd.ntmps6 (Nat.le_of_ble_eq_true rfl) (fun s0 a0 hle F0 ok0 hargs => ?_)
 have p0 := pA hle (hargs 0 _ rfl) hv0
 have b1 := sl_le p0
 clear hargs; refine wp_seq ?_
 refine gI a0 s0 ok0 (gC (Ty.val (Value.slice none 0 0)) (gC (Ty.int (0 : Int)) (gE ok0 fun a1 s1 ok1 D1 => ?_))); refine tn (wp_seq ?_)
 refine gI a1 s1 ok1 (gC (Ty.val (Value.slice none 0 0)) (gE ok1 fun a2 s2 ok2 D2 => ?_)); refine tn (wp_seq ?_)
 refine gI a2 s2 ok2 (gC (Ty.int (0 : Int)) (gE ok2 fun a3 s3 ok3 D3 => ?_)); refine tn (wp_seq (wp_seq ?_))
 refine gI a3 s3 ok3 (gC (Ty.int (0 : Int)) (gE ok3 fun a4 s4 ok4 D4 => ?_)); refine tn (wp_block ?_)
 have o1 : Own s4 40 42 4 (Value.slice none 0 0) 0 (List.flatMap recC ([] : List Rec)) := Own.nil _ _ _ _
 refine loop (fun n1 a5 w1 => ∃ (t1 : GW) (xs : List Rec) (a : Nat) (i : Nat) (x4_0 : Value), t1.w = w1 ∧ FromL [] s0 t1 ∧ Ok 46 [] a5 ∧ At (Ty.val x4_0) t1 a5 (.tmp 4) ∧ At (Ty.nat a) t1 a5 (.tmp 5) ∧ At (Ty.nat i) t1 a5 (.tmp 6) ∧ At (Ty.lst Ty.byte l) t1 a5 (.tmp 0) ∧ Own t1 40 42 4 x4_0 (List.length xs) (List.flatMap recC xs) ∧ (xs ++ (opn (1000 - xs.length) (l.drop a)).1 = (opn 1000 l).1 ∧ a + (opn (1000 - xs.length) (l.drop a)).2 = (opn 1000 l).2) ∧ (a ≤ i) ∧ (i ≤ l.length) ∧ (xs.length ≤ 1000) ∧ (noNl l a i) ∧ n1 = l.length - i) (l.length - (0)) ?_ ?_
 ·
  exact ⟨s4, ([] : List Rec), 0, 0, (Value.slice none 0 0), rfl, ((((F0.step0 D1.stp).step0 D2.stp).step0 D3.stp).step0 D4.stp), ok4, (D4.k (D3.k (D2.m 0 rfl))), (cvi (by (rfl)) (D4.k (D3.m 0 rfl))), (cvi (by (rfl)) (D4.m 0 rfl)), (D4.k (D3.k (D2.k (D1.k p0)))), (cvo (by (first | rfl | simp)) (by (first | rfl | simp)) o1), by simp, by omega, by omega, by simp, noNl_nil, rfl⟩
 ·
  rintro n2 a6 w2 ⟨t2, xs, a, i, x4_0, rfl, F5, ok5, q11, q12, q13, q14, o2, hq, ha, hi, hx, hn, rfl⟩
  have hml_ := mid_len (l := l) (a := a) (i := i)
  have hmz_ := bsL_size (List.take (i - a) (List.drop a l))
  refine wp_seq (wp_seq ?_)
  refine gI a6 t2 ok5 (gM q13 (gM q14 (gS rfl (fun A B G H I d0 => rP (y_len Tryd.underlying22 (eI d0))) (gS rfl (fun A B G H I d0 d1 => rP (y_lss (eI d0) (eI d1))) (gS rfl (fun A B G H I d0 => rP (y_move (eI d0))) (gS rfl (fun A B G H I d0 => gu H (eI d0) fun hg => y_move (kp (I 4 rfl) G q11)) (gT (Ty.grd ((decide (((i : Nat) : Int) < (((List.length l) : Nat) : Int))) = true) (Ty.nat (List.length xs))) rfl (fun A B G H I d0 d1 => gu H (eI d1) fun hg => own_len Tryd.underlying26 (al (R := (Pr.own 40 42 4 (List.length xs) (List.flatMap recC xs))) ((ef d0 rfl).1 hg) (Own.k0 o2 G))) (gS rfl (fun A B G H I d0 d1 => gu H (eI d1) fun hg => y_lss ((ef d0 rfl).1 hg) rfl) (gS rfl (fun A B G H I d0 d1 => rP (y_pick_and (eI d0) (eI d1) rfl)) (gE ok5 fun a7 s5 ok6 D5 => ?_)))))))))); have F6 := F5.step0 D5.stp; have q15 := D5.k q11; have q16 := D5.k q12; have q17 := D5.k q13; have q18 := D5.k q14; have o3 := Own.k0 o2 D5.stp; refine tn ?_
  refine cond_t (D5.m 8 rfl) (fun c1 => ?_) (fun c1 => ?_)
  ·
   obtain ⟨d1, d2⟩ := Bool.and_eq_true_iff.mp c1
   replace d1 := of_decide_eq_true d1
   replace d2 := of_decide_eq_true d2
   simp only [Bool.and_eq_true, decide_eq_true_eq] at c1; have hxl_ : xs.length < 1000 := oM
   refine wp_skip (tn (wp_seq (wp_block (wp_seq (wp_seq ?_)))))
   refine gI a7 s5 ok6 (gM q18 (gM q17 (gT (Ty.ref [(Ty.byte (l.getD i 0))]) rfl (fun A B G H I d0 d1 => rP (y_index1 Tryd.underlying22 Tryd.inf5 (eI d0) (eI d1) oM (lst_get Ty.byte l 0 i oM))) (gS rfl (fun A B G H I d0 => rP (y_load Tryd.underlying5 rfl (eI d0) rfl)) (gS rfl (fun A B G H I d0 => rP (y_neq (eI d0) rfl)) (gE ok6 fun a8 s6 ok7 D6 => ?_)))))); have F7 := F6.step0 D6.stp; have q20 := D6.k q15; have q21 := D6.k q16; have q22 := D6.k q17; have q23 := D6.k q18; have o4 := Own.k0 o3 D6.stp; refine tn ?_
   refine cond_p (p := (((((l.getD i 0)).toNat : Nat) : Int) ≠ (10 : Int))) (D6.m 4 rfl) (fun c2 => ?_) (fun c2 => ?_)
   ·
    have hne : l.getD i 0 ≠ 10 := nl_ne oM
    refine wp_exit (tx (bx (tn ?_)))
    refine gI a8 s6 ok7 (gM q22 (gT (Ty.nat (i + 1)) rfl (fun A B G H I d0 => rP ((y_add (eI d0) rfl wX).mono (fun τ _ h => cN (σ := τ) h))) (gB 0 (gE ok7 fun a9 s7 ok8 D7 => ?_)))); have o5 := Own.k0 o4 D7.stp
    exact tn ⟨l.length - ((i + 1)), by omega, s7, xs, a, (i + 1), x4_0, rfl, (F7.step0 D7.stp), ok8, (D7.k q20), (D7.k q21), (cJ (D7.m 2 rfl)), (D7.k q23), o5, hq, by omega, by omega, by omega, noNl_step hn hne, rfl⟩
   ·
    have heq : l.getD i 0 = 10 := nl_eq oM
    refine wp_skip (tn (wp_seq ?_))
    refine gI a8 s6 ok7 (gM q23 (gM q21 (gM q22 (gT (Ty.lst Ty.byte (List.take (i - a) (List.drop a l))) rfl (fun A B G H I d0 d1 d2 => rP (y_mid (l := a) (h := i) Tryd.underlying22 Tryd.inf5 (eI d0) (eI d1) (eI d2) oM oM)) (gT (Ty.val (Value.string (bsL (List.take (i - a) (List.drop a l))))) rfl (fun A B G H I d0 => rP (y_convBS (bs := (List.take (i - a) (List.drop a l))) Tryd.underlying22 Tryd.underlying5 Tryd.underlying9 (eI d0))) (gE2 ok7 fun a10 s8 ok9 D8 => ?_)))))); have o6 := Own.k0 o4 D8.stp
    refine tL ok9 (y_callL (L := []) [] [] _ rfl dE Tryd.func16 rfl rfl my1 (rRead_fn ((bsL (List.take (i - a) (List.drop a l)))) _ lW _ (uL (D8.m 4 rfl))  oX)) fun a11 s9 hs1 ok10 r1 sm1 => ?_
    obtain ⟨t3, ⟨g1, g2, g3, g4, hT1, hp1⟩, B1⟩ := r1
    have q38 : At (Ty.tup2 (Ty.agg [(Ty.int (g1)), (Ty.int (g2)), (Ty.val (Value.string (g3))), (Ty.lst Ty.str (g4))]) (Ty.bool (Option.isSome (readR (ByteArray.data ((bsL (List.take (i - a) (List.drop a l))))).toList)))) s9 a11 (.tmp 31) := Ty.up _ B1.le hT1
    refine tL ok10 (Yld.toL (y_mv q38)) fun a12 s10 hs2 ok11 r2 sm2 => ?_
    have q43 : At (Ty.tup2 (Ty.agg [(Ty.int (g1)), (Ty.int (g2)), (Ty.val (Value.string (g3))), (Ty.lst Ty.str (g4))]) (Ty.bool (Option.isSome (readR (ByteArray.data ((bsL (List.take (i - a) (List.drop a l))))).toList)))) s10 a12 (.tmp 25) := r2
    clear r2
    refine tL (R := (fun v τ => Pr.has (Ty.pr (Ty.agg [(Ty.int (g1)), (Ty.int (g2)), (Ty.val (Value.string (g3))), (Ty.lst Ty.str (g4))])) τ v)) ok11 (Yld.toL (y_ext2_0 q43)) fun a13 s11 hs3 ok12 r3 sm3 => ?_
    have q49 : At (Ty.agg [(Ty.int (g1)), (Ty.int (g2)), (Ty.val (Value.string (g3))), (Ty.lst Ty.str (g4))]) s11 a13 (.tmp 32) := r3
    clear r3
    refine tL (R := (fun v τ => Pr.has (Ty.pr (Ty.bool (Option.isSome (readR (ByteArray.data ((bsL (List.take (i - a) (List.drop a l))))).toList)))) τ v)) ok12 (Yld.toL (y_ext2_1 (kq hs3 sm3 25 q43))) fun a14 s12 hs4 ok13 r4 sm4 => ?_
    have q55 : At (Ty.bool (Option.isSome (readR (ByteArray.data ((bsL (List.take (i - a) (List.drop a l))))).toList))) s12 a14 (.tmp 33) := r4
    clear r4
    refine tL (R := (fun v τ => Pr.has (Pr.ownp 61 [(Ty.int (0 : Int)), (Ty.int (0 : Int)), (Ty.val (Value.string ByteArray.empty)), (Ty.val (Value.slice none 0 0))]) τ v)) ok13 (Yld.toL (y_alloc Tryd.inf42 rfl (alloc_vals (vs := [.int .i64 0, .int .i64 0, .string ByteArray.empty, .slice none 0 0]) rfl))) fun a15 s13 hs5 ok14 r5 sm5 => ?_
    obtain ⟨x1, hx1⟩ : ∃ x, a15.eval (.tmp 7) = x := ⟨_, rfl⟩
    have q62 : At (Ty.val x1) s13 a15 (.tmp 7) := hx1
    have o11 := al2 (R := (Pr.ownp 61 [(Ty.int (0 : Int)), (Ty.int (0 : Int)), (Ty.val (Value.string ByteArray.empty)), (Ty.val (Value.slice none 0 0))])) hx1 r5
    clear r5
    refine tailL0 (L := [61]) (R := (fun _ τ => OwnP τ 61 x1 [(Ty.int (g1)), (Ty.int (g2)), (Ty.val (Value.string (g3))), (Ty.lst Ty.str (g4))])) rfl rfl (YldM.toL (m_storeagg Tryd.inf42 dE o11 q62 rfl (kq hs5 sm5 32 (kq hs4 sm4 32 q49)) (by intro U hU; simp only [List.mem_cons, List.not_mem_nil, or_false] at hU; rcases hU with rfl | rfl | rfl | rfl <;> first | exact one_val rfl | exact one_sl | exact one_flt | exact one_cx | exact one_ref))) (fun v1 s14 hs6 r6 => ?_)
    have q63 := kpL hs6 dE rfl (kq hs5 sm5 4 (kq hs4 sm4 4 (kq hs3 sm3 4 (kq hs2 sm2 4 (kq hs1 sm1 4 (D8.k q20)))))); have q64 := kpL hs6 dE rfl (kq hs5 sm5 5 (kq hs4 sm4 5 (kq hs3 sm3 5 (kq hs2 sm2 5 (kq hs1 sm1 5 (D8.k q21)))))); have q65 := kpL hs6 dE rfl (kq hs5 sm5 6 (kq hs4 sm4 6 (kq hs3 sm3 6 (kq hs2 sm2 6 (kq hs1 sm1 6 (D8.k q22)))))); have q66 := kpL hs6 dE rfl (kq hs5 sm5 0 (kq hs4 sm4 0 (kq hs3 sm3 0 (kq hs2 sm2 0 (kq hs1 sm1 0 (D8.k q23)))))); have q67 := kpL hs6 dE rfl (kq hs5 sm5 33 q55); have q68 := kpL hs6 dE rfl q62
    have o13 : OwnP s14 61 x1 [(Ty.int (g1)), (Ty.int (g2)), (Ty.val (Value.string (g3))), (Ty.lst Ty.str (g4))] := r6
    clear r6
    refine tL ok14 (Yld.toL (y_as q67)) fun a16 s15 hs7 ok15 r7 sm6 => ?_
    have q75 : At (Ty.bool (Option.isSome (readR (ByteArray.data ((bsL (List.take (i - a) (List.drop a l))))).toList))) s15 a16 (.tmp 8) := r7
    clear r7; refine wpList_nil ?_
    have q76 : At (Ty.bool (Option.isSome (readR (List.take (i - a) (List.drop a l))))) s15 a16 (.tmp 8) := (cvb (by (rw [data_bsL])) q75)
    refine tn (wp_seq (wp_seq ?_))
    refine gI a16 s15 ok15 (gM q76 (gS rfl (fun A B G H I d0 => rP (y_not (eI d0))) (gE ok15 fun a17 s16 ok16 D9 => ?_))); have F17 := ((((((((F7.step0 D8.stp).sl hs1).sl hs2).sl hs3).sl hs4).sl hs5).sl hs6).sl hs7).step0 D9.stp; have q77 := D9.k (kq hs7 sm6 4 q63); have o17 := Own.k0 (Own.kl (Own.kl (Own.kl (Own.kl (Own.kl (Own.kl (Own.kl o6 hs1) hs2) hs3) hs4) hs5) hs6) hs7) D9.stp; have o18 := OwnP.k0 (OwnP.kl o13 hs7) D9.stp; refine tn ?_
    refine cond_t (D9.m 1 rfl) (fun c3 => ?_) (fun c3 => ?_)
    ·
     have hfin := obk_bad hn oM ha heq (by simpa using c3) hq
     refine wp_seq ?_
     refine gI a17 s16 ok16 (gM q77 (gM (D9.k (kq hs7 sm6 5 q64)) (gB 0 (gB 0 (gE ok16 fun a18 s17 ok17 D10 => ?_))))); have o19 := Own.k0 o17 D10.stp; have o20 := OwnP.k0 o18 D10.stp
     have q83 : At (Ty.val x4_0) s17 a18 (.tmp 2) := D10.done 2
     refine tn (wp_ret (tr (br (tr (tr (br (tr ?_)))))))
     obtain ⟨t4, e1, h1, q85⟩ := Own.seal o19 dE
     rw [← e1]
     have F19 := (F17.step0 D10.stp).step h1 dE
     have q86 : At (Ty.lstc 4 recC xs) t4 a18 (.tmp 2) := by have e : a18.eval (.tmp 2) = x4_0 := q83; show Ty.has _ _ _; rw [e]; exact q85
     have q87 := Ty.up (Ty.nat a) (h1.le dE) (D10.m 3 rfl)
     exact retL2 rfl ok17 F19 (hasT2 (cvt (by (rw [hfin.1])) q86) (cvi (by (rw [hfin.2])) q87))
    ·
     obtain ⟨r, hr⟩ : ∃ r, readR (List.take (i - a) (List.drop a l)) = some r := Option.isSome_iff_exists.1 (by simpa using c3); have hrq := hp1 r (by rw [data_bsL]; exact hr); subst hrq
     refine wp_skip (tn (wp_seq ?_))
     refine gI a17 s16 ok16 (gM q77 (gT (Ty.agg [(Ty.int (g1)), (Ty.int (g2)), (Ty.val (Value.string (g3))), (Ty.lst Ty.str (g4))]) rfl (fun A B G H I => rP (ownp_loadagg Tryd.underlying42 Tryd.inf42 (OwnP.k0 o18 G) (kp (I 7 rfl) G (D9.k (kq hs7 sm6 7 q68))))) (gT (Ty.lstc 4 recC [((g1), (g2), (g3), (g4))]) rfl (fun A B G H I d0 => rP (y_build1c (c := 4) Tryd.underlying26 Tryd.inf42 rfl dE dE rfl (eI d0))) (gE2 ok16 fun a19 s18 ok18 D11 => ?_)))); have o21 := Own.k0 o17 D11.stp; have o22 := OwnP.k0 o18 D11.stp
     have q91 : At (Ty.val x4_0) s18 a19 (.tmp 38) := D11.done 0 dE
     have q92 := D11.m 2 rfl
     have b2 := sl_le q92
     refine tL ok18 (YldM.toL (m_append Tryd.underlying26 Tryd.inf42 dE rfl dE (al (R := (Pr.own 40 42 4 (List.length xs) (List.flatMap recC xs))) q91 o21) q92 (one_flat recOne) (by (try simp only [List.length_singleton]); omega) (by (try simp only [List.length_singleton]); omega))) fun a20 s19 hs8 ok19 r8 sm7 => ?_
     have q93 := kq hs8 sm7 4 (D11.k q77)
     obtain ⟨x2, hx2⟩ : ∃ x, a20.eval (.tmp 41) = x := ⟨_, rfl⟩
     have q96 : At (Ty.val x2) s19 a20 (.tmp 41) := hx2
     have o23 := al2 (R := (Pr.own 40 42 4 (List.length (xs ++ [((g1), (g2), (g3), (g4))])) (List.flatMap recC (xs ++ [((g1), (g2), (g3), (g4))])))) hx2 (cvo (by simp) (by first | (rw [List.map_append]; rfl) | simp) r8)
     clear r8
     refine tL ok19 (Yld.toL (y_as q96)) fun a21 s20 hs9 ok20 r9 sm8 => ?_
     have q97 := kq hs9 sm8 6 (kq hs8 sm7 6 (D11.k (D9.k (kq hs7 sm6 6 q65)))); have o25 := OwnP.kl (OwnP.kl o22 hs8) hs9
     have q99 : At (Ty.val x2) s20 a21 (.tmp 4) := r9
     clear r9; refine wpList_nil (tn ?_)
     refine gI a21 s20 ok20 (gM q97 (gT (Ty.nat (i + 1)) rfl (fun A B G H I d0 => rP ((y_add (eI d0) rfl wX).mono (fun τ _ h => cN (σ := τ) h))) (gB 0 (gE ok20 fun a22 s21 ok21 D12 => ?_)))); have o27 := Own.k0 (Own.kl o23 hs9) D12.stp; refine bn (tn ?_)
     refine gI a22 s21 ok21 (gM (D12.k q97) (gT (Ty.nat (i + 1)) rfl (fun A B G H I d0 => rP ((y_add (eI d0) rfl wX).mono (fun τ _ h => cN (σ := τ) h))) (gB 0 (gE ok21 fun a23 s22 ok22 D13 => ?_)))); have o28 := Own.k0 o27 D13.stp
     exact tn ⟨l.length - ((i + 1)), by omega, s22, (xs ++ [(g1, g2, g3, g4)]), (i + 1), (i + 1), x2, rfl, (((((F17.step0 D11.stp).sl hs8).sl hs9).step0 D12.stp).step0 D13.stp), ok22, (D13.k (D12.k q99)), (cJ (D13.k (D12.m 2 rfl))), (cJ (D13.m 2 rfl)), (D13.k (D12.k (kq hs9 sm8 0 (kq hs8 sm7 0 (D11.k (D9.k (kq hs7 sm6 0 q66))))))), (cvo (by (simp)) (by (simp)) o28), obk_next oM hn oM ha heq hr hq, by omega, by omega, by rw [List.length_append, List.length_singleton]; omega, noNl_nil, rfl⟩
  ·
   have hfin := obk_end (i := i) (by simp only [Bool.and_eq_false_iff, decide_eq_false_iff_not] at c1; omega) hx hn hq
   refine wp_exit (tx (tx (bx (tn (wp_seq ?_)))))
   refine gI a7 s5 ok6 (gM q15 (gM q16 (gB 0 (gB 0 (gE ok6 fun a24 s23 ok23 D14 => ?_))))); have o29 := Own.k0 o3 D14.stp
   have q108 : At (Ty.val x4_0) s23 a24 (.tmp 2) := D14.done 2
   refine tn (wp_ret ?_)
   obtain ⟨t5, e2, h2, q110⟩ := Own.seal o29 dE
   rw [← e2]
   have F26 := (F6.step0 D14.stp).step h2 dE
   have q111 : At (Ty.lstc 4 recC xs) t5 a24 (.tmp 2) := by have e : a24.eval (.tmp 2) = x4_0 := q108; show Ty.has _ _ _; rw [e]; exact q110
   have q112 := Ty.up (Ty.nat a) (h2.le dE) (D14.m 3 rfl)
   exact retL2 rfl ok23 F26 (hasT2 (cvt (by (rw [hfin.1])) q111) (cvi (by (rw [hfin.2])) q112))


set_option maxHeartbeats 4000000 in
set_option maxRecDepth 100000 in
theorem cloneS_fn (xs : List ByteArray) (σ : GW)  (v0 : Value) (hv0 : Ty.has (Ty.lst Ty.str xs) σ v0)  (hx1 : 1 ≤ xs.length) (hx2 : xs.length ≤ 1000000) :
    FnC Tryd.prog 24 #[v0] σ (Ty.lst Ty.str xs) := by
 refine fn_intro0 Tryd.func24 rfl Tryd.ntmps24 (Nat.le_of_ble_eq_true rfl) (fun s0 a0 hle F0 ok0 hargs => ?_)
 have p0 := pA hle (hargs 0 _ rfl) hv0
 have b1 := sl_le p0
 clear hargs; refine wp_seq ?_
 refine gI a0 s0 ok0 (gC (Ty.val (Value.slice none 0 0)) (gE ok0 fun a1 s1 ok1 D1 => ?_)); have q1 := D1.k p0; refine tn (wp_seq (wp_seq ?_))
 refine gI a1 s1 ok1 (gM q1 (gT (Ty.bool false) rfl (fun A B G H I d0 => rP (y_slnil Tryd.underlying40 (eI d0) (by intro e_; have e2_ := congrArg List.length e_; simp only [List.length_map, List.length_nil] at e2_; omega) rfl)) (gE ok1 fun a2 s2 ok2 D2 => ?_))); refine tn ?_
 refine cond_t (D2.m 1 rfl) (fun c1 => (by cases c1)) (fun _ => ?_)
 refine wp_skip (tn (wp_seq ?_))
 refine gI a2 s2 ok2 (gR (Pr.own 61 9 1 0 (List.map Ty.str ([] : List ByteArray))) rfl (by intro A B G H I; exact rP ((y_lit0 (k := 61) Tryd.underlying40 Tryd.inf9).mono (fun _ _ h => cvo (by simp) (by simp) h))) (gM (D2.k q1) (gE2 ok2 fun a3 s3 ok3 D3 => ?_)))
 obtain ⟨x1, hx1⟩ : ∃ x, a3.eval (.tmp 5) = x := ⟨_, rfl⟩
 have q4 : At (Ty.val x1) s3 a3 (.tmp 5) := hx1
 have o1 := al2 (R := (Pr.own 61 9 1 0 (List.map Ty.str ([] : List ByteArray)))) hx1 (D3.done 0 dE)
 refine tL ok3 (YldM.toL (m_append Tryd.underlying40 Tryd.inf9 dE rfl dE (al (R := (Pr.own 61 9 1 0 (List.map Ty.str ([] : List ByteArray)))) q4 o1) (D3.m 1 rfl) (one_map (fun _ => one_val rfl)) oM oM)) fun a4 s4 hs1 ok4 r1 sm1 => ?_
 obtain ⟨x2, hx2⟩ : ∃ x, a4.eval (.tmp 7) = x := ⟨_, rfl⟩
 have q6 : At (Ty.val x2) s4 a4 (.tmp 7) := hx2
 have o2 := al2 (R := (Pr.own 61 9 1 (List.length xs) (List.map Ty.str xs))) hx2 (cvo (by first | (simp; done) | (simp; omega)) (by first | (rw [List.map_append]; rfl) | simp) r1)
 clear r1
 refine tL ok4 (Yld.toL (y_as q6)) fun a5 s5 hs2 ok5 r2 sm2 => ?_
 have q7 : At (Ty.val x2) s5 a5 (.tmp 2) := r2
 clear r2; refine wpList_nil (tn (wp_ret ?_))
 obtain ⟨t1, e1, h1, q8⟩ := Own.seal (Own.kl o2 hs2) dE
 rw [← e1]
 have F6 := (((((F0.step0 D1.stp).step0 D2.stp).step0 D3.stp).sl hs1).sl hs2).step h1 dE
 have q9 : At (Ty.lst Ty.str xs) t1 a5 (.tmp 2) := by have e : a5.eval (.tmp 2) = x2 := q7; show Ty.has _ _ _; rw [e]; exact q8
 exact retL1 rfl ok5 F6 q9


set_option maxHeartbeats 4000000 in
set_option maxRecDepth 100000 in
theorem bRecsR_fn (xs : List Rec) (σ : GW) (hlow : Low [] σ) (v0 : Value) (hv0 : Ty.has (Ty.ref [(Ty.lst (Ty.ent 66) xs)]) σ v0)  (hok : ∀ r ∈ xs, mayR r = 0) (hxl : xs.length ≤ 1000000) :
    FnL Tryd.prog 18 #[v0] σ [] (fun v τ => ∃ (z : Value), (Ty.has (Ty.val z) τ v) ∧ (Own τ 42 42 4 z (List.length xs) (List.flatMap recC xs))) := by
 refine fn_introL hlow Tryd.func18 rfl Tryd.ntmps18 (Nat.le_of_ble_eq_true rfl) (fun a0 F0 ok0 hargs => ?_)
 have p0 := pB (hargs 0 _ rfl) hv0
 clear hargs; refine wp_seq ?_
 refine gI a0 σ ok0 (gC (Ty.val (Value.slice none 0 0)) (gE ok0 fun a1 s1 ok1 D1 => ?_)); refine tn (wp_seq ?_)
 refine gI a1 s1 ok1 (gC (Ty.val (Value.slice none 0 0)) (gE ok1 fun a2 s2 ok2 D2 => ?_)); refine tn (wp_seq (wp_seq ?_))
 refine gI a2 s2 ok2 (gM (D2.k (D1.k p0)) (gS rfl (fun A B G H I d0 => rP (y_nilr (eI d0))) (gS rfl (fun A B G H I d0 => rP (y_field Tryd.fld37_0 Tryd.inf35 dE (eI d0) rfl)) (gS rfl (fun A B G H I d0 => rP (y_load Tryd.underlying35 rfl (eI d0) rfl)) (gS rfl (fun A B G H I d0 => rP (y_len Tryd.underlying35 (eI d0))) (gT (Ty.int (0 : Int)) rfl (fun A B G H I => rP (y_move rfl)) (gE ok2 fun a3 s3 ok3 D3 => ?_))))))); have q5 := D3.m 3 rfl
 have b1 := sl_le q5
 refine tn (wp_block ?_)
 have o1 : Own s3 42 42 4 (Value.slice none 0 0) 0 (List.flatMap recC ([] : List Rec)) := Own.nil _ _ _ _
 refine loop (fun n1 a4 w1 => ∃ (t1 : GW) (k : Nat) (x3_0 : Value), t1.w = w1 ∧ FromL [] σ t1 ∧ Ok 36 [] a4 ∧ At (Ty.nat k) t1 a4 (.tmp 14) ∧ At (Ty.val x3_0) t1 a4 (.tmp 3) ∧ At (Ty.lst (Ty.ent 66) xs) t1 a4 (.tmp 12) ∧ At (Ty.nat (List.length xs)) t1 a4 (.tmp 13) ∧ Own t1 42 42 4 x3_0 (List.length (xs.take k)) (List.flatMap recC (xs.take k)) ∧ (k ≤ xs.length) ∧ n1 = xs.length - k) (xs.length - (0)) ?_ ?_
 ·
  exact ⟨s3, 0, (Value.slice none 0 0), rfl, (((F0.step0 D1.stp).step0 D2.stp).step0 D3.stp), ok3, (cJ (D3.m 5 rfl)), (D3.k (D2.m 0 rfl)), q5, (D3.m 4 rfl), (cvo (by (first | rfl | simp)) (by (first | rfl | simp)) o1), by omega, rfl⟩
 ·
  rintro n2 a5 w2 ⟨t2, k, x3_0, rfl, F4, ok4, q8, q9, q10, q11, o2, hk, rfl⟩
  refine wp_seq ?_
  refine gI a5 t2 ok4 (gS rfl (fun A B G H I => rP (y_lss (kp (I 14 rfl) G q8) (kp (I 13 rfl) G q11))) (gE ok4 fun a6 s4 ok5 D4 => ?_)); have F5 := F4.step0 D4.stp; have q12 := D4.k q8; have q13 := D4.k q9; have q14 := D4.k q10; have o3 := Own.k0 o2 D4.stp; refine tn (wp_seq ?_)
  refine cond_p (p := (((k : Nat) : Int) < (((List.length xs) : Nat) : Int))) (D4.m 0 rfl) (fun c1 => ?_) (fun c1 => ?_)
  ·
   have hro_ := mayR_ok (hok _ (getD_memR (xs := xs) (k := k) oM)); have hr1_ := hro_.n1; have hr2_ := hro_.n2
   refine wp_skip (tn (wp_seq (wp_block (wp_seq ?_))))
   refine gI a6 s4 ok5 (gT (Ty.ref [(Ty.ent 66 (xs.getD k Rec0))]) rfl (fun A B G H I => rP (y_index1 Tryd.underlying35 Tryd.inf49 (kp (I 12 rfl) G q14) (kp (I 14 rfl) G q12) oM (lst_get (Ty.ent 66) xs Rec0 k oM))) (gS rfl (fun A B G H I d0 => rP (y_load Tryd.underlying49 rfl (eI d0) rfl)) (gB 0 (gE ok5 fun a7 s5 ok6 D5 => ?_)))); have o4 := Own.k0 o3 D5.stp; refine tn (wp_seq ?_)
   refine gI a7 s5 ok6 (gM (D5.m 2 rfl) (gT (Ty.tup2 (Ty.agg [(Ty.int ((xs.getD k Rec0)).1), (Ty.int ((xs.getD k Rec0)).2.1), (Ty.val (Value.string ((xs.getD k Rec0)).2.2.1)), (Ty.lst Ty.str ((xs.getD k Rec0)).2.2.2)]) (Ty.bool true)) rfl (fun A B G H I d0 => rP (y_asent (r := (xs.getD k Rec0)) Tryd.underlying66 (eI d0))) (gS rfl (fun A B G H I d0 => rP (y_move (eI d0))) (gT (Ty.agg [(Ty.int ((xs.getD k Rec0)).1), (Ty.int ((xs.getD k Rec0)).2.1), (Ty.val (Value.string ((xs.getD k Rec0)).2.2.1)), (Ty.lst Ty.str ((xs.getD k Rec0)).2.2.2)]) rfl (fun A B G H I d0 => rP (y_ext2_0 (eI d0))) (gT (Ty.bool true) rfl (fun A B G H I d0 d1 => rP (y_ext2_1 (eI d0))) (gR (Pr.ownp 61 [(Ty.int (0 : Int)), (Ty.int (0 : Int)), (Ty.val (Value.string ByteArray.empty)), (Ty.val (Value.slice none 0 0))]) rfl (by intro A B G H I; exact rP (y_alloc Tryd.inf66 rfl (alloc_vals (vs := [.int .i64 0, .int .i64 0, .string ByteArray.empty, .slice none 0 0]) rfl))) (gE2 ok6 fun a8 s6 ok7 D6 => ?_))))))); have o5 := Own.k0 o4 D6.stp
   obtain ⟨x1, hx1⟩ : ∃ x, a8.eval (.tmp 6) = x := ⟨_, rfl⟩
   have q28 : At (Ty.val x1) s6 a8 (.tmp 6) := hx1
   have o6 := al2 (R := (Pr.ownp 61 [(Ty.int (0 : Int)), (Ty.int (0 : Int)), (Ty.val (Value.string ByteArray.empty)), (Ty.val (Value.slice none 0 0))])) hx1 (D6.done 5 dE)
   refine tailL0 (L := [61]) (R := (fun _ τ => OwnP τ 61 x1 [(Ty.int ((xs.getD k Rec0)).1), (Ty.int ((xs.getD k Rec0)).2.1), (Ty.val (Value.string ((xs.getD k Rec0)).2.2.1)), (Ty.lst Ty.str ((xs.getD k Rec0)).2.2.2)])) rfl rfl (YldM.toL (m_storeagg Tryd.inf66 dE o6 q28 rfl (D6.m 3 rfl) (by intro U hU; simp only [List.mem_cons, List.not_mem_nil, or_false] at hU; rcases hU with rfl | rfl | rfl | rfl <;> first | exact one_val rfl | exact one_sl | exact one_flt | exact one_cx | exact one_ref))) (fun v1 s7 hs1 r1 => ?_)
   have q29 := kpL hs1 dE rfl (D6.k (D5.k q12)); have q30 := kpL hs1 dE rfl (D6.k (D5.k q13)); have q31 := kpL hs1 dE rfl (D6.k (D5.k q14)); have q32 := kpL hs1 dE rfl (D6.k (D5.k (D4.k q11))); have q33 := kpL hs1 dE rfl (D6.m 4 rfl); have q34 := kpL hs1 dE rfl q28
   have o7 : OwnP s7 61 x1 [(Ty.int ((xs.getD k Rec0)).1), (Ty.int ((xs.getD k Rec0)).2.1), (Ty.val (Value.string ((xs.getD k Rec0)).2.2.1)), (Ty.lst Ty.str ((xs.getD k Rec0)).2.2.2)] := r1
   clear r1
   refine tL ok7 (Yld.toL (y_as q33)) fun a9 s8 hs2 ok8 r2 sm1 => ?_
   have q41 : At (Ty.bool true) s8 a9 (.tmp 7) := r2
   clear r2; refine wpList_nil (tn (wp_seq ?_))
   refine gI a9 s8 ok8 (gM q41 (gE ok8 fun a10 s9 ok9 D7 => ?_)); have o11 := Own.k0 (Own.kl (Own.kl o5 hs1) hs2) D7.stp; have o12 := OwnP.k0 (OwnP.kl o7 hs2) D7.stp; refine tn ?_
   refine cond_t (D7.m 0 rfl) (fun _ => ?_) (fun c2 => (by cases c2))
   refine wp_seq ?_
   refine gI a10 s9 ok9 (gT (Ty.val (ptrAt x1 0)) rfl (fun A B G H I => rP (ownp_field Tryd.fld66_0 Tryd.inf42 dE (OwnP.k0 o12 G) (kp (I 6 rfl) G (D7.k (kq hs2 sm1 6 q34))))) (gT (Ty.agg [(Ty.int ((xs.getD k Rec0)).1), (Ty.int ((xs.getD k Rec0)).2.1), (Ty.val (Value.string ((xs.getD k Rec0)).2.2.1)), (Ty.lst Ty.str ((xs.getD k Rec0)).2.2.2)]) rfl (fun A B G H I d0 => rP (ownp_loadsub (o := 0) (n := 4) Tryd.underlying42 Tryd.inf42 (Nat.le_of_ble_eq_true rfl) (OwnP.k0 o12 G) (eI d0))) (gR (Pr.ownp 62 [(Ty.int (0 : Int)), (Ty.int (0 : Int)), (Ty.val (Value.string ByteArray.empty)), (Ty.val (Value.slice none 0 0))]) rfl (by intro A B G H I; exact rP (y_alloc Tryd.inf42 rfl (alloc_vals (vs := [.int .i64 0, .int .i64 0, .string ByteArray.empty, .slice none 0 0]) rfl))) (gE2 ok9 fun a11 s10 ok10 D8 => ?_)))); have o13 := Own.k0 o11 D8.stp; have o14 := OwnP.k0 o12 D8.stp
   obtain ⟨x2, hx2⟩ : ∃ x, a11.eval (.tmp 8) = x := ⟨_, rfl⟩
   have q53 : At (Ty.val x2) s10 a11 (.tmp 8) := hx2
   have o15 := al2 (R := (Pr.ownp 62 [(Ty.int (0 : Int)), (Ty.int (0 : Int)), (Ty.val (Value.string ByteArray.empty)), (Ty.val (Value.slice none 0 0))])) hx2 (D8.done 2 dE)
   refine tailL0 (L := [62]) (R := (fun _ τ => OwnP τ 62 x2 [(Ty.int ((xs.getD k Rec0)).1), (Ty.int ((xs.getD k Rec0)).2.1), (Ty.val (Value.string ((xs.getD k Rec0)).2.2.1)), (Ty.lst Ty.str ((xs.getD k Rec0)).2.2.2)])) rfl rfl (YldM.toL (m_storeagg Tryd.inf42 dE o15 q53 rfl (D8.m 1 rfl) (by intro U hU; simp only [List.mem_cons, List.not_mem_nil, or_false] at hU; rcases hU with rfl | rfl | rfl | rfl <;> first | exact one_val rfl | exact one_sl | exact one_flt | exact one_cx | exact one_ref))) (fun v2 s11 hs3 r3 => ?_)
   have q54 := kpL hs3 dE rfl (D8.k (D7.k (kq hs2 sm1 14 q29))); have q55 := kpL hs3 dE rfl (D8.k (D7.k (kq hs2 sm1 3 q30))); have q56 := kpL hs3 dE rfl (D8.k (D7.k (kq hs2 sm1 12 q31))); have q57 := kpL hs3 dE rfl (D8.k (D7.k (kq hs2 sm1 13 q32))); have q58 := kpL hs3 dE rfl q53; have o18 := OwnP.kl o14 hs3
   have o16 : OwnP s11 62 x2 [(Ty.int ((xs.getD k Rec0)).1), (Ty.int ((xs.getD k Rec0)).2.1), (Ty.val (Value.string ((xs.getD k Rec0)).2.2.1)), (Ty.lst Ty.str ((xs.getD k Rec0)).2.2.2)] := r3
   clear r3; refine wpList_nil (tn (wp_seq ?_))
   refine gI a11 s11 ok10 (gT (Ty.val (ptrAt x2 3)) rfl (fun A B G H I => rP (ownp_field Tryd.fld42_3 Tryd.inf40 dE (OwnP.k0 o16 G) (kp (I 8 rfl) G q58))) (gS rfl (fun A B G H I d0 => rP (ownp_load Tryd.underlying40 rfl (OwnP.k0 o16 G) (eI d0) rfl)) (gS rfl (fun A B G H I d0 => rP (y_call _ Tryd.func24 rfl rfl my1 (cloneS_fn (((xs.getD k Rec0)).2.2.2) _ _ (eI d0) oX oX))) (gT (Ty.val (ptrAt x2 3)) rfl (fun A B G H I d0 d1 d2 => rP (ownp_field Tryd.fld42_3 Tryd.inf40 dE (OwnP.k0 o16 G) (kp (I 8 rfl) G q58))) (gE2 ok10 fun a12 s12 ok11 D9 => ?_))))); have o19 := Own.k0 (Own.kl o13 hs3) D9.stp; have o20 := OwnP.k0 o16 D9.stp; have q65 := D9.m 2 rfl
   have b2 := sl_le q65
   refine tailL0 (L := [62]) (R := (fun _ τ => OwnP τ 62 x2 ([(Ty.int ((xs.getD k Rec0)).1), (Ty.int ((xs.getD k Rec0)).2.1), (Ty.val (Value.string ((xs.getD k Rec0)).2.2.1)), (Ty.lst Ty.str ((xs.getD k Rec0)).2.2.2)].set 3 (Ty.lst Ty.str (((xs.getD k Rec0)).2.2.2))))) rfl rfl (YldM.toL (m_storep Tryd.inf40 dE o20 (D9.m 3 rfl) (Nat.le_of_ble_eq_true rfl) q65 (one_sl))) (fun v3 s13 hs4 r4 => ?_)
   have q67 := kpL hs4 dE rfl (D9.k q54); have q68 := kpL hs4 dE rfl (D9.k q55); have q69 := kpL hs4 dE rfl (D9.k q56); have q70 := kpL hs4 dE rfl (D9.k q57); have q71 := kpL hs4 dE rfl (D9.k q58)
   have o21 : OwnP s13 62 x2 [(Ty.int ((xs.getD k Rec0)).1), (Ty.int ((xs.getD k Rec0)).2.1), (Ty.val (Value.string ((xs.getD k Rec0)).2.2.1)), (Ty.lst Ty.str (((xs.getD k Rec0)).2.2.2))] := r4
   clear r4; refine wpList_nil (tn ?_)
   refine gI a12 s13 ok11 (gM q68 (gT (Ty.agg [(Ty.int ((xs.getD k Rec0)).1), (Ty.int ((xs.getD k Rec0)).2.1), (Ty.val (Value.string ((xs.getD k Rec0)).2.2.1)), (Ty.lst Ty.str (((xs.getD k Rec0)).2.2.2))]) rfl (fun A B G H I => rP (ownp_loadagg Tryd.underlying42 Tryd.inf42 (OwnP.k0 o21 G) (kp (I 8 rfl) G q71))) (gT (Ty.lstc 4 recC [(((xs.getD k Rec0)).1, ((xs.getD k Rec0)).2.1, ((xs.getD k Rec0)).2.2.1, (((xs.getD k Rec0)).2.2.2))]) rfl (fun A B G H I d0 => rP (y_build1c (c := 4) Tryd.underlying26 Tryd.inf42 rfl dE dE rfl (eI d0))) (gE2 ok11 fun a13 s14 ok12 D10 => ?_)))); have o23 := Own.k0 (Own.kl o19 hs4) D10.stp; have o24 := OwnP.k0 o21 D10.stp
   have q77 : At (Ty.val x3_0) s14 a13 (.tmp 30) := D10.done 0 dE
   have q78 := D10.m 2 rfl
   have b3 := sl_le q78
   refine tL ok12 (YldM.toL (m_append Tryd.underlying26 Tryd.inf42 dE rfl dE (al (R := (Pr.own 42 42 4 (List.length (xs.take k)) (List.flatMap recC (xs.take k)))) q77 o23) q78 (one_flat recOne) (by (try simp only [List.length_take, List.length_singleton]); omega) (by (try simp only [List.length_take, List.length_singleton]); omega))) fun a14 s15 hs5 ok13 r5 sm2 => ?_
   have q80 := kq hs5 sm2 3 (D10.k q68)
   obtain ⟨x3, hx3⟩ : ∃ x, a14.eval (.tmp 33) = x := ⟨_, rfl⟩
   have q83 : At (Ty.val x3) s15 a14 (.tmp 33) := hx3
   have o25 := al2 (R := (Pr.own 42 42 4 (List.length ((xs.take k) ++ [(((xs.getD k Rec0)).1, ((xs.getD k Rec0)).2.1, ((xs.getD k Rec0)).2.2.1, (((xs.getD k Rec0)).2.2.2))])) (List.flatMap recC ((xs.take k) ++ [(((xs.getD k Rec0)).1, ((xs.getD k Rec0)).2.1, ((xs.getD k Rec0)).2.2.1, (((xs.getD k Rec0)).2.2.2))])))) hx3 (cvo (by simp) (by first | (rw [List.map_append]; rfl) | simp) r5)
   clear r5
   refine tL ok13 (Yld.toL (y_as q83)) fun a15 s16 hs6 ok14 r6 sm3 => ?_
   have o27 := OwnP.kl (OwnP.kl o24 hs5) hs6
   have q87 : At (Ty.val x3) s16 a15 (.tmp 3) := r6
   clear r6; refine wpList_nil (bn (tn ?_))
   refine gI a15 s16 ok14 (gT (Ty.nat (k + 1)) rfl (fun A B G H I => rP ((y_add (kp (I 14 rfl) G (kq hs6 sm3 14 (kq hs5 sm2 14 (D10.k q67)))) rfl wX).mono (fun τ _ h => cN (σ := τ) h))) (gS rfl (fun A B G H I d0 => rP (y_move (eI d0))) (gE ok14 fun a16 s17 ok15 D11 => ?_))); have o29 := Own.k0 (Own.kl o25 hs6) D11.stp
   exact tn ⟨xs.length - ((k+1)), by omega, s17, (k+1), x3, rfl, (((((((((((((F5.step0 D5.stp).step0 D6.stp).sl hs1).sl hs2).step0 D7.stp).step0 D8.stp).sl hs3).step0 D9.stp).sl hs4).step0 D10.stp).sl hs5).sl hs6).step0 D11.stp), ok15, (cJ (D11.m 1 rfl)), (D11.k q87), (D11.k (kq hs6 sm3 12 (kq hs5 sm2 12 (D10.k q69)))), (D11.k (kq hs6 sm3 13 (kq hs5 sm2 13 (D10.k q70)))), (cvo (by (rw [← recs_take oM])) (by (rw [← recs_take oM])) o29), by omega, rfl⟩
  ·
   have hkx : k = xs.length := oM
   refine wp_exit (tx (tx (bx (tn (wp_seq ?_)))))
   refine gI a6 s4 ok5 (gM q13 (gB 0 (gE ok5 fun a17 s18 ok16 D12 => ?_))); have o30 := Own.k0 o3 D12.stp
   have q92 : At (Ty.val x3_0) s18 a17 (.tmp 2) := D12.done 1
   refine tn (wp_ret ?_)
   exact retL1 rfl ok16 (F5.step0 D12.stp) ⟨x3_0, q92, (cvo (by (rw [hkx, List.take_length])) (by (rw [hkx, List.take_length])) o30)⟩


set_option maxHeartbeats 4000000 in
set_option maxRecDepth 100000 in
theorem cmp_fn (da_ : Int) (c1_ : Int) (db_ : Int) (c2_ : Int) (m1 : ByteArray) (m2 : ByteArray) (l1 : List ByteArray) (l2 : List ByteArray) (σ : GW)  (v0 v1 : Value) (hv0 : Ty.has (Ty.agg [(Ty.int da_), (Ty.int c1_), (Ty.val (Value.string m1)), (Ty.lst Ty.str l1)]) σ v0) (hv1 : Ty.has (Ty.agg [(Ty.int db_), (Ty.int c2_), (Ty.val (Value.string m2)), (Ty.lst Ty.str l2)]) σ v1)  (hb1 : 0 ≤ da_ ∧ da_ ≤ 1000000) (hb2 : 0 ≤ db_ ∧ db_ ≤ 1000000) :
    FnC Tryd.prog 20 #[v0, v1] σ (Ty.int (da_ - db_)) := by
 refine fn_intro0 Tryd.func20 rfl Tryd.ntmps20 (Nat.le_of_ble_eq_true rfl) (fun s0 a0 hle F0 ok0 hargs => ?_)
 have p0 := pA hle (hargs 0 _ rfl) hv0
 have p1 := pA hle (hargs 1 _ rfl) hv1
 clear hargs; refine wp_seq ?_
 refine gI a0 s0 ok0 (gS rfl (fun A B G H I => rP (y_boxagg (kp (I 0 rfl) G p0))) (gS rfl (fun A B G H I => rP (y_boxagg (kp (I 1 rfl) G p1))) (gC (Ty.int (0 : Int)) (gE ok0 fun a1 s1 ok1 D1 => ?_)))); refine tn (wp_seq ?_)
 refine gI a1 s1 ok1 (gS rfl (fun A B G H I => rP (y_field Tryd.fld42_0 Tryd.inf3 dE (kp (I 2 rfl) G (D1.m 0 rfl)) rfl)) (gS rfl (fun A B G H I d0 => rP (y_load Tryd.underlying3 rfl (eI d0) rfl)) (gS rfl (fun A B G H I => rP (y_field Tryd.fld42_0 Tryd.inf3 dE (kp (I 3 rfl) G (D1.m 1 rfl)) rfl)) (gS rfl (fun A B G H I d0 => rP (y_load Tryd.underlying3 rfl (eI d0) rfl)) (gT (Ty.int (da_ - db_)) rfl (fun A B G H I d0 d1 => rP (y_sub (eI d0) (eI d1) wX)) (gB 0 (gE ok1 fun a2 s2 ok2 D2 => ?_))))))); refine tn (wp_ret ?_)
 exact retL1 rfl ok2 ((F0.step0 D1.stp).step0 D2.stp) (D2.m 5 rfl)


set_option maxHeartbeats 4000000 in
set_option maxRecDepth 100000 in
theorem insSort_fn (dv : Value) (D : List Rec) (a : Nat) (b : Nat) (σ : GW) (hlow : Low [40] σ) (v0 v1 v2 v3 : Value) (hv0 : Ty.has (Ty.val dv) σ v0) (hv1 : Ty.has (Ty.nat a) σ v1) (hv2 : Ty.has (Ty.nat b) σ v2) (hv3 : Ty.has (Ty.val (Value.func (Fn.func 20) #[] #[])) σ v3) (ho_dv : Own σ 40 42 4 dv (List.length D) (List.flatMap recC D)) (h1 : a ≤ b) (h3 : b ≤ D.length) (hDl : D.length ≤ 1000000) (hday : DayOk D) :
    FnL Tryd.prog 45 #[v0, v1, v2, v3] σ [40] (fun v τ => ∃ (D2 : List Rec), True ∧ (Own τ 40 42 4 dv (List.length D2) (List.flatMap recC D2)) ∧ (Sg a b D D2) ∧ (Srt D2 a b)) := by
 refine fn_introL hlow Tryd.func45 rfl Tryd.ntmps45 (Nat.le_of_ble_eq_true rfl) (fun a0 F0 ok0 hargs => ?_)
 have p0 := pB (hargs 0 _ rfl) hv0
 have p1 := pB (hargs 1 _ rfl) hv1
 have p2 := pB (hargs 2 _ rfl) hv2
 have p3 := pB (hargs 3 _ rfl) hv3
 clear hargs; refine wp_seq ?_
 refine gI a0 σ ok0 (gM p1 (gT (Ty.nat (a + 1)) rfl (fun A B G H I d0 => rP ((y_add (eI d0) rfl wX).mono (fun τ _ h => cN (σ := τ) h))) (gB 0 (gE ok0 fun a1 s1 ok1 D1 => ?_)))); have o1 := Own.k0 ho_dv D1.stp; refine tn (wp_block ?_)
 refine loop (fun n1 a2 w1 => ∃ (t1 : GW) (E : List Rec) (i : Nat), t1.w = w1 ∧ FromL [40] σ t1 ∧ Ok 53 [] a2 ∧ At (Ty.nat i) t1 a2 (.tmp 8) ∧ At (Ty.val dv) t1 a2 (.tmp 0) ∧ At (Ty.nat a) t1 a2 (.tmp 1) ∧ At (Ty.nat b) t1 a2 (.tmp 2) ∧ At (Ty.val (Value.func (Fn.func 20) #[] #[])) t1 a2 (.tmp 3) ∧ Own t1 40 42 4 dv (List.length E) (List.flatMap recC E) ∧ (Sg a b D E) ∧ (Srt E a i) ∧ (a + 1 ≤ i) ∧ (i ≤ b + 1) ∧ n1 = b + 1 - i) (b + 1 - ((a + 1))) ?_ ?_
 ·
  exact ⟨s1, D, (a + 1), rfl, (F0.step0 D1.stp), ok1, (cJ (D1.m 2 rfl)), (D1.k p0), (D1.k p1), (D1.k p2), (D1.k p3), (cvo (by (simp)) (by (simp)) o1), Sg.refl _ _ _, srt_nil oM, by omega, by omega, rfl⟩
 ·
  rintro n2 a3 w2 ⟨t2, E, i, rfl, F2, ok2, q6, q7, q8, q9, q10, o2, hsg, hsr, hi1, hi2, rfl⟩
  have hEl_ := hsg.len
  refine wp_seq (wp_seq ?_)
  refine gI a3 t2 ok2 (gM q6 (gM q9 (gS rfl (fun A B G H I d0 d1 => rP (y_lss (eI d0) (eI d1))) (gE ok2 fun a4 s2 ok3 D2 => ?_)))); have F3 := F2.step0 D2.stp; have q11 := D2.k q6; have o3 := Own.k0 o2 D2.stp; refine tn ?_
  refine cond_p (p := (((i : Nat) : Int) < ((b : Nat) : Int))) (D2.m 2 rfl) (fun c1 => ?_) (fun c1 => ?_)
  ·
   refine wp_skip (tn (wp_seq (wp_block (wp_seq ?_))))
   refine gI a4 s2 ok3 (gM q11 (gB 0 (gE ok3 fun a5 s3 ok4 D3 => ?_))); have o4 := Own.k0 o3 D3.stp; refine tn (wp_block ?_)
   refine loop (fun n3 a6 w3 => ∃ (t3 : GW) (F : List Rec) (j : Nat), t3.w = w3 ∧ FromL [40] σ t3 ∧ Ok 53 [] a6 ∧ At (Ty.nat j) t3 a6 (.tmp 9) ∧ At (Ty.nat i) t3 a6 (.tmp 8) ∧ At (Ty.val dv) t3 a6 (.tmp 0) ∧ At (Ty.nat a) t3 a6 (.tmp 1) ∧ At (Ty.nat b) t3 a6 (.tmp 2) ∧ At (Ty.val (Value.func (Fn.func 20) #[] #[])) t3 a6 (.tmp 3) ∧ Own t3 40 42 4 dv (List.length F) (List.flatMap recC F) ∧ (Sg a b D F) ∧ (InsJ F a i j) ∧ (a ≤ j) ∧ (j ≤ i) ∧ n3 = j + 1) ((i) + 1) ?_ ?_
   ·
    exact ⟨s3, E, i, rfl, (F3.step0 D3.stp), ok4, (cJ (D3.m 1 rfl)), (D3.k q11), (D3.k (D2.k q7)), (D3.k (D2.k q8)), (D3.k (D2.k q9)), (D3.k (D2.k q10)), (cvo (by (simp)) (by (simp)) o4), hsg, insJ_0 hsr, by omega, by omega, rfl⟩
   ·
    rintro n4 a7 w4 ⟨t4, F, j, rfl, F5, ok5, q23, q24, q25, q26, q27, q28, o5, hsg2, hJ, hj1, hj2, rfl⟩
    have hFl_ := hsg2.len
    have hdF := hsg2.day hday
    refine wp_seq (wp_seq ?_)
    refine gI a7 t4 ok5 (gM q23 (gM q26 (gS rfl (fun A B G H I d0 d1 => rP (y_gtr (eI d0) (eI d1))) (gS rfl (fun A B G H I d0 => rP (y_move (eI d0))) (gS rfl (fun A B G H I d0 => gu H (eI d0) fun hg => y_move (kp (I 3 rfl) G q28)) (gS rfl (fun A B G H I d0 => gu H (eI d0) fun hg => y_move (kp (I 0 rfl) G q25)) (gS rfl (fun A B G H I d0 => gu H (eI d0) fun hg => y_move (kp (I 9 rfl) G q23)) (gT (Ty.grd ((decide (((a : Nat) : Int) < ((j : Nat) : Int))) = true) (Ty.val (cellPtr dv (j * 4)))) rfl (fun A B G H I d0 d1 d2 => gut H (eI d2) fun hg hp => y_idxc (i := j) Tryd.underlying26 Tryd.inf42 (Own.k0 o5 G) ((ef d0 rfl).1 hg) ((ef d1 rfl).1 hg) oM) (gT (Ty.grd ((decide (((a : Nat) : Int) < ((j : Nat) : Int))) = true) (Ty.agg [(Ty.int ((F.getD j Rec0)).1), (Ty.int ((F.getD j Rec0)).2.1), (Ty.val (Value.string ((F.getD j Rec0)).2.2.1)), (Ty.lst Ty.str ((F.getD j Rec0)).2.2.2)])) rfl (fun A B G H I d0 d1 => gut H (eI d1) fun hg hp => yld_agg (recs_drop (xs := F) (i := j) oM) (own_loadst Tryd.underlying42 Tryd.inf42 (by rw [recs_len]; omega) dE (Own.k0 o5 G) ((ef d0 rfl).1 hg))) (gS rfl (fun A B G H I d0 => gu H (eI d0) fun hg => y_move (kp (I 0 rfl) G q25)) (gS rfl (fun A B G H I d0 => gu H (eI d0) fun hg => y_move (kp (I 9 rfl) G q23)) (gT (Ty.grd ((decide (((a : Nat) : Int) < ((j : Nat) : Int))) = true) (Ty.nat (j - 1))) rfl (fun A B G H I d0 d1 => gut H (eI d1) fun hg hp => (y_sub ((ef d0 rfl).1 hg) rfl wX).mono (fun τ _ h => cvi (σ := τ) oM h)) ?_))))))))))))
    refine gT (Ty.grd ((decide (((a : Nat) : Int) < ((j : Nat) : Int))) = true) (Ty.val (cellPtr dv ((j - 1) * 4)))) rfl (fun A B G H I d0 d1 d2 => gut H (eI d2) fun hg hp => y_idxc (i := (j - 1)) Tryd.underlying26 Tryd.inf42 (Own.k0 o5 G) ((ef d0 rfl).1 hg) ((ef d1 rfl).1 hg) oM) (gT (Ty.grd ((decide (((a : Nat) : Int) < ((j : Nat) : Int))) = true) (Ty.agg [(Ty.int ((F.getD (j - 1) Rec0)).1), (Ty.int ((F.getD (j - 1) Rec0)).2.1), (Ty.val (Value.string ((F.getD (j - 1) Rec0)).2.2.1)), (Ty.lst Ty.str ((F.getD (j - 1) Rec0)).2.2.2)])) rfl (fun A B G H I d0 d1 => gut H (eI d1) fun hg hp => yld_agg (recs_drop (xs := F) (i := (j - 1)) oM) (own_loadst Tryd.underlying42 Tryd.inf42 (by rw [recs_len]; omega) dE (Own.k0 o5 G) ((ef d0 rfl).1 hg))) (gT (Ty.grd ((decide (((a : Nat) : Int) < ((j : Nat) : Int))) = true) (Ty.int ((((F.getD j Rec0)).1) - (((F.getD (j - 1) Rec0)).1)))) rfl (fun A B G H I d0 d1 d2 d3 d4 => gut H (eI d3) fun hg hp => y_callz #[A.eval (.tmp 26), A.eval (.tmp 31)] ((ef d0 rfl).1 hg) Tryd.func20 rfl rfl (by simp only [List.map_toArray, List.map_cons, List.map_nil]) (cmp_fn (((F.getD j Rec0)).1) (((F.getD j Rec0)).2.1) (((F.getD (j - 1) Rec0)).1) (((F.getD (j - 1) Rec0)).2.1) (((F.getD j Rec0)).2.2.1) (((F.getD (j - 1) Rec0)).2.2.1) (((F.getD j Rec0)).2.2.2) (((F.getD (j - 1) Rec0)).2.2.2) _ _ _ ((ef d1 rfl).1 hg) ((ef d2 rfl).1 hg) (by first | exact hdF _ | exact hdE _ | exact hday _ | omega | assumption) (by first | exact hdF _ | exact hdE _ | exact hday _ | omega | assumption))) (gS rfl (fun A B G H I d0 d1 => gu H (eI d1) fun hg => y_lss ((ef d0 rfl).1 hg) rfl) (gS rfl (fun A B G H I d0 d1 => rP (y_pick_and (eI d0) (eI d1) rfl)) (gE ok5 fun a8 s4 ok6 D4 => ?_))))); have F6 := F5.step0 D4.stp; have q29 := D4.k q23; have q30 := D4.k q24; have q31 := D4.k q25; have q32 := D4.k q26; have q33 := D4.k q27; have q34 := D4.k q28; have o6 := Own.k0 o5 D4.stp; refine tn ?_
    refine cond_t (D4.m 16 rfl) (fun c2 => ?_) (fun c2 => ?_)
    ·
     obtain ⟨d1, d2⟩ := Bool.and_eq_true_iff.mp c2
     replace d1 := of_decide_eq_true d1
     replace d2 := of_decide_eq_true d2
     have hlt : (rD F j).1 < (rD F (j - 1)).1 := (by simp only [Bool.and_eq_true, decide_eq_true_eq] at c2; have h_ := c2.2; show (F.getD j Rec0).1 < (F.getD (j - 1) Rec0).1; omega); have hja : a < j := (by simp only [Bool.and_eq_true, decide_eq_true_eq] at c2; have h_ := c2.1; omega)
     refine wp_skip (tn (wp_seq (wp_block ?_)))
     have at1 : At0 dv (List.length F) := Own.at0 o6
     refine reg9 (a := a8) (σ := s4) rfl 16 15 [40] dE (Pr.st 40 42 4 dv (List.length F) (setL (List.flatMap recC F) (j * 4) (recC ((F.getD (j - 1) Rec0))))) (fun i_ => List.getD [(Ty.val dv), (Ty.nat j), (Ty.val dv), (Ty.nat j), (Ty.nat (j - 1)), (Ty.val dv), (Ty.nat j), (Ty.nat (j - 1)), (Ty.val (cellPtr dv ((j - 1) * 4))), (Ty.agg [(Ty.int ((F.getD (j - 1) Rec0)).1), (Ty.int ((F.getD (j - 1) Rec0)).2.1), (Ty.val (Value.string ((F.getD (j - 1) Rec0)).2.2.1)), (Ty.lst Ty.str ((F.getD (j - 1) Rec0)).2.2.2)]), (Ty.val dv), (Ty.nat j), (Ty.val (cellPtr dv (j * 4))), (Ty.agg [(Ty.int ((F.getD j Rec0)).1), (Ty.int ((F.getD j Rec0)).2.1), (Ty.val (Value.string ((F.getD j Rec0)).2.2.1)), (Ty.lst Ty.str ((F.getD j Rec0)).2.2.2)]), (Ty.val (cellPtr dv (j * 4))), Ty.any] i_ Ty.any) ok6 rfl dE rfl dE rfl rfl ⟨?_, ?_, ?_, ?_, ?_, ?_, ?_, ?_, ?_, ?_, ?_, ?_, ?_, ?_, ?_, ?_, trivial⟩ ?_
     · refine ob9e dE (by rfl) ?_
       intro A B G H I
       exact rP (y_move (kp (I 0 rfl) G q31))
     · refine ob9e dE (by rfl) ?_
       intro A B G H I
       exact rP (y_move (kp (I 9 rfl) G q29))
     · refine ob9 dE (by rfl) ?_
       intro A B G H I d0
       exact rP (y_move (kpL G dE (I 0 rfl) q31))
     · refine ob9 dE (by rfl) ?_
       intro A B G H I d0
       exact rP (y_move (kpL G dE (I 9 rfl) q29))
     · refine ob9 dE (by rfl) ?_
       intro A B G H I d0 d1
       have e3 : At (Ty.nat j) B A (.tmp 40) := d0 rfl
       exact rP ((y_sub e3 rfl wX).mono (fun τ _ h => cvi (σ := τ) oM h))
     · refine ob9e dE (by rfl) ?_
       intro A B G H I
       exact rP (y_move (kp (I 0 rfl) G q31))
     · refine ob9e dE (by rfl) ?_
       intro A B G H I
       exact rP (y_move (kp (I 9 rfl) G q29))
     · refine ob9e dE (by rfl) ?_
       intro A B G H I d0
       have e6 : At (Ty.nat j) B A (.tmp 43) := d0 rfl
       exact rP ((y_sub e6 rfl wX).mono (fun τ _ h => cvi (σ := τ) oM h))
     · refine ob9e dE (by rfl) ?_
       intro A B G H I d0 d1
       have e5 : At (Ty.val dv) B A (.tmp 42) := d0 rfl
       have e7 : At (Ty.nat (j - 1)) B A (.tmp 44) := d1 rfl
       exact rP (y_indexFc (i := (j - 1)) Tryd.underlying26 Tryd.inf42 at1 e5 e7 oM)
     · refine ob9e dE (by rfl) ?_
       intro A B G H I d0
       have e8 : At (Ty.val (cellPtr dv ((j - 1) * 4))) B A (.tmp 45) := d0 rfl
       exact rP (yld_agg (recs_drop (xs := F) (i := (j - 1)) oM) (own_loadst Tryd.underlying42 Tryd.inf42 (by rw [recs_len]; omega) dE (Own.k0 o6 G) e8))
     · refine ob9e dE (by rfl) ?_
       intro A B G H I
       exact rP (y_move (kp (I 0 rfl) G q31))
     · refine ob9e dE (by rfl) ?_
       intro A B G H I
       exact rP (y_move (kp (I 9 rfl) G q29))
     · refine ob9e dE (by rfl) ?_
       intro A B G H I d0 d1
       have e10 : At (Ty.val dv) B A (.tmp 47) := d0 rfl
       have e11 : At (Ty.nat j) B A (.tmp 48) := d1 rfl
       exact rP (y_indexFc (i := j) Tryd.underlying26 Tryd.inf42 at1 e10 e11 oM)
     · refine ob9e dE (by rfl) ?_
       intro A B G H I d0
       have e12 : At (Ty.val (cellPtr dv (j * 4))) B A (.tmp 49) := d0 rfl
       exact rP (yld_agg (recs_drop (xs := F) (i := j) oM) (own_loadst Tryd.underlying42 Tryd.inf42 (by rw [recs_len]; omega) dE (Own.k0 o6 G) e12))
     · refine ob9e dE (by rfl) ?_
       intro A B G H I d0 d1 d2 d3 d4 d5 d6 d7 d8 d9 d10 d11 d12 d13 d14 d15
       have e0 : At (Ty.val dv) B A (.tmp 37) := d0 rfl
       have e1 : At (Ty.nat j) B A (.tmp 38) := d1 rfl
       exact rP (y_indexFc (i := j) Tryd.underlying26 Tryd.inf42 at1 e0 e1 oM)
     · refine obR3w rfl ?_
       intro A B G H I d0 d1 d2 d3 d4 d5 d6 d7 d8 d9 d10 d11 d12 d13 d14 d15
       have e14 : At (Ty.val (cellPtr dv (j * 4))) B A (.tmp 51) := d0 rfl
       have e9 : At (Ty.agg [(Ty.int ((F.getD (j - 1) Rec0)).1), (Ty.int ((F.getD (j - 1) Rec0)).2.1), (Ty.val (Value.string ((F.getD (j - 1) Rec0)).2.2.1)), (Ty.lst Ty.str ((F.getD (j - 1) Rec0)).2.2.2)]) B A (.tmp 46) := d1 rfl
       exact YldM.toL (m_storec (us := recC ((F.getD (j - 1) Rec0))) Tryd.inf42 dE (Own.k0 o6 G) e14 (by rw [recs_len]; show _ + 4 ≤ _; omega) (show 0 < 4 by decide) e9 (recOne _))
     intro a9 s5 D5; have ok7 := D5.ok; have F7 := F6.stepL D5.stp dE
     have q36 : At (Ty.nat j) s5 a9 (.tmp 9) := D5.kt dE q29 rfl
     have q37 : At (Ty.nat i) s5 a9 (.tmp 8) := D5.kt dE q30 rfl
     have q38 : At (Ty.val dv) s5 a9 (.tmp 0) := D5.kt dE q31 rfl
     have q39 : At (Ty.nat a) s5 a9 (.tmp 1) := D5.kt dE q32 rfl
     have q40 : At (Ty.nat b) s5 a9 (.tmp 2) := D5.kt dE q33 rfl
     have q41 : At (Ty.val (Value.func (Fn.func 20) #[] #[])) s5 a9 (.tmp 3) := D5.kt dE q34 rfl
     have q42 : At (Ty.val dv) s5 a9 (.tmp 39) := D5.done 2 dE
     have q43 : At (Ty.nat (j - 1)) s5 a9 (.tmp 41) := D5.done 4 dE
     have q44 : At (Ty.agg [(Ty.int ((F.getD j Rec0)).1), (Ty.int ((F.getD j Rec0)).2.1), (Ty.val (Value.string ((F.getD j Rec0)).2.2.1)), (Ty.lst Ty.str ((F.getD j Rec0)).2.2.2)]) s5 a9 (.tmp 50) := D5.done 13 dE
     have o7 : Own s5 40 42 4 dv (List.length (F.set j ((F.getD (j - 1) Rec0)))) (List.flatMap recC (F.set j ((F.getD (j - 1) Rec0)))) := (cvo (by simp only [List.length_set]) (recs_set oM) D5.donep)
     refine tL (R := (fun v τ => Pr.has (Ty.pr (Ty.val (cellPtr dv ((j - 1) * 4)))) τ v)) ok7 (Yld.toL (y_idxc (i := (j - 1)) Tryd.underlying26 Tryd.inf42 o7 q42 q43 (by simp only [List.length_set]; omega))) fun a10 s6 hs1 ok8 r1 sm1 => ?_
     have q53 : At (Ty.val (cellPtr dv ((j - 1) * 4))) s6 a10 (.tmp 52) := r1
     clear r1
     refine tailL0 (L := [40]) (R := (fun _ τ => Own τ 40 42 4 dv (List.length (F.set j ((F.getD (j - 1) Rec0)))) (setL (List.flatMap recC (F.set j ((F.getD (j - 1) Rec0)))) ((j - 1) * 4) (recC ((F.getD j Rec0)))))) rfl rfl (YldM.toL (m_storec (us := recC ((F.getD j Rec0))) Tryd.inf42 dE (Own.kl o7 hs1) q53 (by rw [recs_len]; show _ + 4 ≤ _; simp only [List.length_set]; omega) (show 0 < 4 by decide) (kq hs1 sm1 50 q44) (recOne _))) (fun v1 s7 hs2 r2 => ?_)
     have q54 := kpL hs2 dE rfl (kq hs1 sm1 9 q36); have q55 := kpL hs2 dE rfl (kq hs1 sm1 8 q37); have q56 := kpL hs2 dE rfl (kq hs1 sm1 0 q38); have q57 := kpL hs2 dE rfl (kq hs1 sm1 1 q39); have q58 := kpL hs2 dE rfl (kq hs1 sm1 2 q40); have q59 := kpL hs2 dE rfl (kq hs1 sm1 3 q41)
     have o9 : Own s7 40 42 4 dv (List.length ((F.set j ((F.getD (j - 1) Rec0))).set (j - 1) ((F.getD j Rec0)))) (List.flatMap recC ((F.set j ((F.getD (j - 1) Rec0))).set (j - 1) ((F.getD j Rec0)))) := (cvo (by simp only [List.length_set]) (recs_set (by simp only [List.length_set]; omega)) r2)
     clear r2; refine wpList_nil (bn (tn ?_))
     refine gI a10 s7 ok8 (gM q54 (gT (Ty.nat (j - 1)) rfl (fun A B G H I d0 => rP ((y_sub (eI d0) rfl wX).mono (fun τ _ h => cvi (σ := τ) oM h))) (gB 0 (gE ok8 fun a11 s8 ok9 D6 => ?_)))); have o10 := Own.k0 o9 D6.stp
     exact tn ⟨((j - 1)) + 1, by omega, s8, ((F.set j (F.getD (j - 1) Rec0)).set (j - 1) (F.getD j Rec0)), (j - 1), rfl, (((F7.sl hs1).sl hs2).step0 D6.stp), ok9, (cJ (D6.m 2 rfl)), (D6.k q55), (D6.k q56), (D6.k q57), (D6.k q58), (D6.k q59), (cvo (by (simp)) (by (simp)) o10), ins_sg hsg2 oM oM oM hlt, insJ_step hJ oM oM oM hlt, by omega, by omega, rfl⟩
    ·
     have hjf : j = a ∨ (rD F (j - 1)).1 ≤ (rD F j).1 := (by simp only [Bool.and_eq_false_iff, decide_eq_false_iff_not] at c2; rcases c2 with h_ | h_; exact .inl oM; exact .inr (by show (F.getD (j - 1) Rec0).1 ≤ (F.getD j Rec0).1; omega))
     refine wp_exit (tx (tx (bx (bn (tn ?_)))))
     refine gI a8 s4 ok6 (gM q30 (gT (Ty.nat (i + 1)) rfl (fun A B G H I d0 => rP ((y_add (eI d0) rfl wX).mono (fun τ _ h => cN (σ := τ) h))) (gB 0 (gE ok6 fun a12 s9 ok10 D7 => ?_)))); have o11 := Own.k0 o6 D7.stp
     exact tn ⟨b + 1 - ((i + 1)), by omega, s9, F, (i + 1), rfl, (F6.step0 D7.stp), ok10, (cJ (D7.m 2 rfl)), (D7.k q31), (D7.k q32), (D7.k q33), (D7.k q34), (cvo (by (simp)) (by (simp)) o11), hsg2, insJ_end hJ hj2 hjf, by omega, by omega, rfl⟩
  ·
   refine wp_exit (tx (tx (bx ?_)))
   exact nL0 rfl ok3 F3 ⟨E, trivial, (cvo (by (simp)) (by (simp)) o3), (by exact hsg), (by exact hsr.sub (Nat.le_refl _) oM)⟩


end Go.Proofs.YtfgkhpkbehhflaaDoor
