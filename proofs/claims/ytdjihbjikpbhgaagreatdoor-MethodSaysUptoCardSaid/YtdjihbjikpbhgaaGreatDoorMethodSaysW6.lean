/- The functions that the law MethodSays reaches, each by its contract. Part 6. -/
import Derived.Test.YtdjihbjikpbhgaaGreatDoorMethodSaysW5
namespace Go.Proofs.YtdjihbjikpbhgaaGreatDoor
open Go.KL

set_option maxHeartbeats 4000000 in
set_option maxRecDepth 100000 in
theorem rLine_fn (nm : ByteArray) (n : Int) (l : List (List Int)) (b : Int) (σ : GW)  (v0 v1 : Value) (hv0 : Ty.has (Ty.agg [(Ty.val (Value.string nm)), (Ty.int n), (Ty.lst Ty.ints l)]) σ v0) (hv1 : Ty.has (Ty.int b) σ v1)  (h0 : methMay nm n l = 0) (hb : 0 ≤ b ∧ b < n) :
    FnC Tryz.prog 22 #[v0, v1] σ (Ty.lst Ty.int (lnTo (fromL (roundsL n.toNat) l) b (l.length + 1))) := by
 obtain ⟨hmo, hnn⟩ := methMay_ok' h0; have hm1 := hmo.n1; have hm2 := hmo.n2; have hml := hmo.l2; have hml1 := hmo.l1; have hrl := roundsL_len n.toNat; have hfl := fromL_len (roundsL n.toNat) l; obtain ⟨hhr, hhl⟩ := hmo.head; have hrm := rowMay_ok.2 hhr; have hol := ordTo_le hhr _ (Nat.le_refl _)
 have hok : ∀ k, k < l.length → okL 0 (l.getD k []) (roundsL n.toNat).length := (fun k hk => by rw [hrl]; exact hmo.ok k hk)
 obtain ⟨F, hF⟩ : ∃ F, F = (fromL (roundsL n.toNat) l) := ⟨_, rfl⟩
 have hFl : F.length = l.length + 1 := (by rw [hF, fromL_len])
 refine fn_intro0 Tryz.func22 rfl Tryz.ntmps22 (Nat.le_of_ble_eq_true rfl) (fun s0 a0 hle F0 ok0 hargs => ?_)
 have p0 := pA hle (hargs 0 _ rfl) hv0
 have p1 := pA hle (hargs 1 _ rfl) hv1
 clear hargs; refine wp_seq ?_
 refine gI a0 s0 ok0 (gS rfl (fun E G H I J => rP (y_boxagg (kp (J 0 rfl) H p0))) (gC (Ty.val (Value.slice none 0 0)) (gE ok0 fun a1 s1 ok1 D1 => ?_))); have q2 := D1.dn 0 rfl rfl; refine tn (wp_seq ?_)
 refine gI a1 s1 ok1 (gS rfl (fun E G H I J => rP (y_field Tryz.fld24_1 Tryz.inf3 (by decide) (kp (J 2 rfl) H q2) rfl)) (gS rfl (fun E G H I J d0 => rP (y_load Tryz.underlying3 rfl (ed d0 rfl rfl rfl) rfl)) (gS rfl (fun E G H I J d0 => rP (y_call _ Tryz.func15 rfl rfl my1 (rRounds_fn ((n).toNat) _ _ (cvi (σ := G) (by omega) (ed d0 rfl rfl rfl)) (by omega)))) (gS rfl (fun E G H I J => rP (y_field Tryz.fld24_2 Tryz.inf22 (by decide) (kp (J 2 rfl) H q2) rfl)) (gS rfl (fun E G H I J d0 => rP (y_load Tryz.underlying22 rfl (ed d0 rfl rfl rfl) rfl)) (gT (Ty.lst Ty.ints F) rfl (fun E G H I J d0 d1 d2 => rP ((y_call _ Tryz.func14 rfl rfl my2 (rFrom_fn ((roundsL ((n).toNat))) (l) _ _ _ (ed d0 rfl rfl rfl) (ed d1 rfl rfl rfl) (by first | omega | assumption) (by first | omega | assumption) (by first | omega | assumption))).mono (fun τ _ h => cvt (σ := τ) (T := (Ty.lst Ty.ints (fromL ((roundsL ((n).toNat))) l))) (U := (Ty.lst Ty.ints F)) (by rw [hF]) h))) (gB 0 (gE ok1 fun a2 s2 ok2 D2 => ?_)))))))); refine tn (wp_seq ?_)
 refine gI a2 s2 ok2 (gC (Ty.val (Value.slice none 0 0)) (gE ok2 fun a3 s3 ok3 D3 => ?_)); refine tn (wp_seq (wp_seq ?_))
 refine gI a3 s3 ok3 (gC (Ty.int (0 : Int)) (gE ok3 fun a4 s4 ok4 D4 => ?_)); refine tn (wp_block ?_)
 have o1 : Own s4 5 3 1 (Value.slice none 0 0) 0 (List.map Ty.int ([] : List Int)) := Own.nil _ _ _ _
 refine loop (fun n1 a5 w1 => ∃ (t1 : GW) (k : Nat) (x6_0 : Value), t1.w = w1 ∧ FromL [] s0 t1 ∧ Ok 35 [] a5 ∧ At (Ty.nat k) t1 a5 (.tmp 7) ∧ At (Ty.val x6_0) t1 a5 (.tmp 6) ∧ At (Ty.int b) t1 a5 (.tmp 1) ∧ At (Ty.lst Ty.ints F) t1 a5 (.tmp 5) ∧ Own t1 5 3 1 x6_0 (List.length (lnTo F b k)) (List.map Ty.int (lnTo F b k)) ∧ (k ≤ F.length) ∧ n1 = F.length - k) (F.length - (0)) ?_ ?_
 ·
  exact ⟨s4, 0, (Value.slice none 0 0), rfl, ((((F0.step0 D1.stp).step0 D2.stp).step0 D3.stp).step0 D4.stp), ok4, (cvi (by (first | rfl | omega | (simp_all; done) | (simp_all; omega))) (D4.dn 0 rfl rfl)), (D4.kt (D3.dn 0 rfl rfl) rfl), (D4.kt (D3.kt (D2.kt (D1.kt p1 rfl) rfl) rfl) rfl), (D4.kt (D3.kt (D2.dn 6 rfl rfl) rfl) rfl), (cvo (by (rfl)) (by (rfl)) o1), by omega, rfl⟩
 ·
  rintro n2 a6 w2 ⟨t2, k, x6_0, rfl, F5, ok5, q12, q13, q14, q15, o2, hk, rfl⟩
  refine wp_seq (wp_seq ?_)
  refine gI a6 t2 ok5 (gM q12 (gM q15 (gS rfl (fun E G H I J d0 => rP (y_len Tryz.underlying22 (ed d0 rfl rfl rfl))) (gS rfl (fun E G H I J d0 d1 => rP (y_lss (ed d0 rfl rfl rfl) (ed d1 rfl rfl rfl))) (gE ok5 fun a7 s5 ok6 D5 => ?_))))); have F6 := F5.step0 D5.stp; have q16 := D5.kt q12 rfl; have q17 := D5.kt q13 rfl; have q18 := D5.kt q14 rfl; have q19 := D5.kt q15 rfl; have o3 := Own.k0 o2 D5.stp; refine tn ?_
  refine cond_p (p := (((k : Nat) : Int) < (((List.length F) : Nat) : Int))) (D5.dn 3 rfl rfl) (fun c1 => ?_) (fun c1 => ?_)
  ·
   have hll := ln_len F b k; have hrr := lead_rows hmo (k := k) (by omega); rw [← hF] at hrr; obtain ⟨hrw, hrl2⟩ := hrr; have hul := undoL_len (F.getD k []); have hui := undo_index hrw hb.1 (by omega); have hil := indexL_bd (F.getD k []) b
   refine wp_skip (tn (wp_seq (wp_block (wp_seq ?_))))
   refine gI a7 s5 ok6 (gM q19 (gM q16 (gT (Ty.ref [(Ty.lst Ty.int (F.getD k []))]) rfl (fun E G H I J d0 d1 => rP (y_index1 Tryz.underlying22 Tryz.inf30 (ed d0 rfl rfl rfl) (ed d1 rfl rfl rfl) (by omega) (lst_get Ty.ints F [] k (by omega)))) (gS rfl (fun E G H I J d0 => rP (y_load Tryz.underlying30 rfl (ed d0 rfl rfl rfl) rfl)) (gS rfl (fun E G H I J d0 => rP (y_call _ Tryz.func42 rfl rfl my1 (rUndo_fn ((F.getD k [])) _ _ (ed d0 rfl rfl rfl) (by assumption)))) (gM q18 (gT (Ty.ref [(Ty.int ((undoL ((F.getD k []))).getD (b).toNat 0))]) rfl (fun E G H I J d0 d1 => rP (y_index1 Tryz.underlying30 Tryz.inf3 (ed d0 rfl rfl rfl) (ed d1 rfl rfl rfl) (by omega) (lst_get Ty.int (undoL ((F.getD k []))) 0 (b).toNat (by omega)))) (gS rfl (fun E G H I J d0 => rP (y_load Tryz.underlying3 rfl (ed d0 rfl rfl rfl) rfl)) (gB 0 (gE ok6 fun a8 s6 ok7 D6 => ?_)))))))))); have q22 := D6.kt q17 rfl; have o4 := Own.k0 o3 D6.stp; refine tn ?_
   refine gI a8 s6 ok7 (gM q22 (gM (D6.dn 8 rfl rfl) (gT (Ty.int (((undoL ((F.getD k []))).getD (b).toNat 0) + (1 : Int))) rfl (fun E G H I J d0 => rP (y_add (ed d0 rfl rfl rfl) rfl (w64 (by omega) (by omega)))) (gT (Ty.sl 1 1 [(Ty.int (((undoL ((F.getD k []))).getD (b).toNat 0) + (1 : Int)))]) rfl (fun E G H I J d0 => rP (y_build1o Tryz.underlying30 Tryz.inf3 rfl (one_val rfl) (ed d0 rfl rfl rfl))) (gE2 ok7 fun a9 s7 ok8 D7 => ?_))))); have o5 := Own.k0 o4 D7.stp
   have q30 : At (Ty.val x6_0) s7 a9 (.tmp 29) := D7.done 0 (by decide)
   have q31 := D7.dn 3 (by decide) rfl rfl
   have b1 := sl_le q31
   refine tL ok8 (YldM.toL (m_append Tryz.underlying30 Tryz.inf3 (by decide) rfl (by decide) (al (R := (Pr.own 5 3 1 (List.length (lnTo F b k)) (List.map Ty.int (lnTo F b k)))) q30 o5) q31 (by intro U hU; simp at hU; subst hU; exact one_val rfl) (by omega) (by omega))) fun a10 s8 hs1 ok9 r1 sm1 => ?_
   have F9 := ((F6.step0 D6.stp).step0 D7.stp).stepL hs1 (by decide); have q32 := kpL hs1 (by decide) (sm1 7 (by decide)) (D7.kt (D6.kt q16 rfl) rfl); have q33 := kpL hs1 (by decide) (sm1 6 (by decide)) (D7.kt q22 rfl); have q34 := kpL hs1 (by decide) (sm1 1 (by decide)) (D7.kt (D6.kt q18 rfl) rfl); have q35 := kpL hs1 (by decide) (sm1 5 (by decide)) (D7.kt (D6.kt q19 rfl) rfl)
   obtain ⟨x1, hx1⟩ : ∃ x, a10.eval (.tmp 33) = x := ⟨_, rfl⟩
   have q36 : At (Ty.val x1) s8 a10 (.tmp 33) := hx1
   have o6 := al2 (R := (Pr.own 5 3 1 (List.length ((lnTo F b k) ++ [(((undoL ((F.getD k []))).getD (b).toNat 0) + (1 : Int))])) (List.map Ty.int ((lnTo F b k) ++ [(((undoL ((F.getD k []))).getD (b).toNat 0) + (1 : Int))])))) hx1 (cvo (by simp) (by first | (rw [List.map_append]; rfl) | simp) r1)
   clear r1
   refine tL ok9 (Yld.toL (y_as q36)) fun a11 s9 hs2 ok10 r2 sm2 => ?_
   have F10 := F9.stepL hs2 (by decide); have q37 := kpL hs2 (by decide) (sm2 7 (by decide)) q32; have q38 := kpL hs2 (by decide) (sm2 1 (by decide)) q34; have q39 := kpL hs2 (by decide) (sm2 5 (by decide)) q35; have o7 := Own.keepL o6 hs2 (by decide) (by decide)
   have q40 : At (Ty.val x1) s9 a11 (.tmp 6) := r2
   clear r2; refine wpList_nil (bn (tn ?_))
   refine gI a11 s9 ok10 (gM q37 (gT (Ty.nat (k + 1)) rfl (fun E G H I J d0 => rP ((y_add (ed d0 rfl rfl rfl) rfl (w64 (by omega) (by omega))).mono (fun τ _ h => cvi (σ := τ) (by first | omega | exact (Int.natCast_mul _ _).symm) h))) (gB 0 (gE ok10 fun a12 s10 ok11 D8 => ?_)))); have o8 := Own.k0 o7 D8.stp
   exact tn ⟨F.length - ((k+1)), by omega, s10, (k+1), x1, rfl, (F10.step0 D8.stp), ok11, (cvi (by (first | rfl | omega | (simp_all; done) | (simp_all; omega))) (D8.dn 2 rfl rfl)), (D8.kt q40 rfl), (D8.kt q38 rfl), (D8.kt q39 rfl), (cvo (by (rw [ln_succ, hui])) (by (rw [ln_succ, hui])) o8), by omega, rfl⟩
  ·
   refine wp_exit (tx (tx (bx (tn (wp_seq ?_)))))
   refine gI a7 s5 ok6 (gM q17 (gB 0 (gE ok6 fun a13 s11 ok12 D9 => ?_))); have o9 := Own.k0 o3 D9.stp
   have q45 : At (Ty.val x6_0) s11 a13 (.tmp 4) := D9.done 1
   refine tn (wp_ret ?_)
   obtain ⟨t3, e1, h1, q46⟩ := Own.seal o9 (by decide)
   rw [← e1]
   have F13 := (F6.step0 D9.stp).step h1 (by decide)
   have q47 : At (Ty.lst Ty.int (lnTo F b k)) t3 a13 (.tmp 4) := by have e : a13.eval (.tmp 4) = x6_0 := q45; show Ty.has _ _ _; rw [e]; exact q46
   exact retL1 rfl ok12 F13 (cvt (by (rw [← hF, show k = l.length + 1 by omega])) q47)


set_option maxRecDepth 100000 in
theorem course_fn (nm : ByteArray) (n : Int) (l : List (List Int)) (σ : GW) (v0 : Value) (hv0 : Ty.has (Ty.agg [(Ty.val (Value.string nm)), (Ty.int n), (Ty.lst Ty.ints l)]) σ v0) (hnm : nm.size ≤ 1099511627776) (hn : -9223372036854775808 ≤ n ∧ n ≤ 9223372036854775807) :
    FnC Tryz.prog 43 #[v0] σ (Ty.tup2 (Ty.lst Ty.ints (if courseMay nm n l = 0 then crs n.toNat l (ordL (headL n.toNat l) * l.length) else [])) (Ty.int (courseMay nm n l))) := by
 refine fn_intro Tryz.func43 rfl Tryz.ntmps43 (Nat.le_of_ble_eq_true rfl) (fun s0 a0 hle F0 ok0 hargs => ?_)
 have p0 := pA hle (hargs 0 _ rfl) hv0
 clear hargs; refine wp_seq ?_
 refine gI a0 s0 ok0 (gS rfl (fun E G H I J => rP (y_boxagg (kp (J 0 rfl) H p0))) (gC (Ty.val (Value.slice none 0 0)) (gC (Ty.int (0 : Int)) (gE ok0 fun a1 s1 ok1 D1 => ?_)))); have q1 := D1.dn 0 rfl rfl; refine tn (wp_seq ?_)
 refine gI a1 s1 ok1 (gS rfl (fun E G H I J => rP (y_loadagg Tryz.underlying24 Tryz.inf24 (kp (J 1 rfl) H q1))) (gS rfl (fun E G H I J d0 => rP (y_call _ Tryz.func8 rfl rfl my1 (lead_fn (nm) (n) (l) _ _ (ed d0 rfl rfl rfl) (by first | omega | assumption) (by first | omega | assumption)))) (gS rfl (fun E G H I J d0 => rP (y_move (ed d0 rfl rfl rfl))) (gT (Ty.lst Ty.ints (if methMay nm n l = 0 then fromL (roundsL n.toNat) l else [])) rfl (fun E G H I J d0 => rP (y_ext2_0 (ed d0 rfl rfl rfl))) (gT (Ty.int (methMay nm n l)) rfl (fun E G H I J d0 d1 => rP (y_ext2_1 (ed d0 rfl rfl rfl))) (gB 0 (gB 0 (gE ok1 fun a2 s2 ok2 D2 => ?_)))))))); have q4 := D2.dn 6 rfl rfl; refine tn (wp_seq (wp_seq ?_))
 refine gI a2 s2 ok2 (gM q4 (gS rfl (fun E G H I J d0 => rP (y_neq (ed d0 rfl rfl rfl) rfl)) (gE ok2 fun a3 s3 ok3 D3 => ?_))); have F3 := ((F0.step0 D1.stp).step0 D2.stp).step0 D3.stp; have q5 := D3.kt (D2.kt q1 rfl) rfl; refine tn ?_
 refine cond_p (p := ((methMay nm n l) ≠ (0 : Int))) (D3.dn 1 rfl rfl) (fun c1 => ?_) (fun c1 => ?_)
 ·
  have hcm : courseMay nm n l = methMay nm n l := (by unfold courseMay; rw [if_pos c1])
  refine wp_seq ?_
  refine gI a3 s3 ok3 (gM (D3.kt q4 rfl) (gC (Ty.val (Value.slice none 0 0)) (gB 0 (gE ok3 fun a4 s4 ok4 D4 => ?_)))); refine tn (wp_ret (tr ?_))
  exact ret2 rfl ok4 (F3.step0 D4.stp) (nil_lst (by (rw [hcm, if_neg c1])) (D4.dn 1 rfl rfl)) (cvi (by (exact hcm.symm)) (D4.dn 2 rfl rfl))
 ·
  have h0 := Classical.not_not.1 c1; obtain ⟨hmo, hnn⟩ := methMay_ok' h0; have hm1 := hmo.n1; have hm2 := hmo.n2; have hml := hmo.l2; have hml1 := hmo.l1; have hrl := roundsL_len n.toNat; have hfl := fromL_len (roundsL n.toNat) l; obtain ⟨hhr, hhl⟩ := hmo.head; have hrm := rowMay_ok.2 hhr; have hol := ordTo_le hhr _ (Nat.le_refl _); have hox : ordL (headL n.toNat l) * l.length ≤ 27720 * 200 := Nat.mul_le_mul (by unfold ordL; omega) hml; have hop : 0 ≤ ordL (headL n.toNat l) * l.length := Nat.zero_le _; have hocast : (((ordL (headL n.toNat l)) : Nat) : Int) * ((l.length : Nat) : Int) = ((ordL (headL n.toNat l) * l.length : Nat) : Int) := (Int.natCast_mul _ _).symm; have hob : ordL (headL n.toNat l) ≤ 27720 := hol.2
  have q11 : At (Ty.lst Ty.ints (fromL (roundsL n.toNat) l)) s3 a3 (.tmp 4) := cvt (T := (Ty.lst Ty.ints (if methMay nm n l = 0 then fromL (roundsL n.toNat) l else []))) (U := (Ty.lst Ty.ints (fromL (roundsL n.toNat) l))) (by rw [if_pos h0]) (D3.kt (D2.dn 5 rfl rfl) rfl)
  refine wp_skip (tn (wp_seq ?_))
  refine gI a3 s3 ok3 (gS rfl (fun E G H I J => rP (y_loadagg Tryz.underlying24 Tryz.inf24 (kp (J 1 rfl) H q5))) (gT (Ty.tup3 (Ty.lst Ty.int (headL n.toNat l)) (Ty.nat (ordL (headL n.toNat l))) (Ty.int (0 : Int))) rfl (fun E G H I J d0 => rP ((y_call _ Tryz.func9 rfl rfl my1 (head_fn (nm) (n) (l) _ _ (ed d0 rfl rfl rfl) (by first | omega | assumption) (by first | omega | assumption))).mono (fun τ _ h => cvt (σ := τ) (T := (Ty.tup3 (Ty.lst Ty.int (if methMay nm n l = 0 then headL n.toNat l else [])) (Ty.nat (if methMay nm n l = 0 then ordL (headL n.toNat l) else 0)) (Ty.int (methMay nm n l)))) (U := (Ty.tup3 (Ty.lst Ty.int (headL n.toNat l)) (Ty.nat (ordL (headL n.toNat l))) (Ty.int (0 : Int)))) (by rw [if_pos h0, if_pos h0, h0]) h))) (gS rfl (fun E G H I J d0 => rP (y_move (ed d0 rfl rfl rfl))) (gT (Ty.lst Ty.int (headL n.toNat l)) rfl (fun E G H I J d0 => rP (y_ext3_0 (ed d0 rfl rfl rfl))) (gT (Ty.nat (ordL (headL n.toNat l))) rfl (fun E G H I J d0 d1 => rP (y_ext3_1 (ed d0 rfl rfl rfl))) (gT (Ty.int (0 : Int)) rfl (fun E G H I J d0 d1 => rP (y_ext3_2 (ed d0 rfl rfl rfl))) (gB 0 (gB 0 (gB 0 (gE ok3 fun a5 s5 ok5 D5 => ?_)))))))))); have q12 := D5.kt q5 rfl; have q15 := D5.dn 7 rfl rfl; refine tn (wp_seq (wp_seq ?_))
  refine gI a5 s5 ok5 (gM q15 (gS rfl (fun E G H I J => rP (y_field Tryz.fld24_2 Tryz.inf22 (by decide) (kp (J 1 rfl) H q12) rfl)) (gS rfl (fun E G H I J d0 => rP (y_load Tryz.underlying22 rfl (ed d0 rfl rfl rfl) rfl)) (gS rfl (fun E G H I J d0 => rP (y_len Tryz.underlying22 (ed d0 rfl rfl rfl))) (gT (Ty.int ((((ordL (headL n.toNat l)) : Nat) : Int) * (((List.length l) : Nat) : Int))) rfl (fun E G H I J d0 d1 => rP (y_mul (ed d0 rfl rfl rfl) (ed d1 rfl rfl rfl) (w64 (by omega) (by omega)))) (gS rfl (fun E G H I J d0 => rP (y_gtr (ed d0 rfl rfl rfl) rfl)) (gE ok5 fun a6 s6 ok6 D6 => ?_))))))); have F6 := (F3.step0 D5.stp).step0 D6.stp; refine tn ?_
  refine cond_p (p := ((20000 : Int) < ((((ordL (headL n.toNat l)) : Nat) : Int) * (((List.length l) : Nat) : Int)))) (D6.dn 5 rfl rfl) (fun c2 => ?_) (fun c2 => ?_)
  ·
   have hcm : courseMay nm n l = 3 := (by unfold courseMay; rw [if_neg c1, if_pos (by omega)])
   refine wp_seq ?_
   refine gI a6 s6 ok6 (gC (Ty.val (Value.slice none 0 0)) (gC (Ty.int (3 : Int)) (gE ok6 fun a7 s7 ok7 D7 => ?_))); refine tn (wp_ret (tr ?_))
   exact ret2 rfl ok7 (F6.step0 D7.stp) (nil_lst (by (rw [hcm, if_neg (by omega)])) (D7.dn 0 rfl rfl)) (cvi (by (exact hcm.symm)) (D7.dn 1 rfl rfl))
  ·
   have hcm : courseMay nm n l = 0 := (by unfold courseMay; rw [if_neg c1, if_neg (by omega)])
   refine wp_skip (tn (wp_seq ?_))
   refine gI a6 s6 ok6 (gS rfl (fun E G H I J => rP (y_field Tryz.fld24_1 Tryz.inf3 (by decide) (kp (J 1 rfl) H (D6.kt q12 rfl)) rfl)) (gS rfl (fun E G H I J d0 => rP (y_load Tryz.underlying3 rfl (ed d0 rfl rfl rfl) rfl)) (gS rfl (fun E G H I J d0 => rP (y_call _ Tryz.func30 rfl rfl my1 (rounds_fn ((n).toNat) _ _ (cvi (σ := G) (by omega) (ed d0 rfl rfl rfl)) (by omega)))) (gS rfl (fun E G H I J d0 => rP (y_move (ed d0 rfl rfl rfl))) (gT (Ty.lst Ty.int (roundsL ((n).toNat))) rfl (fun E G H I J d0 => rP (y_ext2_0 (ed d0 rfl rfl rfl))) (gT (Ty.int (0 : Int)) rfl (fun E G H I J d0 d1 => rP (y_ext2_1 (ed d0 rfl rfl rfl))) (gB 0 (gB 0 (gE ok6 fun a8 s8 ok8 D8 => ?_))))))))); refine tn (wp_seq ?_)
   refine gI a8 s8 ok8 (gC (Ty.val (Value.slice none 0 0)) (gE ok8 fun a9 s9 ok9 D9 => ?_)); refine tn (wp_seq (wp_seq ?_))
   refine gI a9 s9 ok9 (gM (D9.kt (D8.kt (D6.kt q15 rfl) rfl) rfl) (gT (Ty.int (0 : Int)) rfl (fun E G H I J => rP (y_move rfl)) (gE ok9 fun a10 s10 ok10 D10 => ?_))); refine tn (wp_block ?_)
   refine loop (fun n1 a11 w1 => ∃ (t1 : GW) (k : Nat), t1.w = w1 ∧ From s0 t1 ∧ Ok 65 [] a11 ∧ At (Ty.nat k) t1 a11 (.tmp 41) ∧ At (Ty.lst Ty.int (powL n.toNat (headL n.toNat l) k)) t1 a11 (.tmp 9) ∧ (Pr.own 2 30 1 (List.length (crs n.toNat l (k * l.length))) (List.map Ty.ints (crs n.toNat l (k * l.length)))).has t1 (a11.eval (.tmp 11)) ∧ At (Ty.lst Ty.ints (fromL (roundsL n.toNat) l)) t1 a11 (.tmp 4) ∧ At (Ty.lst Ty.int (headL n.toNat l)) t1 a11 (.tmp 6) ∧ At (Ty.nat (ordL (headL n.toNat l))) t1 a11 (.tmp 40) ∧ (k ≤ (ordL (headL n.toNat l))) ∧ n1 = (ordL (headL n.toNat l)) - k) ((ordL (headL n.toNat l)) - (0)) ?_ ?_
   ·
    exact ⟨s10, 0, rfl, (((F6.step0 D8.stp).step0 D9.stp).step0 D10.stp), ok10, (cvi (by (first | rfl | omega | (simp_all; done) | (simp_all; omega))) (D10.dn 1 rfl rfl)), (cvt (by (rfl)) (D10.kt (D9.kt (D8.dn 6 rfl rfl) rfl) rfl)), (by have e : a10.eval (.tmp 11) = _ := (D10.kt (D9.dn 0 rfl rfl) rfl); rw [e]; have z : (crs n.toNat l ((0) * l.length)) = [] := (by simp [crs]); rw [z]; exact Own.nil _ _ _ _), (D10.kt (D9.kt (D8.kt (D6.kt (D5.kt q11 rfl) rfl) rfl) rfl) rfl), (D10.kt (D9.kt (D8.kt (D6.kt (D5.dn 6 rfl rfl) rfl) rfl) rfl) rfl), (D10.dn 0 rfl rfl), by omega, rfl⟩
   ·
    rintro n2 a12 w2 ⟨t2, k, rfl, F11, ok11, q38, q39, q40, q41, q42, q43, hk, rfl⟩
    have hcl := crs_len n.toNat l (k * l.length)
    refine wp_seq ?_
    refine gI a12 t2 ok11 (gS rfl (fun E G H I J => rP (y_lss (kp (J 41 rfl) H q38) (kp (J 40 rfl) H q43))) (gE ok11 fun a13 s11 ok12 D11 => ?_)); have F12 := F11.step0 D11.stp
    have q46 : (Pr.own 2 30 1 (List.length (crs n.toNat l (k * l.length))) (List.map Ty.ints (crs n.toNat l (k * l.length)))).has s11 (a13.eval (.tmp 11)) := D11.ko q40 rfl
    have q47 := D11.kt q41 rfl; refine tn (wp_seq ?_)
    refine cond_p (p := (((k : Nat) : Int) < (((ordL (headL n.toNat l)) : Nat) : Int))) (D11.dn 0 rfl rfl) (fun c3 => ?_) (fun c3 => ?_)
    ·
     have hpl := powL_len (n := n.toNat) hhl k; have hmk : k * l.length + l.length ≤ ordL (headL n.toNat l) * l.length := (by rw [← Nat.succ_mul]; exact Nat.mul_le_mul_right _ (by omega)); have htl : (List.take ((((fromL (roundsL n.toNat) l).length : Nat) : Int) - (1 : Int)).toNat (fromL (roundsL n.toNat) l)).length = l.length := (by rw [List.length_take, hfl]; omega)
     refine wp_skip (tn (wp_seq (wp_block (wp_seq (wp_seq ?_)))))
     refine gI a13 s11 ok12 (gM q47 (gM q47 (gS rfl (fun E G H I J d0 => rP (y_len Tryz.underlying22 (ed d0 rfl rfl rfl))) (gT (Ty.int ((((List.length (fromL (roundsL n.toNat) l)) : Nat) : Int) - (1 : Int))) rfl (fun E G H I J d0 => rP (y_sub (ed d0 rfl rfl rfl) rfl (w64 (by omega) (by omega)))) (gT (Ty.lst Ty.ints ((fromL (roundsL n.toNat) l).take (((((List.length (fromL (roundsL n.toNat) l)) : Nat) : Int) - (1 : Int))).toNat)) rfl (fun E G H I J d0 d1 => rP (y_take Tryz.underlying22 Tryz.inf30 (ed d0 rfl rfl rfl) (toN (σ := G) (ed d1 rfl rfl rfl) (by omega)) (by omega))) (gS rfl (fun E G H I J d0 => rP (y_len Tryz.underlying22 (ed d0 rfl rfl rfl))) (gT (Ty.int (0 : Int)) rfl (fun E G H I J => rP (y_move rfl)) (gE ok12 fun a14 s12 ok13 D12 => ?_))))))))
     have q53 : (Pr.own 2 30 1 (List.length (crs n.toNat l (k * l.length))) (List.map Ty.ints (crs n.toNat l (k * l.length)))).has s12 (a14.eval (.tmp 11)) := D12.ko q46 rfl
     have q57 := D12.dn 4 rfl rfl
     have b1 := sl_le q57
     refine tn (wp_block ?_)
     refine loop (fun n3 a15 w3 => ∃ (t3 : GW) (j : Nat), t3.w = w3 ∧ From s0 t3 ∧ Ok 65 [] a15 ∧ At (Ty.nat j) t3 a15 (.tmp 49) ∧ (Pr.own 2 30 1 (List.length (crs n.toNat l (k * l.length + j))) (List.map Ty.ints (crs n.toNat l (k * l.length + j)))).has t3 (a15.eval (.tmp 11)) ∧ At (Ty.nat k) t3 a15 (.tmp 41) ∧ At (Ty.lst Ty.int (powL n.toNat (headL n.toNat l) k)) t3 a15 (.tmp 9) ∧ At (Ty.lst Ty.ints (fromL (roundsL n.toNat) l)) t3 a15 (.tmp 4) ∧ At (Ty.lst Ty.int (headL n.toNat l)) t3 a15 (.tmp 6) ∧ At (Ty.nat (ordL (headL n.toNat l))) t3 a15 (.tmp 40) ∧ At (Ty.lst Ty.ints ((fromL (roundsL n.toNat) l).take (((((List.length (fromL (roundsL n.toNat) l)) : Nat) : Int) - (1 : Int))).toNat)) t3 a15 (.tmp 47) ∧ At (Ty.nat (List.length ((fromL (roundsL n.toNat) l).take (((((List.length (fromL (roundsL n.toNat) l)) : Nat) : Int) - (1 : Int))).toNat))) t3 a15 (.tmp 48) ∧ (j ≤ l.length) ∧ n3 = l.length - j) (l.length - (0)) ?_ ?_
     ·
      exact ⟨s12, 0, rfl, (F12.step0 D12.stp), ok13, (cvi (by (first | rfl | omega | (simp_all; done) | (simp_all; omega))) (D12.dn 6 rfl rfl)), (cvo (by (simp)) (by (simp)) q53), (D12.kt (D11.kt q38 rfl) rfl), (D12.kt (D11.kt q39 rfl) rfl), (D12.kt q47 rfl), (D12.kt (D11.kt q42 rfl) rfl), (D12.kt (D11.kt q43 rfl) rfl), q57, (D12.dn 5 rfl rfl), by omega, rfl⟩
     ·
      rintro n4 a16 w4 ⟨t4, j, rfl, F14, ok14, q60, q61, q62, q63, q64, q65, q66, q67, q68, hk, rfl⟩
      have hcl2 := crs_len n.toNat l (k * l.length + j)
      refine wp_seq ?_
      refine gI a16 t4 ok14 (gS rfl (fun E G H I J => rP (y_lss (kp (J 49 rfl) H q60) (kp (J 48 rfl) H q68))) (gE ok14 fun a17 s13 ok15 D13 => ?_)); have F15 := F14.step0 D13.stp; have q69 := D13.kt q60 rfl
      have q70 : (Pr.own 2 30 1 (List.length (crs n.toNat l (k * l.length + j))) (List.map Ty.ints (crs n.toNat l (k * l.length + j)))).has s13 (a17.eval (.tmp 11)) := D13.ko q61 rfl
      have q71 := D13.kt q62 rfl; have q72 := D13.kt q63 rfl; have q73 := D13.kt q64 rfl; have q74 := D13.kt q65 rfl; have q75 := D13.kt q66 rfl; have q76 := D13.kt q67 rfl; refine tn (wp_seq ?_)
      refine cond_p (p := (((j : Nat) : Int) < (((List.length ((fromL (roundsL n.toNat) l).take (((((List.length (fromL (roundsL n.toNat) l)) : Nat) : Int) - (1 : Int))).toNat)) : Nat) : Int))) (D13.dn 0 rfl rfl) (fun c4 => ?_) (fun c4 => ?_)
      ·
       have htk := take_fromL n.toNat l (k := ((((fromL (roundsL n.toNat) l).length : Nat) : Int) - (1 : Int)).toNat) (j := j) (by omega) (by omega); obtain ⟨hcr, hcl⟩ := curL_row (by omega) hm2 hmo.ok j (by omega); have hbd := hcr.bds; have hbd2 : ∀ i, i < (curL (roundsL n.toNat) l j).length → 0 ≤ (curL (roundsL n.toNat) l j).getD i 0 ∧ (curL (roundsL n.toNat) l j).getD i 0 < ((powL n.toNat (headL n.toNat l) k).length : Int) := (fun i hi => by have := hbd i hi; omega); have hle1 : (powL n.toNat (headL n.toNat l) k).length = (curL (roundsL n.toNat) l j).length := (by omega); have hle3 : (powL n.toNat (headL n.toNat l) k).length = ((List.take ((((fromL (roundsL n.toNat) l).length : Nat) : Int) - (1 : Int)).toNat (fromL (roundsL n.toNat) l)).getD j []).length := (by rw [htk]; exact hle1); have hbd3 : ∀ i, i < ((List.take ((((fromL (roundsL n.toNat) l).length : Nat) : Int) - (1 : Int)).toNat (fromL (roundsL n.toNat) l)).getD j []).length → 0 ≤ ((List.take ((((fromL (roundsL n.toNat) l).length : Nat) : Int) - (1 : Int)).toNat (fromL (roundsL n.toNat) l)).getD j []).getD i 0 ∧ ((List.take ((((fromL (roundsL n.toNat) l).length : Nat) : Int) - (1 : Int)).toNat (fromL (roundsL n.toNat) l)).getD j []).getD i 0 < ((powL n.toNat (headL n.toNat l) k).length : Int) := (by rw [htk]; exact hbd2); have hpl2 : (powL n.toNat (headL n.toNat l) k).length ≤ 12 := (by omega)
       refine wp_skip (tn (wp_seq (wp_block (wp_seq ?_))))
       refine gI a17 s13 ok15 (gT (Ty.ref [(Ty.lst Ty.int (((fromL (roundsL n.toNat) l).take (((((List.length (fromL (roundsL n.toNat) l)) : Nat) : Int) - (1 : Int))).toNat).getD j []))]) rfl (fun E G H I J => rP (y_index1 Tryz.underlying22 Tryz.inf30 (kp (J 47 rfl) H q76) (kp (J 49 rfl) H q69) (by omega) (lst_get Ty.ints ((fromL (roundsL n.toNat) l).take (((((List.length (fromL (roundsL n.toNat) l)) : Nat) : Int) - (1 : Int))).toNat) [] j (by omega)))) (gS rfl (fun E G H I J d0 => rP (y_load Tryz.underlying30 rfl (ed d0 rfl rfl rfl) rfl)) (gB 0 (gE ok15 fun a18 s14 ok16 D14 => ?_))))
       have q80 : (Pr.own 2 30 1 (List.length (crs n.toNat l (k * l.length + j))) (List.map Ty.ints (crs n.toNat l (k * l.length + j)))).has s14 (a18.eval (.tmp 11)) := D14.ko q70 rfl
       have q82 := D14.kt q72 rfl; refine tn ?_
       refine gI a18 s14 ok16 (gT (Ty.val (a18.eval (.tmp 11))) rfl (fun E G H I J => rP (y_move (J 11 rfl))) (gM q82 (gM (D14.dn 2 rfl rfl) (gS rfl (fun E G H I J d0 d1 => rP (y_call _ Tryz.func49 rfl rfl my2 (product_fn ((powL n.toNat (headL n.toNat l) k)) ((((fromL (roundsL n.toNat) l).take (((((List.length (fromL (roundsL n.toNat) l)) : Nat) : Int) - (1 : Int))).toNat).getD j [])) _ _ _ (ed d0 rfl rfl rfl) (ed d1 rfl rfl rfl) (by first | assumption | omega) (by first | assumption | omega) (by first | assumption | omega)))) (gT (Ty.sl 1 1 [(Ty.lst Ty.int (byL ((powL n.toNat (headL n.toNat l) k)) ((((fromL (roundsL n.toNat) l).take (((((List.length (fromL (roundsL n.toNat) l)) : Nat) : Int) - (1 : Int))).toNat).getD j []))))]) rfl (fun E G H I J d0 => rP (y_build1o Tryz.underlying22 Tryz.inf30 rfl (one_sl) (ed d0 rfl rfl rfl))) (gE2 ok16 fun a19 s15 ok17 D15 => ?_)))))); have q89 := (Pr.own 2 30 1 (List.length (crs n.toNat l (k * l.length + j))) (List.map Ty.ints (crs n.toNat l (k * l.length + j)))).up D15.stp q80
       have q91 : a19.eval (.tmp 11) = a18.eval (.tmp 11) := D15.same 11 rfl
       have q100 := D15.dn 4 (by decide) rfl rfl
       refine tail_step (m := 2) (R := (fun v τ => Own τ 2 30 1 v ((List.length (crs n.toNat l (k * l.length + j))) + 1) ((List.map Ty.ints (crs n.toNat l (k * l.length + j))) ++ [(Ty.lst Ty.int (byL ((powL n.toNat (headL n.toNat l) k)) ((((fromL (roundsL n.toNat) l).take (((((List.length (fromL (roundsL n.toNat) l)) : Nat) : Int) - (1 : Int))).toNat).getD j []))))]))) rfl rfl (by decide) ok17 (m_append Tryz.underlying22 Tryz.inf30 (by decide) rfl (by decide) (al (D15.dn 0 (by decide) rfl rfl) q89) q100 (by intro U hU; simp at hU;  subst hU; exact one_sl) (by omega) (by omega)) (fun a20 s16 hs1 ok18 r1 sm1 => ?_)
       have F18 := ((F15.step0 D14.stp).step0 D15.stp).step hs1 (by decide)
       have q101 : At (Ty.nat j) s16 a20 (.tmp 49) := kpm hs1 (by decide) (sm1 49 (by decide)) (D15.kt (D14.kt q69 rfl) rfl)
       have q102 : At (Ty.nat k) s16 a20 (.tmp 41) := kpm hs1 (by decide) (sm1 41 (by decide)) (D15.kt (D14.kt q71 rfl) rfl)
       have q103 : At (Ty.lst Ty.int (powL n.toNat (headL n.toNat l) k)) s16 a20 (.tmp 9) := kpm hs1 (by decide) (sm1 9 (by decide)) (D15.kt q82 rfl)
       have q104 : At (Ty.lst Ty.ints (fromL (roundsL n.toNat) l)) s16 a20 (.tmp 4) := kpm hs1 (by decide) (sm1 4 (by decide)) (D15.kt (D14.kt q73 rfl) rfl)
       have q105 : At (Ty.lst Ty.int (headL n.toNat l)) s16 a20 (.tmp 6) := kpm hs1 (by decide) (sm1 6 (by decide)) (D15.kt (D14.kt q74 rfl) rfl)
       have q106 : At (Ty.nat (ordL (headL n.toNat l))) s16 a20 (.tmp 40) := kpm hs1 (by decide) (sm1 40 (by decide)) (D15.kt (D14.kt q75 rfl) rfl)
       have q107 : At (Ty.lst Ty.ints ((fromL (roundsL n.toNat) l).take (((((List.length (fromL (roundsL n.toNat) l)) : Nat) : Int) - (1 : Int))).toNat)) s16 a20 (.tmp 47) := kpm hs1 (by decide) (sm1 47 (by decide)) (D15.kt (D14.kt q76 rfl) rfl)
       have q108 : At (Ty.nat (List.length ((fromL (roundsL n.toNat) l).take (((((List.length (fromL (roundsL n.toNat) l)) : Nat) : Int) - (1 : Int))).toNat))) s16 a20 (.tmp 48) := kpm hs1 (by decide) (sm1 48 (by decide)) (D15.kt (D14.kt (D13.kt q68 rfl) rfl) rfl)
       have q109 : At (Ty.sl 1 1 [(Ty.lst Ty.int (byL ((powL n.toNat (headL n.toNat l) k)) ((((fromL (roundsL n.toNat) l).take (((((List.length (fromL (roundsL n.toNat) l)) : Nat) : Int) - (1 : Int))).toNat).getD j []))))]) s16 a20 (.tmp 57) := kpm hs1 (by decide) (sm1 57 (by decide)) q100
       have q110 : (Pr.own 2 30 1 (List.length ((crs n.toNat l (k * l.length + j)) ++ [(byL ((powL n.toNat (headL n.toNat l) k)) ((((fromL (roundsL n.toNat) l).take (((((List.length (fromL (roundsL n.toNat) l)) : Nat) : Int) - (1 : Int))).toNat).getD j [])))])) (List.map Ty.ints ((crs n.toNat l (k * l.length + j)) ++ [(byL ((powL n.toNat (headL n.toNat l) k)) ((((fromL (roundsL n.toNat) l).take (((((List.length (fromL (roundsL n.toNat) l)) : Nat) : Int) - (1 : Int))).toNat).getD j [])))]))).has s16 (a20.eval (.tmp 58)) := (cvo (by simp) (by first | (rw [List.map_append]; rfl) | simp) r1)
       refine tail_step (m := 0) (R := (fun v τ => Pr.has (Pr.own 2 30 1 (List.length ((crs n.toNat l (k * l.length + j)) ++ [(byL ((powL n.toNat (headL n.toNat l) k)) ((((fromL (roundsL n.toNat) l).take (((((List.length (fromL (roundsL n.toNat) l)) : Nat) : Int) - (1 : Int))).toNat).getD j [])))])) (List.map Ty.ints ((crs n.toNat l (k * l.length + j)) ++ [(byL ((powL n.toNat (headL n.toNat l) k)) ((((fromL (roundsL n.toNat) l).take (((((List.length (fromL (roundsL n.toNat) l)) : Nat) : Int) - (1 : Int))).toNat).getD j [])))]))) τ v)) rfl rfl (by decide) ok18 (Yld.toM (y_assign q110)) (fun a21 s17 hs2 ok19 r2 sm2 => ?_)
       have F19 := F18.step hs2 (by decide)
       have q111 : At (Ty.nat j) s17 a21 (.tmp 49) := kpm hs2 (by decide) (sm2 49 (by decide)) q101
       have q112 : At (Ty.nat k) s17 a21 (.tmp 41) := kpm hs2 (by decide) (sm2 41 (by decide)) q102
       have q113 : At (Ty.lst Ty.int (powL n.toNat (headL n.toNat l) k)) s17 a21 (.tmp 9) := kpm hs2 (by decide) (sm2 9 (by decide)) q103
       have q114 : At (Ty.lst Ty.ints (fromL (roundsL n.toNat) l)) s17 a21 (.tmp 4) := kpm hs2 (by decide) (sm2 4 (by decide)) q104
       have q115 : At (Ty.lst Ty.int (headL n.toNat l)) s17 a21 (.tmp 6) := kpm hs2 (by decide) (sm2 6 (by decide)) q105
       have q116 : At (Ty.nat (ordL (headL n.toNat l))) s17 a21 (.tmp 40) := kpm hs2 (by decide) (sm2 40 (by decide)) q106
       have q117 : At (Ty.lst Ty.ints ((fromL (roundsL n.toNat) l).take (((((List.length (fromL (roundsL n.toNat) l)) : Nat) : Int) - (1 : Int))).toNat)) s17 a21 (.tmp 47) := kpm hs2 (by decide) (sm2 47 (by decide)) q107
       have q118 : At (Ty.nat (List.length ((fromL (roundsL n.toNat) l).take (((((List.length (fromL (roundsL n.toNat) l)) : Nat) : Int) - (1 : Int))).toNat))) s17 a21 (.tmp 48) := kpm hs2 (by decide) (sm2 48 (by decide)) q108
       have q119 : At (Ty.sl 1 1 [(Ty.lst Ty.int (byL ((powL n.toNat (headL n.toNat l) k)) ((((fromL (roundsL n.toNat) l).take (((((List.length (fromL (roundsL n.toNat) l)) : Nat) : Int) - (1 : Int))).toNat).getD j []))))]) s17 a21 (.tmp 57) := kpm hs2 (by decide) (sm2 57 (by decide)) q109
       have q120 : (Pr.own 2 30 1 (List.length ((crs n.toNat l (k * l.length + j)) ++ [(byL ((powL n.toNat (headL n.toNat l) k)) ((((fromL (roundsL n.toNat) l).take (((((List.length (fromL (roundsL n.toNat) l)) : Nat) : Int) - (1 : Int))).toNat).getD j [])))])) (List.map Ty.ints ((crs n.toNat l (k * l.length + j)) ++ [(byL ((powL n.toNat (headL n.toNat l) k)) ((((fromL (roundsL n.toNat) l).take (((((List.length (fromL (roundsL n.toNat) l)) : Nat) : Int) - (1 : Int))).toNat).getD j [])))]))).has s17 (a21.eval (.tmp 58)) := kpmo hs2 (by decide) (.inl rfl) (sm2 58 (by decide)) q110
       have q121 : (Pr.own 2 30 1 (List.length ((crs n.toNat l (k * l.length + j)) ++ [(byL ((powL n.toNat (headL n.toNat l) k)) ((((fromL (roundsL n.toNat) l).take (((((List.length (fromL (roundsL n.toNat) l)) : Nat) : Int) - (1 : Int))).toNat).getD j [])))])) (List.map Ty.ints ((crs n.toNat l (k * l.length + j)) ++ [(byL ((powL n.toNat (headL n.toNat l) k)) ((((fromL (roundsL n.toNat) l).take (((((List.length (fromL (roundsL n.toNat) l)) : Nat) : Int) - (1 : Int))).toNat).getD j [])))]))).has s17 (a21.eval (.tmp 11)) := r2
       refine wpList_nil (bn (tn ?_))
       refine gI a21 s17 ok19 (gT (Ty.int (((j : Nat) : Int) + (1 : Int))) rfl (fun E G H I J => rP (y_add (kp (J 49 rfl) H q111) rfl (w64 (by omega) (by omega)))) (gS rfl (fun E G H I J d0 => rP (y_move (ed d0 rfl rfl rfl))) (gE ok19 fun a22 s18 ok20 D16 => ?_)))
       have q129 : (Pr.own 2 30 1 (List.length ((crs n.toNat l (k * l.length + j)) ++ [(byL ((powL n.toNat (headL n.toNat l) k)) ((((fromL (roundsL n.toNat) l).take (((((List.length (fromL (roundsL n.toNat) l)) : Nat) : Int) - (1 : Int))).toNat).getD j [])))])) (List.map Ty.ints ((crs n.toNat l (k * l.length + j)) ++ [(byL ((powL n.toNat (headL n.toNat l) k)) ((((fromL (roundsL n.toNat) l).take (((((List.length (fromL (roundsL n.toNat) l)) : Nat) : Int) - (1 : Int))).toNat).getD j [])))]))).has s18 (a22.eval (.tmp 11)) := D16.ko q121 rfl
       exact tn ⟨l.length - ((j+1)), by omega, s18, (j+1), rfl, (F19.step0 D16.stp), ok20, (cvi (by (first | rfl | omega | (simp_all; done) | (simp_all; omega))) (D16.dn 1 rfl rfl)), (cvo (by (rw [htk, ← Nat.add_assoc, crs_succ _ _ _ _ (by omega)])) (by (rw [htk, ← Nat.add_assoc, crs_succ _ _ _ _ (by omega)])) q129), (D16.kt q112 rfl), (D16.kt q113 rfl), (D16.kt q114 rfl), (D16.kt q115 rfl), (D16.kt q116 rfl), (D16.kt q117 rfl), (D16.kt q118 rfl), by omega, rfl⟩
      ·
       have hbh := hhr.bds; have hbh2 : ∀ i, i < (headL n.toNat l).length → 0 ≤ (headL n.toNat l).getD i 0 ∧ (headL n.toNat l).getD i 0 < ((powL n.toNat (headL n.toNat l) k).length : Int) := (fun i hi => by have := hbh i hi; omega); have hle2 : (powL n.toNat (headL n.toNat l) k).length = (headL n.toNat l).length := (by omega); have hpl2 : (powL n.toNat (headL n.toNat l) k).length ≤ 12 := (by omega); have ej : j = l.length := (by omega)
       refine wp_exit (tx (tx (bx (tn ?_))))
       refine gI a17 s13 ok15 (gM q72 (gM q74 (gS rfl (fun E G H I J d0 d1 => rP (y_call _ Tryz.func49 rfl rfl my2 (product_fn ((powL n.toNat (headL n.toNat l) k)) ((headL n.toNat l)) _ _ _ (ed d0 rfl rfl rfl) (ed d1 rfl rfl rfl) (by first | assumption | omega) (by first | assumption | omega) (by first | assumption | omega)))) (gB 0 (gE ok15 fun a23 s19 ok21 D17 => ?_)))))
       have q131 : (Pr.own 2 30 1 (List.length (crs n.toNat l (k * l.length + j))) (List.map Ty.ints (crs n.toNat l (k * l.length + j)))).has s19 (a23.eval (.tmp 11)) := D17.ko q70 rfl
       refine bn (tn ?_)
       refine gI a23 s19 ok21 (gT (Ty.int (((k : Nat) : Int) + (1 : Int))) rfl (fun E G H I J => rP (y_add (kp (J 41 rfl) H (D17.kt q71 rfl)) rfl (w64 (by omega) (by omega)))) (gS rfl (fun E G H I J d0 => rP (y_move (ed d0 rfl rfl rfl))) (gE ok21 fun a24 s20 ok22 D18 => ?_)))
       have q137 : (Pr.own 2 30 1 (List.length (crs n.toNat l (k * l.length + j))) (List.map Ty.ints (crs n.toNat l (k * l.length + j)))).has s20 (a24.eval (.tmp 11)) := D18.ko q131 rfl
       exact tn ⟨(ordL (headL n.toNat l)) - ((k+1)), by omega, s20, (k+1), rfl, ((F15.step0 D17.stp).step0 D18.stp), ok22, (cvi (by (first | rfl | omega | (simp_all; done) | (simp_all; omega))) (D18.dn 1 rfl rfl)), (cvt (by (rfl)) (D18.kt (D17.dn 3 rfl rfl) rfl)), (cvo (by (rw [Nat.succ_mul, ej])) (by (rw [Nat.succ_mul, ej])) q137), (D18.kt (D17.kt q73 rfl) rfl), (D18.kt (D17.kt q74 rfl) rfl), (D18.kt (D17.kt q75 rfl) rfl), by omega, rfl⟩
    ·
     refine wp_exit (tx (tx (bx (tn (wp_seq ?_)))))
     refine gI a13 s11 ok12 (gT (Ty.val (a13.eval (.tmp 11))) rfl (fun E G H I J => rP (y_move (J 11 rfl))) (gB 0 (gC (Ty.int (0 : Int)) (gE ok12 fun a25 s21 ok23 D19 => ?_))))
     have q143 : (Pr.own 2 30 1 (List.length (crs n.toNat l (k * l.length))) (List.map Ty.ints (crs n.toNat l (k * l.length)))).has s21 (a25.eval (.tmp 2)) := al (show _ = _ from D19.done 1) ((Pr.own 2 30 1 (List.length (crs n.toNat l (k * l.length))) (List.map Ty.ints (crs n.toNat l (k * l.length)))).up D19.stp q46)
     refine tn (wp_ret ?_)
     obtain ⟨t5, e1, h1, q145⟩ := Own.seal q143 (by decide)
     rw [← e1]
     have F24 := (F12.step0 D19.stp).step h1 (by decide); have q146 := Ty.up (Ty.int (0 : Int)) (h1.le (by decide)) (D19.dn 2 rfl rfl)
     exact ret2 rfl ok23 F24 (cvt (by (rw [hcm, if_pos rfl]; obtain rfl : k = ordL (headL n.toNat l) := (by omega); rfl)) q145) (cvi (by (exact hcm.symm)) q146)


set_option maxHeartbeats 4000000 in
set_option maxRecDepth 100000 in
theorem methodCourse_fn (nm : ByteArray) (n : Int) (l : List (List Int)) (w_ : List (List Int)) (K : Nat) (σ : GW)  (v0 v1 v2 : Value) (hv0 : Ty.has (Ty.agg [(Ty.val (Value.string nm)), (Ty.int n), (Ty.lst Ty.ints l)]) σ v0) (hv1 : Ty.has (Ty.lst Ty.ints w_) σ v1) (hv2 : Ty.has (Ty.nat K) σ v2)  (hnm : nm.size ≤ 1099511627776) (hn : -9223372036854775808 ≤ n ∧ n ≤ 9223372036854775807) (h0 : methMay nm n l = 0) (hK : K = ordL (headL n.toNat l)) :
    FnC Tryz.prog 23 #[v0, v1, v2] σ (Ty.bool true) := by
 obtain ⟨hmo, hnn⟩ := methMay_ok' h0; have hm1 := hmo.n1; have hm2 := hmo.n2; have hml := hmo.l2; have hml1 := hmo.l1; have hrl := roundsL_len n.toNat; have hfl := fromL_len (roundsL n.toNat) l; obtain ⟨hhr, hhl⟩ := hmo.head; have hrm := rowMay_ok.2 hhr; have hol := ordTo_le hhr _ (Nat.le_refl _)
 have hox : ordL (headL n.toNat l) * l.length ≤ 27720 * 200 := Nat.mul_le_mul (by unfold ordL; omega) hml; have hob : ordL (headL n.toNat l) ≤ 27720 := hol.2
 rw [← hK] at hox hob
 have hok : ∀ k, k < l.length → okL 0 (l.getD k []) (roundsL n.toNat).length := (fun k hk => by rw [hrl]; exact hmo.ok k hk)
 refine fn_intro0 Tryz.func23 rfl Tryz.ntmps23 (Nat.le_of_ble_eq_true rfl) (fun s0 a0 hle F0 ok0 hargs => ?_)
 have p0 := pA hle (hargs 0 _ rfl) hv0
 have p1 := pA hle (hargs 1 _ rfl) hv1
 have b1 := sl_le p1
 have p2 := pA hle (hargs 2 _ rfl) hv2
 clear hargs; refine wp_seq ?_
 refine gI a0 s0 ok0 (gS rfl (fun E G H I J => rP (y_boxagg (kp (J 0 rfl) H p0))) (gC (Ty.bool false) (gE ok0 fun a1 s1 ok1 D1 => ?_))); have q2 := D1.dn 0 rfl rfl; refine tn (wp_seq ?_)
 refine gI a1 s1 ok1 (gS rfl (fun E G H I J => rP (y_loadagg Tryz.underlying24 Tryz.inf24 (kp (J 3 rfl) H q2))) (gS rfl (fun E G H I J d0 => rP (y_call _ Tryz.func43 rfl rfl my1 (course_fn (nm) (n) (l) _ _ (ed d0 rfl rfl rfl) (by first | omega | assumption) (by first | omega | assumption)))) (gS rfl (fun E G H I J d0 => rP (y_move (ed d0 rfl rfl rfl))) (gT (Ty.lst Ty.ints (if courseMay nm n l = 0 then crs n.toNat l (ordL (headL n.toNat l) * l.length) else [])) rfl (fun E G H I J d0 => rP (y_ext2_0 (ed d0 rfl rfl rfl))) (gT (Ty.int (courseMay nm n l)) rfl (fun E G H I J d0 d1 => rP (y_ext2_1 (ed d0 rfl rfl rfl))) (gB 0 (gB 0 (gE ok1 fun a2 s2 ok2 D2 => ?_)))))))); have q3 := D2.kt (D1.kt p2 rfl) rfl; have q4 := D2.kt q2 rfl; refine tn (wp_seq (wp_seq ?_))
 refine gI a2 s2 ok2 (gM q3 (gS rfl (fun E G H I J => rP (y_field Tryz.fld24_2 Tryz.inf22 (by decide) (kp (J 3 rfl) H q4) rfl)) (gS rfl (fun E G H I J d0 => rP (y_load Tryz.underlying22 rfl (ed d0 rfl rfl rfl) rfl)) (gS rfl (fun E G H I J d0 => rP (y_len Tryz.underlying22 (ed d0 rfl rfl rfl))) (gT (Ty.nat (K * (List.length l))) rfl (fun E G H I J d0 d1 => rP ((y_mul (ed d0 rfl rfl rfl) (ed d1 rfl rfl rfl) (w64 (by omega) (by omega))).mono (fun τ _ h => cvi (σ := τ) (by first | omega | exact (Int.natCast_mul _ _).symm) h))) (gS rfl (fun E G H I J d0 => rP (y_gtr (ed d0 rfl rfl rfl) rfl)) (gE ok2 fun a3 s3 ok3 D3 => ?_))))))); have F3 := ((F0.step0 D1.stp).step0 D2.stp).step0 D3.stp; have q7 := D3.kt q3 rfl; have q8 := D3.kt q4 rfl; have q9 := D3.kt (D2.dn 5 rfl rfl) rfl; have q10 := D3.kt (D2.dn 6 rfl rfl) rfl; refine tn ?_
 refine cond_p (p := ((20000 : Int) < (((K * (List.length l)) : Nat) : Int))) (D3.dn 5 rfl rfl) (fun c1 => ?_) (fun c1 => ?_)
 ·
  have hcm : courseMay nm n l = 3 := (by unfold courseMay; rw [if_neg (fun e => e h0), ← hK, if_pos (by omega)])
  refine wp_seq ?_
  refine gI a3 s3 ok3 (gM q10 (gS rfl (fun E G H I J d0 => rP (y_eql (ed d0 rfl rfl rfl) rfl)) (gS rfl (fun E G H I J d0 => rP (y_move (ed d0 rfl rfl rfl))) (gS rfl (fun E G H I J d0 => gu I (ed d0 rfl rfl rfl) fun hg => y_move (kp (J 7 rfl) H q9)) (gS rfl (fun E G H I J d0 d1 => gu I (ed d1 rfl rfl rfl) fun hg => y_len Tryz.underlying22 ((ed d0 rfl rfl rfl).1 hg)) (gS rfl (fun E G H I J d0 d1 => gu I (ed d1 rfl rfl rfl) fun hg => y_eql ((ed d0 rfl rfl rfl).1 hg) rfl) (gS rfl (fun E G H I J d0 d1 => rP (y_pick_and (ed d0 rfl rfl rfl) (ed d1 rfl rfl rfl) rfl)) (gB 0 (gE ok3 fun a4 s4 ok4 D4 => ?_))))))))); refine tn (wp_ret (tr ?_))
  exact retL1 rfl ok4 (F3.step0 D4.stp) (cvb (by (rw [hcm]; simp)) (D4.dn 7 rfl rfl))
 ·
  have hcm : courseMay nm n l = 0 := (by unfold courseMay; rw [if_neg (fun e => e h0), ← hK, if_neg (by omega)])
  refine wp_skip (tn (wp_seq (wp_seq ?_)))
  refine gI a3 s3 ok3 (gM q7 (gS rfl (fun E G H I J => rP (y_field Tryz.fld24_2 Tryz.inf22 (by decide) (kp (J 3 rfl) H q8) rfl)) (gS rfl (fun E G H I J d0 => rP (y_load Tryz.underlying22 rfl (ed d0 rfl rfl rfl) rfl)) (gS rfl (fun E G H I J d0 => rP (y_len Tryz.underlying22 (ed d0 rfl rfl rfl))) (gT (Ty.nat (K * (List.length l))) rfl (fun E G H I J d0 d1 => rP ((y_mul (ed d0 rfl rfl rfl) (ed d1 rfl rfl rfl) (w64 (by omega) (by omega))).mono (fun τ _ h => cvi (σ := τ) (by first | omega | exact (Int.natCast_mul _ _).symm) h))) (gS rfl (fun E G H I J d0 => rP (y_gtr (ed d0 rfl rfl rfl) rfl)) (gE ok3 fun a5 s5 ok5 D5 => ?_))))))); have F5 := F3.step0 D5.stp; have q13 := D5.kt q7 rfl; have q14 := D5.kt q8 rfl; have q15 := D5.kt q9 rfl; have q16 := D5.kt q10 rfl; refine tn ?_
  refine cond_p (p := ((1000 : Int) < (((K * (List.length l)) : Nat) : Int))) (D5.dn 5 rfl rfl) (fun c2 => ?_) (fun c2 => ?_)
  ·
   refine wp_seq ?_
   refine gI a5 s5 ok5 (gM q16 (gS rfl (fun E G H I J d0 => rP (y_eql (ed d0 rfl rfl rfl) rfl)) (gS rfl (fun E G H I J d0 => rP (y_move (ed d0 rfl rfl rfl))) (gS rfl (fun E G H I J d0 => gu I (ed d0 rfl rfl rfl) fun hg => y_move (kp (J 7 rfl) H q15)) (gS rfl (fun E G H I J d0 d1 => gu I (ed d1 rfl rfl rfl) fun hg => y_len Tryz.underlying22 ((ed d0 rfl rfl rfl).1 hg)) (gS rfl (fun E G H I J d0 => gu I (ed d0 rfl rfl rfl) fun hg => y_move (kp (J 2 rfl) H q13)) (gS rfl (fun E G H I J d0 => gut I (ed d0 rfl rfl rfl) fun hg hp => y_field Tryz.fld24_2 Tryz.inf22 (by decide) (kp (J 3 rfl) H q14) rfl) (gS rfl (fun E G H I J d0 d1 => gu I (ed d1 rfl rfl rfl) fun hg => y_load Tryz.underlying22 rfl ((ed d0 rfl rfl rfl).1 hg) rfl) (gS rfl (fun E G H I J d0 d1 => gu I (ed d1 rfl rfl rfl) fun hg => y_len Tryz.underlying22 ((ed d0 rfl rfl rfl).1 hg)) (gT (Ty.grd ((decide ((courseMay nm n l) = (0 : Int))) = true) (Ty.nat (K * (List.length l)))) rfl (fun E G H I J d0 d1 d2 => gut I (ed d2 rfl rfl rfl) fun hg hp => (y_mul ((ed d0 rfl rfl rfl).1 hg) ((ed d1 rfl rfl rfl).1 hg) (w64 (by omega) (by omega))).mono (fun τ _ h => cvi (σ := τ) (by first | omega | exact (Int.natCast_mul _ _).symm) h)) (gS rfl (fun E G H I J d0 d1 d2 => gu I (ed d2 rfl rfl rfl) fun hg => y_eql ((ed d0 rfl rfl rfl).1 hg) ((ed d1 rfl rfl rfl).1 hg)) (gS rfl (fun E G H I J d0 d1 => rP (y_pick_and (ed d0 rfl rfl rfl) (ed d1 rfl rfl rfl) rfl)) (gB 0 (gE ok5 fun a6 s6 ok6 D6 => ?_)))))))))))))); refine tn (wp_ret (tr ?_))
   exact retL1 rfl ok6 (F5.step0 D6.stp) (cvb (by (rw [hcm, if_pos rfl, crs_len, hK]; simp)) (D6.dn 12 rfl rfl))
  ·
   refine wp_skip (tn (wp_seq ?_))
   refine gI a5 s5 ok5 (gC (Ty.val (Value.slice none 0 0)) (gE ok5 fun a7 s7 ok7 D7 => ?_)); have q20 := D7.kt q14 rfl; refine tn (wp_seq ?_)
   refine gI a7 s7 ok7 (gS rfl (fun E G H I J => rP (y_field Tryz.fld24_1 Tryz.inf3 (by decide) (kp (J 3 rfl) H q20) rfl)) (gS rfl (fun E G H I J d0 => rP (y_load Tryz.underlying3 rfl (ed d0 rfl rfl rfl) rfl)) (gS rfl (fun E G H I J d0 => rP (y_call _ Tryz.func15 rfl rfl my1 (rRounds_fn ((n).toNat) _ _ (cvi (σ := G) (by omega) (ed d0 rfl rfl rfl)) (by omega)))) (gB 0 (gE ok7 fun a8 s8 ok8 D8 => ?_))))); refine tn (wp_seq (wp_seq ?_))
   refine gI a8 s8 ok8 (gC (Ty.int (0 : Int)) (gE ok8 fun a9 s9 ok9 D9 => ?_)); refine tn (wp_block ?_)
   have o1 : Own s9 5 30 1 (Value.slice none 0 0) 0 (List.map Ty.ints ([] : List (List Int))) := Own.nil _ _ _ _
   refine loop (fun n1 a10 w1 => ∃ (t1 : GW) (k : Nat) (x9_0 : Value), t1.w = w1 ∧ FromL [] s0 t1 ∧ Ok 81 [] a10 ∧ At (Ty.nat k) t1 a10 (.tmp 11) ∧ At (Ty.lst Ty.int (powL n.toNat (headL n.toNat l) k)) t1 a10 (.tmp 10) ∧ At (Ty.val x9_0) t1 a10 (.tmp 9) ∧ At (Ty.nat K) t1 a10 (.tmp 2) ∧ At (Ty.ref [(Ty.val (Value.string nm)), (Ty.int n), (Ty.lst Ty.ints l)]) t1 a10 (.tmp 3) ∧ At (Ty.lst Ty.ints (if courseMay nm n l = 0 then crs n.toNat l (ordL (headL n.toNat l) * l.length) else [])) t1 a10 (.tmp 7) ∧ At (Ty.int (courseMay nm n l)) t1 a10 (.tmp 8) ∧ Own t1 5 30 1 x9_0 (List.length (crs n.toNat l (k * l.length))) (List.map Ty.ints (crs n.toNat l (k * l.length))) ∧ (k ≤ K) ∧ n1 = K - k) (K - (0)) ?_ ?_
   ·
    exact ⟨s9, 0, (Value.slice none 0 0), rfl, (((F5.step0 D7.stp).step0 D8.stp).step0 D9.stp), ok9, (cvi (by (first | rfl | omega | (simp_all; done) | (simp_all; omega))) (D9.dn 0 rfl rfl)), (cvt (by (rfl)) (D9.kt (D8.dn 3 rfl rfl) rfl)), (D9.kt (D8.kt (D7.dn 0 rfl rfl) rfl) rfl), (D9.kt (D8.kt (D7.kt q13 rfl) rfl) rfl), (D9.kt (D8.kt q20 rfl) rfl), (D9.kt (D8.kt (D7.kt q15 rfl) rfl) rfl), (D9.kt (D8.kt (D7.kt q16 rfl) rfl) rfl), (cvo (by (simp [crs])) (by (simp [crs])) o1), by omega, rfl⟩
   ·
    rintro n2 a11 w2 ⟨t2, k, x9_0, rfl, F10, ok10, q37, q38, q39, q40, q41, q42, q43, o2, hk, rfl⟩
    refine wp_seq (wp_seq ?_)
    refine gI a11 t2 ok10 (gM q37 (gM q40 (gS rfl (fun E G H I J d0 d1 => rP (y_lss (ed d0 rfl rfl rfl) (ed d1 rfl rfl rfl))) (gE ok10 fun a12 s10 ok11 D10 => ?_)))); have F11 := F10.step0 D10.stp; have q44 := D10.kt q37 rfl; have q45 := D10.kt q38 rfl; have q46 := D10.kt q39 rfl; have q47 := D10.kt q40 rfl; have q48 := D10.kt q41 rfl; have q49 := D10.kt q42 rfl; have q50 := D10.kt q43 rfl; have o3 := Own.k0 o2 D10.stp; have q51 := D10.dn 2 rfl rfl; refine tn ?_
    refine cond_p (p := (((k : Nat) : Int) < ((K : Nat) : Int))) q51 (fun c3 => ?_) (fun c3 => ?_)
    ·
     have hpl := powL_len (n := n.toNat) hhl k; have hok2 : ∀ j, j < l.length → okL 0 (l.getD j []) (powL n.toNat (headL n.toNat l) k).length := (fun j hj => by rw [hpl]; exact hmo.ok j hj); have hfl2 := fromL_len (powL n.toNat (headL n.toNat l) k) l; have hcl := crs_len n.toNat l (k * l.length); have hmk : k * l.length ≤ K * l.length := Nat.mul_le_mul_right _ (by omega); have htk2 : (List.take ((((List.length (fromL (powL n.toNat (headL n.toNat l) k) l)) : Nat) : Int) - (1 : Int)).toNat (fromL (powL n.toNat (headL n.toNat l) k) l)).length = l.length := (by rw [List.length_take, hfl2]; omega)
     refine wp_skip (tn (wp_seq (wp_block (wp_seq ?_))))
     refine gI a12 s10 ok11 (gM q45 (gS rfl (fun E G H I J => rP (y_field Tryz.fld24_2 Tryz.inf22 (by decide) (kp (J 3 rfl) H q48) rfl)) (gS rfl (fun E G H I J d0 => rP (y_load Tryz.underlying22 rfl (ed d0 rfl rfl rfl) rfl)) (gS rfl (fun E G H I J d0 d1 => rP (y_call _ Tryz.func14 rfl rfl my2 (rFrom_fn ((powL n.toNat (headL n.toNat l) k)) (l) _ _ _ (ed d0 rfl rfl rfl) (ed d1 rfl rfl rfl) (by first | omega | assumption) (by first | omega | assumption) (by first | omega | assumption)))) (gB 0 (gE ok11 fun a13 s11 ok12 D11 => ?_)))))); have q53 := D11.kt q46 rfl; have o4 := Own.k0 o3 D11.stp; have q58 := D11.dn 4 rfl rfl; refine tn (wp_seq ?_)
     refine gI a13 s11 ok12 (gM q53 (gM q58 (gM q58 (gS rfl (fun E G H I J d0 => rP (y_len Tryz.underlying22 (ed d0 rfl rfl rfl))) (gT (Ty.int ((((List.length (fromL ((powL n.toNat (headL n.toNat l) k)) l)) : Nat) : Int) - (1 : Int))) rfl (fun E G H I J d0 => rP (y_sub (ed d0 rfl rfl rfl) rfl (w64 (by omega) (by omega)))) (gT (Ty.lst Ty.ints ((fromL ((powL n.toNat (headL n.toNat l) k)) l).take (((((List.length (fromL ((powL n.toNat (headL n.toNat l) k)) l)) : Nat) : Int) - (1 : Int))).toNat)) rfl (fun E G H I J d0 d1 => rP (y_take Tryz.underlying22 Tryz.inf30 (ed d0 rfl rfl rfl) (toN (σ := G) (ed d1 rfl rfl rfl) (by omega)) (by omega))) (gE2 ok12 fun a14 s12 ok13 D12 => ?_))))))); have o5 := Own.k0 o4 D12.stp
     have q66 : At (Ty.val x9_0) s12 a14 (.tmp 61) := D12.done 0 (by decide)
     have q67 := D12.dn 5 (by decide) rfl rfl
     have b2 := sl_le q67
     refine tL ok13 (YldM.toL (m_append Tryz.underlying22 Tryz.inf30 (by decide) rfl (by decide) (al (R := (Pr.own 5 30 1 (List.length (crs n.toNat l (k * l.length))) (List.map Ty.ints (crs n.toNat l (k * l.length))))) q66 o5) q67 (one_map (fun _ => one_sl)) (by omega) (by omega))) fun a15 s13 hs1 ok14 r1 sm1 => ?_
     have F14 := ((F11.step0 D11.stp).step0 D12.stp).stepL hs1 (by decide); have q68 := kpL hs1 (by decide) (sm1 11 (by decide)) (D12.kt (D11.kt q44 rfl) rfl); have q69 := kpL hs1 (by decide) (sm1 9 (by decide)) (D12.kt q53 rfl); have q70 := kpL hs1 (by decide) (sm1 2 (by decide)) (D12.kt (D11.kt q47 rfl) rfl); have q71 := kpL hs1 (by decide) (sm1 3 (by decide)) (D12.kt (D11.kt q48 rfl) rfl); have q72 := kpL hs1 (by decide) (sm1 7 (by decide)) (D12.kt (D11.kt q49 rfl) rfl); have q73 := kpL hs1 (by decide) (sm1 8 (by decide)) (D12.kt (D11.kt q50 rfl) rfl); have q74 := kpL hs1 (by decide) (sm1 12 (by decide)) (D12.kt q58 rfl)
     obtain ⟨x1, hx1⟩ : ∃ x, a15.eval (.tmp 67) = x := ⟨_, rfl⟩
     have q75 : At (Ty.val x1) s13 a15 (.tmp 67) := hx1
     have o6 := al2 (R := (Pr.own 5 30 1 (List.length ((crs n.toNat l (k * l.length)) ++ ((fromL ((powL n.toNat (headL n.toNat l) k)) l).take (((((List.length (fromL ((powL n.toNat (headL n.toNat l) k)) l)) : Nat) : Int) - (1 : Int))).toNat))) (List.map Ty.ints ((crs n.toNat l (k * l.length)) ++ ((fromL ((powL n.toNat (headL n.toNat l) k)) l).take (((((List.length (fromL ((powL n.toNat (headL n.toNat l) k)) l)) : Nat) : Int) - (1 : Int))).toNat))))) hx1 (cvo (by simp) (by first | (rw [List.map_append]; rfl) | simp) r1)
     clear r1
     refine tL ok14 (Yld.toL (y_as q75)) fun a16 s14 hs2 ok15 r2 sm2 => ?_
     have F15 := F14.stepL hs2 (by decide); have q76 := kpL hs2 (by decide) (sm2 11 (by decide)) q68; have q77 := kpL hs2 (by decide) (sm2 2 (by decide)) q70; have q78 := kpL hs2 (by decide) (sm2 3 (by decide)) q71; have q79 := kpL hs2 (by decide) (sm2 7 (by decide)) q72; have q80 := kpL hs2 (by decide) (sm2 8 (by decide)) q73; have q81 := kpL hs2 (by decide) (sm2 12 (by decide)) q74; have o7 := Own.keepL o6 hs2 (by decide) (by decide)
     have q82 : At (Ty.val x1) s14 a16 (.tmp 9) := r2
     clear r2; refine wpList_nil (tn ?_)
     refine gI a16 s14 ok15 (gM q81 (gM q81 (gS rfl (fun E G H I J d0 => rP (y_len Tryz.underlying22 (ed d0 rfl rfl rfl))) (gT (Ty.int ((((List.length (fromL ((powL n.toNat (headL n.toNat l) k)) l)) : Nat) : Int) - (1 : Int))) rfl (fun E G H I J d0 => rP (y_sub (ed d0 rfl rfl rfl) rfl (w64 (by omega) (by omega)))) (gT (Ty.ref [(Ty.lst Ty.int ((fromL ((powL n.toNat (headL n.toNat l) k)) l).getD (((((List.length (fromL ((powL n.toNat (headL n.toNat l) k)) l)) : Nat) : Int) - (1 : Int))).toNat []))]) rfl (fun E G H I J d0 d1 => rP (y_index1 Tryz.underlying22 Tryz.inf30 (ed d0 rfl rfl rfl) (ed d1 rfl rfl rfl) (by omega) (lst_get Ty.ints (fromL ((powL n.toNat (headL n.toNat l) k)) l) [] (((((List.length (fromL ((powL n.toNat (headL n.toNat l) k)) l)) : Nat) : Int) - (1 : Int))).toNat (by omega)))) (gS rfl (fun E G H I J d0 => rP (y_load Tryz.underlying30 rfl (ed d0 rfl rfl rfl) rfl)) (gB 0 (gE ok15 fun a17 s15 ok16 D13 => ?_)))))))); have o8 := Own.k0 o7 D13.stp; refine bn (tn ?_)
     refine gI a17 s15 ok16 (gM (D13.kt q76 rfl) (gT (Ty.nat (k + 1)) rfl (fun E G H I J d0 => rP ((y_add (ed d0 rfl rfl rfl) rfl (w64 (by omega) (by omega))).mono (fun τ _ h => cvi (σ := τ) (by first | omega | exact (Int.natCast_mul _ _).symm) h))) (gB 0 (gE ok16 fun a18 s16 ok17 D14 => ?_)))); have o9 := Own.k0 o8 D14.stp
     exact tn ⟨K - ((k+1)), by omega, s16, (k+1), x1, rfl, ((F15.step0 D13.stp).step0 D14.stp), ok17, (cvi (by (first | rfl | omega | (simp_all; done) | (simp_all; omega))) (D14.dn 2 rfl rfl)), (cvt (by (rw [lead_last hmo k (by omega)])) (D14.kt (D13.dn 6 rfl rfl) rfl)), (D14.kt (D13.kt q82 rfl) rfl), (D14.kt (D13.kt q77 rfl) rfl), (D14.kt (D13.kt q78 rfl) rfl), (D14.kt (D13.kt q79 rfl) rfl), (D14.kt (D13.kt q80 rfl) rfl), (cvo (by (rw [crs_lead hmo k (m := (((fromL (powL n.toNat (headL n.toNat l) k) l).length : Int) - 1).toNat) (by omega)])) (by (rw [crs_lead hmo k (m := (((fromL (powL n.toNat (headL n.toNat l) k) l).length : Int) - 1).toNat) (by omega)])) o9), by omega, rfl⟩
    ·
     refine wp_exit (tx (tx (bx (tn (wp_seq ?_)))))
     obtain ⟨t3, e1, h1, q97⟩ := Own.seal o3 (by decide)
     rw [← e1]
     have F18 := F11.step h1 (by decide); have q98 := Ty.up (Ty.nat k) (h1.le (by decide)) q44; have q99 := Ty.up (Ty.lst Ty.int (powL n.toNat (headL n.toNat l) k)) (h1.le (by decide)) q45
     have q100 : At (Ty.lst Ty.ints (crs n.toNat l (k * l.length))) t3 a12 (.tmp 9) := by have e : a12.eval (.tmp 9) = x9_0 := q46; show Ty.has _ _ _; rw [e]; exact q97
     have q101 := Ty.up (Ty.nat K) (h1.le (by decide)) q47; have q102 := Ty.up (Ty.ref [(Ty.val (Value.string nm)), (Ty.int n), (Ty.lst Ty.ints l)]) (h1.le (by decide)) q48; have q103 := Ty.up (Ty.lst Ty.ints (if courseMay nm n l = 0 then crs n.toNat l (ordL (headL n.toNat l) * l.length) else [])) (h1.le (by decide)) q49; have q104 := Ty.up (Ty.int (courseMay nm n l)) (h1.le (by decide)) q50; have q105 := Ty.up (Ty.bool (decide (((k : Nat) : Int) < ((K : Nat) : Int)))) (h1.le (by decide)) q51
     refine gI a12 t3 ok11 (gM q104 (gS rfl (fun E G H I J d0 => rP (y_eql (ed d0 rfl rfl rfl) rfl)) (gS rfl (fun E G H I J d0 => rP (y_move (ed d0 rfl rfl rfl))) (gS rfl (fun E G H I J d0 => gu I (ed d0 rfl rfl rfl) fun hg => y_move (kp (J 7 rfl) H q103)) (gS rfl (fun E G H I J d0 => gu I (ed d0 rfl rfl rfl) fun hg => y_move (kp (J 9 rfl) H q100)) (gS rfl (fun E G H I J d0 d1 d2 d3 => gut I (ed d2 rfl rfl rfl) fun hg hp => y_call _ Tryz.func17 rfl rfl my2 (rSameAll_fn ((if courseMay nm n l = 0 then crs n.toNat l (ordL (headL n.toNat l) * l.length) else [])) ((crs n.toNat l (k * l.length))) _ _ _ ((ed d0 rfl rfl rfl).1 hg) ((ed d1 rfl rfl rfl).1 hg) )) (gS rfl (fun E G H I J d0 d1 => rP (y_pick_and (ed d0 rfl rfl rfl) (ed d1 rfl rfl rfl) rfl)) (gB 0 (gE ok11 fun a19 s17 ok18 D15 => ?_))))))))); refine tn (wp_ret ?_)
     exact retL1 rfl ok18 (F18.step0 D15.stp) (cvb (by (rw [hcm, if_pos rfl, show k = K by omega, hK]; simp)) (D15.dn 7 rfl rfl))


set_option maxHeartbeats 4000000 in
set_option maxRecDepth 100000 in
theorem slIndexByte_fn (s : ByteArray) (c : Int) (σ : GW)  (v0 v1 : Value) (hv0 : Ty.has (Ty.val (Value.string s)) σ v0) (hv1 : Ty.has (Ty.val (Value.int .u8 c)) σ v1)   :
    FnC Tryz.prog 124 #[v0, v1] σ (Ty.int (Lib.indexByte (ByteArray.data s).toList (c).toNat.toUInt8)) := by
 refine fn_intro0 Tryz.func124 rfl Tryz.ntmps124 (Nat.le_of_ble_eq_true rfl) (fun s0 a0 hle F0 ok0 hargs => ?_)
 have p0 := pA hle (hargs 0 _ rfl) hv0
 have p1 := pA hle (hargs 1 _ rfl) hv1
 clear hargs; refine wp_seq ?_
 refine gI a0 s0 ok0 (gC (Ty.int (0 : Int)) (gE ok0 fun a1 s1 ok1 D1 => ?_)); refine tn (wp_seq ?_)
 refine gI a1 s1 ok1 (gM (D1.kt p0 rfl) (gM (D1.kt p1 rfl) (gT (Ty.int (Lib.indexByte (ByteArray.data s).toList (c).toNat.toUInt8)) rfl (fun E G H I J d0 d1 => rP (y_extern (R := (Ty.int (Lib.indexByte (ByteArray.data s).toList (c).toNat.toUInt8))) #[(Value.string s), (Value.int .u8 c)] (by simp only [List.map_toArray, List.map_cons, List.map_nil, (show E.eval (.tmp 5) = _ from (ed d0 rfl rfl rfl)), (show E.eval (.tmp 6) = _ from (ed d1 rfl rfl rfl))]) (by rw [run_callFunc_extern Tryz.func135 (by kernel_rfl) (by kernel_rfl) (by kernel_rfl) (e := Extern.BytealgIndexByte.indexByte) (by kernel_rfl), Lib.run_indexByteString]; rfl) rfl)) (gB 0 (gE ok1 fun a2 s2 ok2 D2 => ?_))))); refine tn (wp_ret ?_)
 exact retL1 rfl ok2 ((F0.step0 D1.stp).step0 D2.stp) (D2.dn 3 rfl rfl)


set_option maxHeartbeats 4000000 in
set_option maxRecDepth 100000 in
theorem slIndex_fn (s : ByteArray) (σ : GW)  (v0 v1 : Value) (hv0 : Ty.has (Ty.val (Value.string s)) σ v0) (hv1 : Ty.has (Ty.val (Value.string (ByteArray.mk #[124]))) σ v1)   :
    FnC Tryz.prog 112 #[v0, v1] σ (Ty.int (Lib.indexByte ((ByteArray.data s).toList) 124)) := by
 have hsp : (ByteArray.mk #[124]).size = 1 := rfl
 refine fn_intro0 Tryz.func112 rfl Tryz.ntmps112 (Nat.le_of_ble_eq_true rfl) (fun s0 a0 hle F0 ok0 hargs => ?_)
 have p0 := pA hle (hargs 0 _ rfl) hv0
 have p1 := pA hle (hargs 1 _ rfl) hv1
 clear hargs; refine wp_seq ?_
 refine gI a0 s0 ok0 (gC (Ty.int (0 : Int)) (gE ok0 fun a1 s1 ok1 D1 => ?_)); have q2 := D1.kt p1 rfl; refine tn (wp_seq ?_)
 refine gI a1 s1 ok1 (gM q2 (gT (Ty.nat (ByteArray.size (ByteArray.mk #[124]))) rfl (fun E G H I J d0 => rP (y_len_str Tryz.underlying9 (ed d0 rfl rfl rfl))) (gB 0 (gE ok1 fun a2 s2 ok2 D2 => ?_)))); have q3 := D2.kt (D1.kt p0 rfl) rfl; have q4 := D2.kt q2 rfl; have q5 := D2.dn 2 rfl rfl; refine tn (wp_seq (wp_block (wp_seq ?_)))
 refine gI a2 s2 ok2 (gM q5 (gS rfl (fun E G H I J d0 => rP (y_eql (ed d0 rfl rfl rfl) rfl)) (gS rfl (fun E G H I J d0 => rP (y_move (ed d0 rfl rfl rfl))) (gS rfl (fun E G H I J d0 => gu I (ed d0 rfl rfl rfl) fun hg => y_move (kp (J 1 rfl) H q4)) (gS rfl (fun E G H I J d0 => gu I (ed d0 rfl rfl rfl) fun hg => y_move (kp (J 0 rfl) H q3)) (gT (Ty.grd ((decide ((((ByteArray.size (ByteArray.mk #[124])) : Nat) : Int) = (0 : Int))) = false) (Ty.bool (decide ((ByteArray.mk #[124]) = s)))) rfl (fun E G H I J d0 d1 d2 => gu I (ed d2 rfl rfl rfl) fun hg => y_seql Tryz.underlying9 ((ed d0 rfl rfl rfl).1 hg) ((ed d1 rfl rfl rfl).1 hg)) (gS rfl (fun E G H I J d0 d1 => rP (y_pick_or (ed d0 rfl rfl rfl) rfl (ed d1 rfl rfl rfl))) (gB 0 (gE ok2 fun a3 s3 ok3 D3 => ?_))))))))); have F3 := ((F0.step0 D1.stp).step0 D2.stp).step0 D3.stp; refine tn ?_
 refine cond_t (D3.dn 7 rfl rfl) (fun c1 => ?_) (fun c1 => ?_)
 ·
  have hse : (ByteArray.mk #[124]) = s := (by simpa [hsp] using c1)
  refine wp_seq ?_
  refine gI a3 s3 ok3 (gC (Ty.int (0 : Int)) (gE ok3 fun a4 s4 ok4 D4 => ?_)); refine tn (wp_ret (br (tr ?_)))
  exact retL1 rfl ok4 (F3.step0 D4.stp) (cvi (by (rw [← hse]; rfl)) (D4.dn 0 rfl rfl))
 ·
  obtain ⟨d1, d2⟩ := Bool.or_eq_false_iff.mp c1
  replace d1 := of_decide_eq_false d1
  replace d2 := of_decide_eq_false d2
  refine wp_seq ?_
  refine gI a3 s3 ok3 (gM (D3.kt q5 rfl) (gS rfl (fun E G H I J d0 => rP (y_eql (ed d0 rfl rfl rfl) rfl)) (gB 0 (gE ok3 fun a5 s5 ok5 D5 => ?_)))); refine tn ?_
  refine cond_p (p := ((((ByteArray.size (ByteArray.mk #[124])) : Nat) : Int) = (1 : Int))) (D5.dn 2 rfl rfl) (fun c2 => ?_) (fun c2 => ?_)
  ·
   refine wp_seq ?_
   refine gI a5 s5 ok5 (gM (D5.kt (D3.kt q3 rfl) rfl) (gM (D5.kt (D3.kt q4 rfl) rfl) (gT (Ty.val (Value.int .u8 ((((ByteArray.mk #[124]).get! ((0 : Int)).toNat).toNat : Nat) : Int))) rfl (fun E G H I J d0 => rP (y_sindex Tryz.underlying9 (ed d0 rfl rfl rfl) rfl (by omega) (by omega))) (gS rfl (fun E G H I J d0 d1 => rP (y_call _ Tryz.func124 rfl rfl my2 (slIndexByte_fn (s) (((((ByteArray.mk #[124]).get! ((0 : Int)).toNat).toNat : Nat) : Int)) _ _ _ (ed d0 rfl rfl rfl) (cvi (σ := G) (by omega) (ed d1 rfl rfl rfl)) ))) (gB 0 (gE ok5 fun a6 s6 ok6 D6 => ?_)))))); refine tn (wp_ret (br (tr ?_)))
   exact retL1 rfl ok6 ((F3.step0 D5.stp).step0 D6.stp) (cvi (by (rfl)) (D6.dn 4 rfl rfl))
  ·
   exfalso
   exact c2 (by rw [hsp]; rfl)


set_option maxHeartbeats 4000000 in
set_option maxRecDepth 100000 in
theorem sIndex_fn (s : ByteArray) (σ : GW)  (v0 v1 : Value) (hv0 : Ty.has (Ty.val (Value.string s)) σ v0) (hv1 : Ty.has (Ty.val (Value.string (ByteArray.mk #[124]))) σ v1)   :
    FnC Tryz.prog 90 #[v0, v1] σ (Ty.int (Lib.indexByte ((ByteArray.data s).toList) 124)) := by
 refine fn_intro0 Tryz.func90 rfl Tryz.ntmps90 (Nat.le_of_ble_eq_true rfl) (fun s0 a0 hle F0 ok0 hargs => ?_)
 have p0 := pA hle (hargs 0 _ rfl) hv0
 have p1 := pA hle (hargs 1 _ rfl) hv1
 clear hargs; refine wp_seq ?_
 refine gI a0 s0 ok0 (gC (Ty.int (0 : Int)) (gE ok0 fun a1 s1 ok1 D1 => ?_)); refine tn (wp_seq ?_)
 refine gI a1 s1 ok1 (gM (D1.kt p0 rfl) (gM (D1.kt p1 rfl) (gS rfl (fun E G H I J d0 d1 => rP (y_call _ Tryz.func112 rfl rfl my2 (slIndex_fn (s) _ _ _ (ed d0 rfl rfl rfl) (ed d1 rfl rfl rfl) ))) (gB 0 (gE ok1 fun a2 s2 ok2 D2 => ?_))))); refine tn (wp_ret ?_)
 exact retL1 rfl ok2 ((F0.step0 D1.stp).step0 D2.stp) (D2.dn 3 rfl rfl)


set_option maxHeartbeats 4000000 in
set_option maxRecDepth 100000 in
theorem sCount_fn (s : ByteArray) (σ : GW)  (v0 v1 : Value) (hv0 : Ty.has (Ty.val (Value.string s)) σ v0) (hv1 : Ty.has (Ty.val (Value.string (ByteArray.mk #[124]))) σ v1)   :
    FnC Tryz.prog 89 #[v0, v1] σ (Ty.int ((List.count (124 : UInt8) ((ByteArray.data s).toList) : Nat) : Int)) := by
 have hsp : (ByteArray.mk #[124]).size = 1 := rfl
 refine fn_intro0 Tryz.func89 rfl Tryz.ntmps89 (Nat.le_of_ble_eq_true rfl) (fun s0 a0 hle F0 ok0 hargs => ?_)
 have p0 := pA hle (hargs 0 _ rfl) hv0
 have p1 := pA hle (hargs 1 _ rfl) hv1
 clear hargs; refine wp_seq ?_
 refine gI a0 s0 ok0 (gC (Ty.int (0 : Int)) (gE ok0 fun a1 s1 ok1 D1 => ?_)); have q2 := D1.kt p1 rfl; refine tn (wp_seq (wp_seq ?_))
 refine gI a1 s1 ok1 (gM q2 (gT (Ty.nat (ByteArray.size (ByteArray.mk #[124]))) rfl (fun E G H I J d0 => rP (y_len_str Tryz.underlying9 (ed d0 rfl rfl rfl))) (gS rfl (fun E G H I J d0 => rP (y_eql (ed d0 rfl rfl rfl) rfl)) (gE ok1 fun a2 s2 ok2 D2 => ?_)))); have q4 := D2.kt q2 rfl; refine tn ?_
 refine cond_p (p := ((((ByteArray.size (ByteArray.mk #[124])) : Nat) : Int) = (0 : Int))) (D2.dn 2 rfl rfl) (fun c1 => ?_) (fun c1 => ?_)
 ·
  exfalso
  rw [hsp] at c1; cases c1
 ·
  refine wp_skip (tn (wp_seq (wp_seq ?_)))
  refine gI a2 s2 ok2 (gM q4 (gT (Ty.nat (ByteArray.size (ByteArray.mk #[124]))) rfl (fun E G H I J d0 => rP (y_len_str Tryz.underlying9 (ed d0 rfl rfl rfl))) (gS rfl (fun E G H I J d0 => rP (y_eql (ed d0 rfl rfl rfl) rfl)) (gE ok2 fun a3 s3 ok3 D3 => ?_)))); refine tn ?_
  refine cond_p (p := ((((ByteArray.size (ByteArray.mk #[124])) : Nat) : Int) = (1 : Int))) (D3.dn 2 rfl rfl) (fun c2 => ?_) (fun c2 => ?_)
  ·
   refine wp_seq ?_
   refine gI a3 s3 ok3 (gM (D3.kt (D2.kt (D1.kt p0 rfl) rfl) rfl) (gM (D3.kt q4 rfl) (gT (Ty.val (Value.int .u8 ((((ByteArray.mk #[124]).get! ((0 : Int)).toNat).toNat : Nat) : Int))) rfl (fun E G H I J d0 => rP (y_sindex Tryz.underlying9 (ed d0 rfl rfl rfl) rfl (by omega) (by omega))) (gT (Ty.int ((Lib.countByte (ByteArray.data s).toList ((((((ByteArray.mk #[124]).get! ((0 : Int)).toNat).toNat : Nat) : Int))).toNat.toUInt8 : Nat) : Int)) rfl (fun E G H I J d0 d1 => rP (y_extern (R := (Ty.int ((Lib.countByte (ByteArray.data s).toList ((((((ByteArray.mk #[124]).get! ((0 : Int)).toNat).toNat : Nat) : Int))).toNat.toUInt8 : Nat) : Int))) #[(Value.string s), (Value.int .u8 ((((ByteArray.mk #[124]).get! ((0 : Int)).toNat).toNat : Nat) : Int))] (by simp only [List.map_toArray, List.map_cons, List.map_nil, (show E.eval (.tmp 16) = _ from (ed d0 rfl rfl rfl)), (show E.eval (.tmp 18) = _ from (ed d1 rfl rfl rfl))]) (by rw [run_callFunc_extern Tryz.func111 (by kernel_rfl) (by kernel_rfl) (by kernel_rfl) (e := Extern.BytealgCount.count) (by kernel_rfl), Lib.run_countString]; rfl) rfl)) (gB 0 (gE ok3 fun a4 s4 ok4 D4 => ?_)))))); refine tn (wp_ret (tr ?_))
   exact retL1 rfl ok4 ((((F0.step0 D1.stp).step0 D2.stp).step0 D3.stp).step0 D4.stp) (cvi (by (rfl)) (D4.dn 4 rfl rfl))
  ·
   exfalso
   exact c2 (by rw [hsp]; rfl)


set_option maxHeartbeats 4000000 in
set_option maxRecDepth 100000 in
theorem genSplit_fn (s : ByteArray) (σ : GW)  (v0 v1 v2 v3 : Value) (hv0 : Ty.has (Ty.val (Value.string s)) σ v0) (hv1 : Ty.has (Ty.val (Value.string (ByteArray.mk #[124]))) σ v1) (hv2 : Ty.has (Ty.nat 0) σ v2) (hv3 : Ty.has (Ty.int (-1 : Int)) σ v3)  (hss : s.size ≤ 1099511627776) :
    FnC Tryz.prog 70 #[v0, v1, v2, v3] σ (Ty.lst Ty.str (cutT 124 s)) := by
 have hsp : (ByteArray.mk #[124]).size = 1 := rfl
 obtain ⟨L, hL⟩ : ∃ L, L = s.data.toList := ⟨_, rfl⟩
 have hLs : L.length = s.size := by rw [hL]; simp
 have hcl : List.count (124 : UInt8) L ≤ L.length := List.count_le_length
 obtain ⟨N, hN⟩ : ∃ N : Nat, N = List.count (124 : UInt8) L := ⟨_, rfl⟩
 refine fn_intro0 Tryz.func70 rfl Tryz.ntmps70 (Nat.le_of_ble_eq_true rfl) (fun s0 a0 hle F0 ok0 hargs => ?_)
 have p0 := pA hle (hargs 0 _ rfl) hv0
 have p1 := pA hle (hargs 1 _ rfl) hv1
 have p2 := pA hle (hargs 2 _ rfl) hv2
 have p3 := pA hle (hargs 3 _ rfl) hv3
 clear hargs; refine wp_seq ?_
 refine gI a0 s0 ok0 (gC (Ty.val (Value.slice none 0 0)) (gE ok0 fun a1 s1 ok1 D1 => ?_)); have q4 := D1.kt p3 rfl; refine tn (wp_seq (wp_seq ?_))
 refine gI a1 s1 ok1 (gM q4 (gT (Ty.bool false) rfl (fun E G H I J d0 => rP ((y_eql (ed d0 rfl rfl rfl) rfl).mono (fun τ _ h => cvb (σ := τ) (by decide) h))) (gE ok1 fun a2 s2 ok2 D2 => ?_))); have q6 := D2.kt (D1.kt p1 rfl) rfl; refine tn ?_
 refine cond_t (D2.dn 1 rfl rfl) (fun c1 => (by cases c1)) (fun _ => ?_)
 refine wp_skip (tn (wp_seq (wp_seq ?_)))
 refine gI a2 s2 ok2 (gM q6 (gT (Ty.bool (decide ((ByteArray.mk #[124]) = (ByteArray.mk #[])))) rfl (fun E G H I J d0 => rP (y_seql Tryz.underlying9 (ed d0 rfl rfl rfl) rfl)) (gE ok2 fun a3 s3 ok3 D3 => ?_))); refine tn ?_
 refine cond_p (p := ((ByteArray.mk #[124]) = (ByteArray.mk #[]))) (D3.dn 1 rfl rfl) (fun c2 => ?_) (fun c2 => ?_)
 ·
  exfalso
  cases c2
 ·
  refine wp_skip (tn (wp_seq (wp_seq ?_)))
  refine gI a3 s3 ok3 (gM (D3.kt (D2.kt q4 rfl) rfl) (gT (Ty.bool true) rfl (fun E G H I J d0 => rP ((y_lss (ed d0 rfl rfl rfl) rfl).mono (fun τ _ h => cvb (σ := τ) (by decide) h))) (gE ok3 fun a4 s4 ok4 D4 => ?_))); have q15 := D4.kt (D3.kt (D2.kt (D1.kt p0 rfl) rfl) rfl) rfl; have q16 := D4.kt (D3.kt q6 rfl) rfl; refine tn ?_
  refine cond_t (D4.dn 1 rfl rfl) (fun _ => ?_) (fun c3 => (by cases c3))
  refine gI a4 s4 ok4 (gM q15 (gM q16 (gT (Ty.nat N) rfl (fun E G H I J d0 d1 => rP ((y_call _ Tryz.func89 rfl rfl my2 (sCount_fn (s) _ _ _ (ed d0 rfl rfl rfl) (ed d1 rfl rfl rfl) )).mono (fun τ _ h => cvt (σ := τ) (T := (Ty.int ((List.count (124 : UInt8) ((ByteArray.data s).toList) : Nat) : Int))) (U := (Ty.nat N)) (by rw [hN, hL]) h))) (gT (Ty.nat (N + 1)) rfl (fun E G H I J d0 => rP ((y_add (ed d0 rfl rfl rfl) rfl (w64 (by omega) (by omega))).mono (fun τ _ h => cvi (σ := τ) (by first | omega | exact (Int.natCast_mul _ _).symm) h))) (gB 0 (gE ok4 fun a5 s5 ok5 D5 => ?_)))))); have q20 := D5.kt q15 rfl; refine tn (wp_seq ?_)
  refine gI a5 s5 ok5 (gM (D5.dn 4 rfl rfl) (gM q20 (gT (Ty.nat (ByteArray.size s)) rfl (fun E G H I J d0 => rP (y_len_str Tryz.underlying9 (ed d0 rfl rfl rfl))) (gT (Ty.nat ((ByteArray.size s) + 1)) rfl (fun E G H I J d0 => rP ((y_add (ed d0 rfl rfl rfl) rfl (w64 (by omega) (by omega))).mono (fun τ _ h => cvi (σ := τ) (by first | omega | exact (Int.natCast_mul _ _).symm) h))) (gT (Ty.int (min (((N + 1) : Nat) : Int) ((((ByteArray.size s) + 1) : Nat) : Int))) rfl (fun E G H I J d0 d1 => rP (y_min (ed d0 rfl rfl rfl) (ed d1 rfl rfl rfl))) (gB 0 (gE ok5 fun a6 s6 ok6 D6 => ?_)))))))
  have q28 : At (Ty.nat (N + 1)) s6 a6 (.tmp 3) := (cvi (by (omega)) (D6.dn 5 rfl rfl))
  refine tn (wp_seq ?_)
  refine gI a6 s6 ok6 (gM q28 (gR (Pr.own 61 9 1 (N + 1) (List.map Ty.str (List.replicate (N + 1) ByteArray.empty))) rfl (by intro E G H I J d0 d1; have e0 := ed d0 rfl rfl rfl; exact rP ((y_make (k := 61) (T := Ty.str ByteArray.empty) (n := (N + 1)) Tryz.underlying86 Tryz.inf9 rfl (fun _ => rfl) e0 e0 (by omega) (by omega)).mono (fun _ _ h => cvo (by simp) (by simp) h))) (gE2 ok6 fun a7 s7 ok7 D7 => ?_)))
  obtain ⟨x1, hx1⟩ : ∃ x, a7.eval (.tmp 31) = x := ⟨_, rfl⟩
  have q33 : At (Ty.val x1) s7 a7 (.tmp 31) := hx1
  have o1 := al2 (R := (Pr.own 61 9 1 (N + 1) (List.map Ty.str (List.replicate (N + 1) ByteArray.empty)))) hx1 (D7.done 1 (by decide))
  refine tL ok7 (Yld.toL (y_as q33)) fun a8 s8 hs1 ok8 r1 sm1 => ?_
  have F8 := (((((((F0.step0 D1.stp).step0 D2.stp).step0 D3.stp).step0 D4.stp).step0 D5.stp).step0 D6.stp).step0 D7.stp).stepL hs1 (by decide); have q34 := kpL hs1 (by decide) (sm1 0 (by decide)) (D7.kt (D6.kt q20 rfl) rfl); have q35 := kpL hs1 (by decide) (sm1 1 (by decide)) (D7.kt (D6.kt (D5.kt q16 rfl) rfl) rfl); have q36 := kpL hs1 (by decide) (sm1 2 (by decide)) (D7.kt (D6.kt (D5.kt (D4.kt (D3.kt (D2.kt (D1.kt p2 rfl) rfl) rfl) rfl) rfl) rfl) rfl); have q37 := kpL hs1 (by decide) (sm1 3 (by decide)) (D7.kt q28 rfl); have o2 := Own.keepL o1 hs1 (by decide) (by decide)
  have q38 : At (Ty.val x1) s8 a8 (.tmp 9) := r1
  clear r1; refine wpList_nil (tn (wp_seq ?_))
  refine gI a8 s8 ok8 (gM q37 (gT (Ty.int ((((N + 1) : Nat) : Int) - (1 : Int))) rfl (fun E G H I J d0 => rP (y_sub (ed d0 rfl rfl rfl) rfl (w64 (by omega) (by omega)))) (gB 0 (gE ok8 fun a9 s9 ok9 D8 => ?_)))); have o3 := Own.k0 o2 D8.stp
  have q44 : At (Ty.nat N) s9 a9 (.tmp 3) := (cvi (by (omega)) (D8.dn 2 rfl rfl))
  refine tn (wp_seq ?_)
  refine gI a9 s9 ok9 (gC (Ty.int (0 : Int)) (gE ok9 fun a10 s10 ok10 D9 => ?_)); have o4 := Own.k0 o3 D9.stp; refine tn (wp_seq (wp_block ?_))
  refine loop (fun n1 a11 w1 => ∃ (t1 : GW) (i : Nat) (l : List UInt8) (ys : List ByteArray) (x9_0 : Value), t1.w = w1 ∧ FromL [] s0 t1 ∧ Ok 66 [] a11 ∧ At (Ty.val (Value.string (bsL l))) t1 a11 (.tmp 0) ∧ At (Ty.nat i) t1 a11 (.tmp 10) ∧ At (Ty.val x9_0) t1 a11 (.tmp 9) ∧ At (Ty.val (Value.string (ByteArray.mk #[124]))) t1 a11 (.tmp 1) ∧ At (Ty.nat 0) t1 a11 (.tmp 2) ∧ At (Ty.nat N) t1 a11 (.tmp 3) ∧ Own t1 61 9 1 x9_0 (List.length ys) (List.map Ty.str ys) ∧ ((ys.take i) ++ (cutL 124 l).map bsL = cutT 124 s) ∧ (i + List.count (124 : UInt8) l = N) ∧ (ys.length = N + 1) ∧ (l.length ≤ s.size) ∧ n1 = N + 1 - i) (N + 1 - (0)) ?_ ?_
  ·
   exact ⟨s10, 0, L, (List.replicate (N + 1) ByteArray.empty), x1, rfl, ((F8.step0 D8.stp).step0 D9.stp), ok10, (cvt (by (rw [hL, bsL_data])) (D9.kt (D8.kt q34 rfl) rfl)), (cvi (by (rfl)) (D9.dn 0 rfl rfl)), (D9.kt (D8.kt q38 rfl) rfl), (D9.kt (D8.kt q35 rfl) rfl), (D9.kt (D8.kt q36 rfl) rfl), (D9.kt q44 rfl), (cvo (by (first | rfl | simp)) (by (first | rfl | simp)) o4), by rw [hL]; rfl, by omega, by simp, by omega, rfl⟩
  ·
   rintro n2 a12 w2 ⟨t2, i, l, ys, x9_0, rfl, F11, ok11, q51, q52, q53, q54, q55, q56, o5, hq, hi, hy, hll, rfl⟩
   have hbs := bsL_size l
   refine wp_seq (wp_seq ?_)
   refine gI a12 t2 ok11 (gM q52 (gM q56 (gS rfl (fun E G H I J d0 d1 => rP (y_lss (ed d0 rfl rfl rfl) (ed d1 rfl rfl rfl))) (gE ok11 fun a13 s11 ok12 D10 => ?_)))); have F12 := F11.step0 D10.stp; have q57 := D10.kt q51 rfl; have q58 := D10.kt q52 rfl; have q59 := D10.kt q53 rfl; have q60 := D10.kt q54 rfl; have o6 := Own.k0 o5 D10.stp; refine tn ?_
   refine cond_p (p := (((i : Nat) : Int) < ((N : Nat) : Int))) (D10.dn 2 rfl rfl) (fun c4 => ?_) (fun c4 => ?_)
   ·
    have hix := Lib.indexByte_ge l 124
    refine wp_skip (tn (wp_block (wp_seq ?_)))
    refine gI a13 s11 ok12 (gM q57 (gM q60 (gT (Ty.int (Lib.indexByte l 124)) rfl (fun E G H I J d0 d1 => rP ((y_call _ Tryz.func90 rfl rfl my2 (sIndex_fn ((bsL l)) _ _ _ (ed d0 rfl rfl rfl) (ed d1 rfl rfl rfl) )).mono (fun τ _ h => cvt (σ := τ) (T := (Ty.int (Lib.indexByte ((ByteArray.data ((bsL l))).toList) 124))) (U := (Ty.int (Lib.indexByte l 124))) (by rw [data_bsL]) h))) (gB 0 (gE ok12 fun a14 s12 ok13 D11 => ?_))))); have o7 := Own.k0 o6 D11.stp; have q70 := D11.dn 3 rfl rfl; refine tn (wp_seq (wp_seq ?_))
    refine gI a14 s12 ok13 (gM q70 (gS rfl (fun E G H I J d0 => rP (y_lss (ed d0 rfl rfl rfl) rfl)) (gE ok13 fun a15 s13 ok14 D12 => ?_))); have F14 := (F12.step0 D11.stp).step0 D12.stp; have q71 := D12.kt (D11.kt q57 rfl) rfl; have q72 := D12.kt (D11.kt q58 rfl) rfl; have q73 := D12.kt (D11.kt q59 rfl) rfl; have q75 := D12.kt (D11.kt (D10.kt q55 rfl) rfl) rfl; have o8 := Own.k0 o7 D12.stp; refine tn ?_
    refine cond_p (p := ((Lib.indexByte l 124) < (0 : Int))) (D12.dn 1 rfl rfl) (fun c5 => ?_) (fun c5 => ?_)
    ·
     have hc0 : List.count (124 : UInt8) l = 0 := ix_count.1 (by omega); have hsl : (ys.set i (bsL l)).length = ys.length := List.length_set
     refine wp_exit (tx ?_)
     refine bo (by decide) ?_
     refine tx (bx (tn (wp_seq ?_)))
     refine gI a15 s13 ok14 (gM q73 (gM q72 (gM q71 (gT (Ty.val (cellPtr x9_0 i)) rfl (fun E G H I J d0 d1 d2 d3 d4 => rP (own_index1 (i := ((i : Nat) : Int)) Tryz.underlying86 Tryz.inf9 (Own.k0 o8 H) (ed d0 rfl rfl rfl) (ed d1 rfl rfl rfl) (by omega) (by omega))) (gE2 ok14 fun a16 s14 ok15 D13 => ?_))))); have o9 := Own.k0 o8 D13.stp
     refine tailL0 (L := [61]) (R := (fun _ τ => Own τ 61 9 1 x9_0 (List.length ys) ((List.map Ty.str ys).set i (Ty.val (Value.string (bsL l)))))) rfl rfl (YldM.toL (m_store Tryz.inf9 (by decide) o9 (D13.dn 3 (by decide) rfl rfl) (by simp only [List.length_map, List.length_set]; omega) (D13.dn 2 (by decide) rfl rfl) (one_val rfl))) (fun v1 s15 hs2 r2 => ?_)
     have F16 := (F14.step0 D13.stp).stepL hs2 (by decide); have q83 := kpL hs2 (by decide) rfl (D13.kt q72 rfl); have q84 := kpL hs2 (by decide) rfl (D13.kt q73 rfl)
     have o10 : Own s15 61 9 1 x9_0 (List.length (ys.set i (bsL l))) (List.map Ty.str (ys.set i (bsL l))) := (cvo (by simp) (by simp) r2)
     clear r2; refine wpList_nil (tn (wp_seq ?_))
     refine gI a16 s15 ok15 (gM q84 (gM q83 (gT (Ty.nat (i + 1)) rfl (fun E G H I J d0 => rP ((y_add (ed d0 rfl rfl rfl) rfl (w64 (by omega) (by omega))).mono (fun τ _ h => cvi (σ := τ) (by first | omega | exact (Int.natCast_mul _ _).symm) h))) (gR (Pr.own 61 9 1 (List.length ((ys.set i (bsL l)).take (i + 1))) (List.map Ty.str ((ys.set i (bsL l)).take (i + 1)))) rfl (by intro E G H I J d0 d1; exact rP ((y_otake (h := (i + 1)) Tryz.underlying86 Tryz.inf9 (Own.k0 o10 H) (ed d0 rfl rfl rfl) (ed d1 rfl rfl rfl) (by omega)).mono (fun _ _ h => own_lst_take (by omega) h))) (gE2 ok15 fun a17 s16 ok16 D14 => ?_))))); have o11 := Own.k0 o10 D14.stp
     obtain ⟨x2, hx2⟩ : ∃ x, a17.eval (.tmp 65) = x := ⟨_, rfl⟩
     have q86 : At (Ty.val x2) s16 a17 (.tmp 65) := hx2
     have o12 := al2 (R := (Pr.own 61 9 1 (List.length ((ys.set i (bsL l)).take (i + 1))) (List.map Ty.str ((ys.set i (bsL l)).take (i + 1))))) hx2 (D14.done 3 (by decide))
     refine tL ok16 (Yld.toL (y_as q86)) fun a18 s17 hs3 ok17 r3 sm2 => ?_
     have F18 := (F16.step0 D14.stp).stepL hs3 (by decide); have o13 := Own.keepL o11 hs3 (by decide) (by decide); have o14 := Own.keepL o12 hs3 (by decide) (by decide)
     have q87 : At (Ty.val x2) s17 a18 (.tmp 8) := r3
     clear r3; refine wpList_nil (tn (wp_ret ?_))
     obtain ⟨t3, e1, h1, q88⟩ := Own.seal o14 (by decide)
     rw [← e1]
     have F19 := F18.step h1 (by decide)
     have q89 : At (Ty.lst Ty.str ((ys.set i (bsL l)).take (i + 1))) t3 a18 (.tmp 8) := by have e : a18.eval (.tmp 8) = x2 := q87; show Ty.has _ _ _; rw [e]; exact q88
     exact retL1 rfl ok17 F19 (cvt (by (rw [sp_end hq hc0 (by omega)])) q89)
    ·
     obtain ⟨m, hm⟩ : ∃ m : Nat, Lib.indexByte l 124 = m := ⟨(Lib.indexByte l 124).toNat, by omega⟩; obtain ⟨hca, hml⟩ := count_at hm
     have q90 : At (Ty.nat m) s13 a15 (.tmp 11) := cvt (T := (Ty.int (Lib.indexByte l 124))) (U := (Ty.nat m)) (by rw [hm]) (D12.kt q70 rfl)
     refine wp_skip (tn (wp_seq ?_))
     refine gI a15 s13 ok14 (gM q73 (gM q72 (gM q71 (gM q90 (gM q75 (gT (Ty.nat (m + 0)) rfl (fun E G H I J d0 d1 => rP ((y_add (ed d0 rfl rfl rfl) (ed d1 rfl rfl rfl) (w64 (by omega) (by omega))).mono (fun τ _ h => cvi (σ := τ) (by first | omega | exact (Int.natCast_mul _ _).symm) h))) (gT (Ty.val (Value.string (ByteArray.extract (bsL l) 0 (m + 0)))) rfl (fun E G H I J d0 d1 => rP (y_sto (h := (m + 0)) Tryz.underlying9 (ed d0 rfl rfl rfl) (ed d1 rfl rfl rfl) (by omega))) (gT (Ty.val (cellPtr x9_0 i)) rfl (fun E G H I J d0 d1 d2 d3 d4 d5 d6 d7 d8 => rP (own_index1 (i := ((i : Nat) : Int)) Tryz.underlying86 Tryz.inf9 (Own.k0 o8 H) (ed d0 rfl rfl rfl) (ed d1 rfl rfl rfl) (by omega) (by omega))) (gE2 ok14 fun a19 s18 ok18 D15 => ?_))))))))); have o15 := Own.k0 o8 D15.stp
     refine tailL0 (L := [61]) (R := (fun _ τ => Own τ 61 9 1 x9_0 (List.length ys) ((List.map Ty.str ys).set i (Ty.val (Value.string (ByteArray.extract (bsL l) 0 (m + 0))))))) rfl rfl (YldM.toL (m_store Tryz.inf9 (by decide) o15 (D15.dn 7 (by decide) rfl rfl) (by simp only [List.length_map, List.length_set]; omega) (D15.dn 6 (by decide) rfl rfl) (one_val rfl))) (fun v2 s19 hs4 r4 => ?_)
     have F21 := (F14.step0 D15.stp).stepL hs4 (by decide); have q100 := kpL hs4 (by decide) rfl (D15.kt q71 rfl); have q101 := kpL hs4 (by decide) rfl (D15.kt q72 rfl); have q102 := kpL hs4 (by decide) rfl (D15.kt q73 rfl); have q103 := kpL hs4 (by decide) rfl (D15.kt (D12.kt (D11.kt q60 rfl) rfl) rfl); have q104 := kpL hs4 (by decide) rfl (D15.kt q75 rfl); have q105 := kpL hs4 (by decide) rfl (D15.kt (D12.kt (D11.kt (D10.kt q56 rfl) rfl) rfl) rfl); have q106 := kpL hs4 (by decide) rfl (D15.kt q90 rfl)
     have o16 : Own s19 61 9 1 x9_0 (List.length (ys.set i (ByteArray.extract (bsL l) 0 (m + 0)))) (List.map Ty.str (ys.set i (ByteArray.extract (bsL l) 0 (m + 0)))) := (cvo (by simp) (by simp) r4)
     clear r4; refine wpList_nil (tn (wp_seq ?_))
     refine gI a19 s19 ok18 (gM q100 (gM q106 (gM q103 (gT (Ty.nat (ByteArray.size (ByteArray.mk #[124]))) rfl (fun E G H I J d0 => rP (y_len_str Tryz.underlying9 (ed d0 rfl rfl rfl))) (gT (Ty.nat (m + (ByteArray.size (ByteArray.mk #[124])))) rfl (fun E G H I J d0 d1 => rP ((y_add (ed d0 rfl rfl rfl) (ed d1 rfl rfl rfl) (w64 (by omega) (by omega))).mono (fun τ _ h => cvi (σ := τ) (by first | omega | exact (Int.natCast_mul _ _).symm) h))) (gT (Ty.val (Value.string (ByteArray.extract (bsL l) (m + (ByteArray.size (ByteArray.mk #[124]))) (ByteArray.size (bsL l))))) rfl (fun E G H I J d0 d1 => rP (y_sfrom (l := (m + (ByteArray.size (ByteArray.mk #[124])))) Tryz.underlying9 (ed d0 rfl rfl rfl) (ed d1 rfl rfl rfl) (by omega))) (gB 0 (gE ok18 fun a20 s20 ok19 D16 => ?_)))))))); have o17 := Own.k0 o16 D16.stp; refine tn ?_
     refine gI a20 s20 ok19 (gM (D16.kt q101 rfl) (gT (Ty.nat (i + 1)) rfl (fun E G H I J d0 => rP ((y_add (ed d0 rfl rfl rfl) rfl (w64 (by omega) (by omega))).mono (fun τ _ h => cvi (σ := τ) (by first | omega | exact (Int.natCast_mul _ _).symm) h))) (gB 0 (gE ok19 fun a21 s21 ok20 D17 => ?_)))); have o18 := Own.k0 o17 D17.stp; refine bn ?_
     exact tn ⟨N + 1 - ((i + 1)), by omega, s21, (i + 1), (l.drop (m + 1)), (ys.set i (ByteArray.extract (bsL l) 0 (m + 0))), x9_0, rfl, ((F21.step0 D16.stp).step0 D17.stp), ok20, (cvt (by (rw [ext_tail (by rw [hsp])])) (D17.kt (D16.dn 6 rfl rfl) rfl)), (cvi (by (first | rfl | omega | (simp_all; done) | (simp_all; omega))) (D17.dn 2 rfl rfl)), (D17.kt (D16.kt q102 rfl) rfl), (D17.kt (D16.kt q103 rfl) rfl), (D17.kt (D16.kt q104 rfl) rfl), (D17.kt (D16.kt q105 rfl) rfl), (cvo (by (simp)) (by (simp)) o18), sp_go hq hm (by omega) (ext_head rfl), by omega, by rw [List.length_set]; exact hy, by rw [List.length_drop]; omega, rfl⟩
   ·
    have hc0 : List.count (124 : UInt8) l = 0 := (by omega); have hsl : (ys.set i (bsL l)).length = ys.length := List.length_set
    refine wp_exit (tx (tx (bx (tn (wp_seq ?_)))))
    refine gI a13 s11 ok12 (gM q59 (gM q58 (gM q57 (gT (Ty.val (cellPtr x9_0 i)) rfl (fun E G H I J d0 d1 d2 d3 d4 => rP (own_index1 (i := ((i : Nat) : Int)) Tryz.underlying86 Tryz.inf9 (Own.k0 o6 H) (ed d0 rfl rfl rfl) (ed d1 rfl rfl rfl) (by omega) (by omega))) (gE2 ok12 fun a22 s22 ok21 D18 => ?_))))); have o19 := Own.k0 o6 D18.stp
    refine tailL0 (L := [61]) (R := (fun _ τ => Own τ 61 9 1 x9_0 (List.length ys) ((List.map Ty.str ys).set i (Ty.val (Value.string (bsL l)))))) rfl rfl (YldM.toL (m_store Tryz.inf9 (by decide) o19 (D18.dn 3 (by decide) rfl rfl) (by simp only [List.length_map, List.length_set]; omega) (D18.dn 2 (by decide) rfl rfl) (one_val rfl))) (fun v3 s23 hs5 r5 => ?_)
    have F25 := (F12.step0 D18.stp).stepL hs5 (by decide); have q124 := kpL hs5 (by decide) rfl (D18.kt q58 rfl); have q125 := kpL hs5 (by decide) rfl (D18.kt q59 rfl)
    have o20 : Own s23 61 9 1 x9_0 (List.length (ys.set i (bsL l))) (List.map Ty.str (ys.set i (bsL l))) := (cvo (by simp) (by simp) r5)
    clear r5; refine wpList_nil (tn (wp_seq ?_))
    refine gI a22 s23 ok21 (gM q125 (gM q124 (gT (Ty.nat (i + 1)) rfl (fun E G H I J d0 => rP ((y_add (ed d0 rfl rfl rfl) rfl (w64 (by omega) (by omega))).mono (fun τ _ h => cvi (σ := τ) (by first | omega | exact (Int.natCast_mul _ _).symm) h))) (gR (Pr.own 61 9 1 (List.length ((ys.set i (bsL l)).take (i + 1))) (List.map Ty.str ((ys.set i (bsL l)).take (i + 1)))) rfl (by intro E G H I J d0 d1; exact rP ((y_otake (h := (i + 1)) Tryz.underlying86 Tryz.inf9 (Own.k0 o20 H) (ed d0 rfl rfl rfl) (ed d1 rfl rfl rfl) (by omega)).mono (fun _ _ h => own_lst_take (by omega) h))) (gE2 ok21 fun a23 s24 ok22 D19 => ?_))))); have o21 := Own.k0 o20 D19.stp
    obtain ⟨x3, hx3⟩ : ∃ x, a23.eval (.tmp 65) = x := ⟨_, rfl⟩
    have q127 : At (Ty.val x3) s24 a23 (.tmp 65) := hx3
    have o22 := al2 (R := (Pr.own 61 9 1 (List.length ((ys.set i (bsL l)).take (i + 1))) (List.map Ty.str ((ys.set i (bsL l)).take (i + 1))))) hx3 (D19.done 3 (by decide))
    refine tL ok22 (Yld.toL (y_as q127)) fun a24 s25 hs6 ok23 r6 sm3 => ?_
    have F27 := (F25.step0 D19.stp).stepL hs6 (by decide); have o23 := Own.keepL o21 hs6 (by decide) (by decide); have o24 := Own.keepL o22 hs6 (by decide) (by decide)
    have q128 : At (Ty.val x3) s25 a24 (.tmp 8) := r6
    clear r6; refine wpList_nil (tn (wp_ret ?_))
    obtain ⟨t4, e2, h2, q129⟩ := Own.seal o24 (by decide)
    rw [← e2]
    have F28 := F27.step h2 (by decide)
    have q130 : At (Ty.lst Ty.str ((ys.set i (bsL l)).take (i + 1))) t4 a24 (.tmp 8) := by have e : a24.eval (.tmp 8) = x3 := q128; show Ty.has _ _ _; rw [e]; exact q129
    exact retL1 rfl ok23 F28 (cvt (by (rw [sp_end hq hc0 (by omega)])) q130)


set_option maxHeartbeats 4000000 in
set_option maxRecDepth 100000 in
theorem split_fn (s : ByteArray) (σ : GW)  (v0 v1 : Value) (hv0 : Ty.has (Ty.val (Value.string s)) σ v0) (hv1 : Ty.has (Ty.val (Value.string (ByteArray.mk #[124]))) σ v1)  (hss : s.size ≤ 1099511627776) :
    FnC Tryz.prog 60 #[v0, v1] σ (Ty.lst Ty.str (cutT 124 s)) := by
 refine fn_intro0 Tryz.func60 rfl Tryz.ntmps60 (Nat.le_of_ble_eq_true rfl) (fun s0 a0 hle F0 ok0 hargs => ?_)
 have p0 := pA hle (hargs 0 _ rfl) hv0
 have p1 := pA hle (hargs 1 _ rfl) hv1
 clear hargs; refine wp_seq ?_
 refine gI a0 s0 ok0 (gC (Ty.val (Value.slice none 0 0)) (gE ok0 fun a1 s1 ok1 D1 => ?_)); refine tn (wp_seq ?_)
 refine gI a1 s1 ok1 (gM (D1.kt p0 rfl) (gM (D1.kt p1 rfl) (gS rfl (fun E G H I J d0 d1 => rP (y_call #[E.eval (.tmp 5), E.eval (.tmp 6), E.eval ((Operand.const (Value.int IntKind.i64 0))), E.eval ((Operand.const (Value.int IntKind.i64 (-1))))] Tryz.func70 rfl rfl my4 (genSplit_fn (s) _ _ _ _ _ (ed d0 rfl rfl rfl) (ed d1 rfl rfl rfl) (cvi (σ := G) (by omega) rfl) rfl (by omega)))) (gB 0 (gE ok1 fun a2 s2 ok2 D2 => ?_))))); refine tn (wp_ret ?_)
 exact retL1 rfl ok2 ((F0.step0 D1.stp).step0 D2.stp) (D2.dn 3 rfl rfl)


theorem trim_fn (s : ByteArray) (σ : GW) (v0 v1 : Value) (hv0 : Ty.has (Ty.val (Value.string s)) σ v0) (hv1 : Ty.has (Ty.val (Value.string (ByteArray.mk #[48, 49, 50, 51, 52, 53, 54, 55, 56, 57]))) σ v1) (H : s.size ≤ 1099511627776) : FnC Tryz.prog 61 #[v0, v1] σ (Ty.val (Value.string (bsL (Lib.trimS (ByteArray.data s).toList (ByteArray.data (ByteArray.mk #[48, 49, 50, 51, 52, 53, 54, 55, 56, 57])).toList)))) := by
  obtain rfl : v0 = _ := hv0
  obtain rfl : v1 = _ := hv1
  exact fnc_below (Go.Proofs.Any.strings_Trim_laid trimL (by kernel_rfl) s (ByteArray.mk #[48, 49, 50, 51, 52, 53, 54, 55, 56, 57]) σ.w (by omega) (by decide) (Go.Proofs.ascii_of_all (by decide))) (fun τ => rfl)


def errG : Nat := atoiL_ren.g 16
theorem atoi_fn (s : ByteArray) (σ : GW) (hlow : Low [] σ) (v0 : Value) (hv0 : Ty.has (Ty.val (Value.string s)) σ v0) (hd : ∀ b ∈ s.data.toList, isDig b) (hne : s.data.toList ≠ []) (H : s.size ≤ 1099511627776) (hg : Glb errG σ) : FnL Tryz.prog 62 #[v0] σ [] (fun v τ => ∃ (n : Int), ∃ (ev : Value), (Ty.has (Ty.tup2 (Ty.int n) (Ty.val ev)) τ v) ∧ (AtR s n ev)) := by
  obtain rfl : v0 = _ := hv0
  exact atr_of hd hne hg (fun v h => Go.Proofs.Any.strconv_Atoi_ok atoiL s (by omega) v h σ.w) (fun v h => (Lib.atoiAll_bounds h).2) (fun h ev hv hev => (Go.Proofs.Any.strconv_Atoi_range atoiL s (by omega) h ev σ.w hv hev).mono (fun e w' ⟨N, h1, _, _, h4⟩ => ⟨_, N, h1, h4⟩))

theorem Tryz.inf26 : Info Tryz.prog 26 (.int .i64 0) 1 8 := by unfold Info; kernel_rfl
section
set_option maxHeartbeats 4000000
open Go.RowKit
theorem ta_nil (w : World) : (Instr.typeAssert Value.nilIface 20 103 true).run Tryz.prog w = .ok (.tuple #[.int .i64 0, .bool false]) w := by kernel_rfl
theorem ta_flt (e : Int) (w : World) : (Instr.typeAssert (Value.iface 103 (.int .i64 e)) 20 103 true).run Tryz.prog w = .ok (.tuple #[.int .i64 e, .bool true]) w := by kernel_rfl
theorem catch_run (p q : Value) (w : World) : (invoke (.fn (.func 80) #[p, q]) #[]).run Tryz.prog w = .ok (.enter 80 #[p, q]) w := by kernel_rfl
theorem catch_idle (p q : Addr) (w : World) : CallsD Tryz.prog 80 #[.pointer (some p), .pointer (some q)] .returning w fun e u' w' => e = .returned (.tuple #[]) ∧ u' = .returning ∧ w' = w := by
  refine callsD_of_wpS Tryz.func80 rfl fun c₀ cs hu => ?_
  apply wpS_seq
  apply wpS_region
  simp [wpOpsS, go_sem, recoverD, hu, Tryz.ntmps80, Exit.thenS, ta_nil]
  apply wpS_seq
  apply wpS_region
  simp [wpOpsS, go_sem, Exit.thenS]
  refine wpS_cond (t := false) (by simp [Act.eval, Array.replicate]) ?_
  simp
  refine wpS_of_wp (wp_skip ?_)
  cases c₀
  simp_all [bodyPostS, results, Tryz.results80, Exit.thenS]
theorem catch_hit (p q : Value) (k l : Nat) (U1 U2 : Ty) (e : Int) (σ : GW) (hk : 2 ≤ k) (hl : 2 ≤ l) (hkl : k ≠ l) (h1 : OwnP σ k p [U1]) (h2 : OwnP σ l q [U2]) :
    CallsD Tryz.prog 80 #[p, q] (.panicking (fltC 103 e)) σ.w fun x u' w' => x = .returned (.tuple #[]) ∧ u' = .panicking [{ v := .iface 103 (.int .i64 e), recovered := true }] ∧ ∃ τ : GW, τ.w = w' ∧ StpL [k, l] σ τ ∧ OwnP τ k p [Ty.val (.slice none 0 0)] ∧ OwnP τ l q [Ty.int e] := by
  refine callsD_of_wpS Tryz.func80 rfl fun c₀ cs hu => ?_
  obtain ⟨cs', hcs⟩ : ∃ cs', cs' = { c₀ with mode := .panicking [{ v := .iface 103 (.int .i64 e), recovered := true }] } :: cs := ⟨_, rfl⟩
  have hrec : recoverD (c₀ :: cs) = some (.iface 103 (.int .i64 e), cs') := by
    rw [hcs]; simp only [recoverD, hu, fltC]
  generalize hQ : bodyPostS Tryz.prog Tryz.f80 c₀ cs _ = Q0
  apply wpS_seq
  apply wpS_region
  simp [wpOpsS, go_sem, hrec, Tryz.ntmps80, Exit.thenS, ta_flt]
  generalize hA : Act.mk _ _ = A
  have e0 : A.eval (.tmp 0) = p := by rw [← hA]; simp [Act.eval, Array.replicate]
  have e1 : A.eval (.tmp 1) = q := by rw [← hA]; simp [Act.eval, Array.replicate]
  have e2 : A.eval (.tmp 2) = .int .i64 e := by rw [← hA]; simp [Act.eval, Array.replicate]
  have e3 : A.eval (.tmp 3) = .bool true := by rw [← hA]; simp [Act.eval, Array.replicate]
  have okA : Ok 11 [] A := ⟨by rw [← hA]; simp [Array.replicate], by rw [← hA]⟩
  clear hA
  apply wpS_seq
  apply wpS_region
  show wpOpsS _ _ _ [0] _ _ _
  refine wpS_op rfl rfl (y_move (R := (Ty.bool true).pr) (σ := σ) e3 _ _ fun v0 s0 hs0 r0 => ?_)
  obtain rfl : v0 = .bool true := r0
  have okB := okA.put (some 9) (.bool true)
  have f9 := eval_put_same okA (d := 9) (by decide) (.bool true)
  have f0 := (eval_put_ne (a := A) (d := some 9) (t := 0) (by decide) (.bool true)).trans e0
  have f1 := (eval_put_ne (a := A) (d := some 9) (t := 1) (by decide) (.bool true)).trans e1
  have f2 := (eval_put_ne (a := A) (d := some 9) (t := 2) (by decide) (.bool true)).trans e2
  generalize A.put (some 9) (.bool true) = B at okB f9 f0 f1 f2 ⊢
  show Code.wpS _ _ _ _ _ _
  refine wpS_cond (t := true) f9 ?_
  rw [if_pos rfl]
  apply wpS_region
  show wpOpsS _ _ _ [0, 1, 2] _ _ _
  refine wpS_op rfl rfl (y_move (R := (Ty.int e).pr) (σ := s0) f2 _ _ fun v1 s1 hs1 r1 => ?_)
  obtain rfl : v1 = .int .i64 e := r1
  have okC := okB.put (some 10) (.int .i64 e)
  have g10 := eval_put_same okB (d := 10) (by decide) (.int .i64 e)
  have g0 := (eval_put_ne (a := B) (d := some 10) (t := 0) (by decide) (.int .i64 e)).trans f0
  have g1 := (eval_put_ne (a := B) (d := some 10) (t := 1) (by decide) (.int .i64 e)).trans f1
  generalize B.put (some 10) (.int .i64 e) = C at okC g10 g0 g1 ⊢
  have o1 := (h1.k0 hs0).k0 hs1; have o2 := (h2.k0 hs0).k0 hs1
  refine wpS_op rfl rfl (m_storep (k := k) (v := p) (T := Ty.val (.slice none 0 0)) Tryz.inf22 hk o1 (ptr0 o1 g0) Nat.one_pos (by exact rfl) (one_val rfl) _ _ fun v2 s2 hs2 o3 => ?_)
  have o4 := o2.keep hs2 (by omega) (.inr (fun e_ => hkl e_.symm))
  refine wpS_op rfl rfl (m_storep (k := l) (v := q) (T := Ty.int e) Tryz.inf26 hl o4 (ptr0 o4 g1) Nat.one_pos g10 (one_val rfl) _ _ fun v3 s3 hs3 o5 => ?_)
  have o6 := o3.keep hs3 (by omega) (.inr hkl)
  subst hQ
  refine ⟨okC.defers, _, hcs, .tuple #[], by simp [results, Tryz.results80], rfl, rfl, s3, rfl, ?_, o6, o5⟩
  exact (hs0.toL0.trans hs1.toL0).trans ((hs2.toL (by simp)).trans (hs3.toL (by simp)))
theorem catch_fn : Catch Tryz.prog 80 103 := ⟨catch_run, catch_idle, catch_hit⟩
end


set_option maxHeartbeats 4000000 in
set_option maxRecDepth 100000 in
theorem isNaN_fn (x : Int) (σ : GW)  (v0 : Value) (hv0 : Ty.has (Ty.int x) σ v0)   :
    FnC Tryz.prog 137 #[v0] σ (Ty.bool false) := by
 refine fn_intro0 Tryz.func137 rfl Tryz.ntmps137 (Nat.le_of_ble_eq_true rfl) (fun s0 a0 hle F0 ok0 hargs => ?_)
 have p0 := pA hle (hargs 0 _ rfl) hv0
 clear hargs; refine wp_seq ?_
 refine gI a0 s0 ok0 (gC (Ty.bool false) (gE ok0 fun a1 s1 ok1 D1 => ?_)); have q1 := D1.kt p0 rfl; refine tn (wp_seq ?_)
 refine gI a1 s1 ok1 (gM q1 (gM q1 (gS rfl (fun E G H I J d0 d1 => rP (y_neq (ed d0 rfl rfl rfl) (ed d1 rfl rfl rfl))) (gB 0 (gE ok1 fun a2 s2 ok2 D2 => ?_))))); refine tn (wp_ret ?_)
 exact retL1 rfl ok2 ((F0.step0 D1.stp).step0 D2.stp) (cvb (by (simp)) (D2.dn 3 rfl rfl))


end Go.Proofs.YtdjihbjikpbhgaaGreatDoor
