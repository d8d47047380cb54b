/- The functions that the law TopBook reaches, each by its contract. Part 3. -/
import Derived.Test.YtfgkhpkbehhflaaDoorTopBookW2
namespace Go.Proofs.YtfgkhpkbehhflaaDoor
open Go.KL

set_option maxHeartbeats 4000000 in
set_option maxRecDepth 100000 in
theorem bRead_fn (s : ByteArray) (σ : GW)  (v0 : Value) (hv0 : Ty.has (Ty.val (Value.string s)) σ v0)  (hsz : s.size < 1099511627776) (hglb0 : Gbk Tryd.prog GA GB σ) :
    FnC Tryd.prog 15 #[v0] σ (Ty.tup2 (Ty.ento 66 (readR (ByteArray.data s).toList)) (Ty.bool (Option.isSome (readR (ByteArray.data s).toList)))) := by
 have hcA_ : (cutA 35 s).size ≤ s.size := cutA_sz
 have hck_ := chk_lt (l := (ByteArray.data (cutA 35 s)).toList)
 have hgz_ : ∀ k, ((cutT 124 (cutA 35 s)).getD k ByteArray.empty).size ≤ (cutA 35 s).size := cutT_get
 have hg0_ : ((cutT 124 (cutA 35 s)).getD ((0 : Int)).toNat ByteArray.empty).size ≤ (cutA 35 s).size := hgz_ 0
 have hg1_ : ((cutT 124 (cutA 35 s)).getD ((1 : Int)).toNat ByteArray.empty).size ≤ (cutA 35 s).size := hgz_ 1
 have hg2_ : ((cutT 124 (cutA 35 s)).getD ((2 : Int)).toNat ByteArray.empty).size ≤ (cutA 35 s).size := hgz_ 2
 have hg3_ : ((cutT 124 (cutA 35 s)).getD ((3 : Int)).toNat ByteArray.empty).size ≤ (cutA 35 s).size := hgz_ 3
 have hrz_ : ∀ x ∈ cutT ((ByteArray.mk #[44]).get! 0) ((cutT 124 (cutA 35 s)).getD ((3 : Int)).toNat ByteArray.empty), x.size ≤ 1099511627776 := fun x hx => Nat.le_trans (cutT_sz hx) oM
 have hrn_ : (cutT ((ByteArray.mk #[44]).get! 0) ((cutT 124 (cutA 35 s)).getD ((3 : Int)).toNat ByteArray.empty)).length ≤ 1099511627776 := Nat.le_trans cutT_n oM
 refine fn_intro0 Tryd.func15 rfl Tryd.ntmps15 (Nat.le_of_ble_eq_true rfl) (fun s0 a0 hle F0 ok0 hargs => ?_)
 have p0 := pA hle (hargs 0 _ rfl) hv0
 clear hargs
 have hglb : Gbk Tryd.prog GA GB s0 := Gbk.up hle hglb0
 refine wp_seq ?_
 refine gI a0 s0 ok0 (gC (Ty.val Value.nilIface) (gC (Ty.bool false) (gE ok0 fun a1 s1 ok1 D1 => ?_))); refine tn (wp_seq ?_)
 refine gI a1 s1 ok1 (gM (D1.k p0) (gS rfl (fun A B E G H d0 => rP (y_call _ Tryd.func14 rfl rfl my2 (sCut_fn (s) ((ByteArray.mk #[35])) _ _ _ (eI d0) rfl (by first | omega | rfl | assumption) (by first | omega | rfl | assumption)))) (gS rfl (fun A B E G H d0 => rP (y_move (eI d0))) (gT (Ty.val (Value.string (cutA (((ByteArray.mk #[35])).get! 0) s))) rfl (fun A B E G H d0 => rP (y_ext3_0 (eI d0))) (gT (Ty.val (Value.string (cutZ (((ByteArray.mk #[35])).get! 0) s))) rfl (fun A B E G H d0 d1 => rP (y_ext3_1 (eI d0))) (gT (Ty.bool (!(decide (Lib.indexByte ((ByteArray.data s).toList) (((ByteArray.mk #[35])).get! 0) = -1)))) rfl (fun A B E G H d0 d1 => rP (y_ext3_2 (eI d0))) (gB 0 (gB 0 (gB 0 (gE ok1 fun a2 s2 ok2 D2 => ?_))))))))))
 have q5 : At (Ty.val (Value.string (cutA 35 s))) s2 a2 (.tmp 4) := (cvt (by (rfl)) (D2.m 6 rfl))
 have q6 : At (Ty.val (Value.string (cutZ 35 s))) s2 a2 (.tmp 5) := (cvt (by (rfl)) (D2.m 7 rfl))
 have q7 : At (Ty.bool (!(decide (Lib.indexByte ((ByteArray.data s).toList) 35 = -1)))) s2 a2 (.tmp 6) := (cvb (by (rfl)) (D2.m 8 rfl))
 refine tn (wp_seq ?_)
 refine gI a2 s2 ok2 (gM q5 (gS rfl (fun A B E G H d0 => rP (y_call _ Tryd.func26 rfl rfl my2 (splitC_fn ((cutA 35 s)) ((ByteArray.mk #[124])) _ _ _ (eI d0) rfl (by first | omega | rfl | assumption) (by first | omega | rfl | assumption)))) (gB 0 (gE ok2 fun a3 s3 ok3 D3 => ?_)))); have F3 := ((F0.step0 D1.stp).step0 D2.stp).step0 D3.stp
 have q12 : At (Ty.lst Ty.str (cutT 124 (cutA 35 s))) s3 a3 (.tmp 7) := (cvt (by (rfl)) (D3.m 2 rfl))
 refine tn (wp_seq (wp_seq ?_))
 refine gI a3 s3 ok3 (gM (D3.k q7) (gS rfl (fun A B E G H d0 => rP (y_not (eI d0))) (gS rfl (fun A B E G H d0 => rP (y_move (eI d0))) (gS rfl (fun A B E G H d0 => gu G (eI d0) fun hg => y_move (kp (H 7 rfl) E q12)) (gS rfl (fun A B E G H d0 d1 => gu G (eI d1) fun hg => y_len Tryd.underlying40 ((ef d0 rfl).1 hg)) (gS rfl (fun A B E G H d0 d1 => gu G (eI d1) fun hg => y_neq ((ef d0 rfl).1 hg) rfl) (gS rfl (fun A B E G H d0 d1 => rP (y_pick_or (eI d0) rfl (eI d1))) (gS rfl (fun A B E G H d0 d1 => rP (y_move (eI d0))) (gT (Ty.grd (((!(!(decide (Lib.indexByte ((ByteArray.data s).toList) 35 = -1)))) || (decide ((((List.length (cutT 124 (cutA 35 s))) : Nat) : Int) ≠ (4 : Int)))) = false) (Ty.val (Value.string (cutA 35 s)))) rfl (by intro A B E G H d0; refine run_guard G rfl rfl dE (eI d0) (fun hg => ?_); obtain ⟨d1, d2⟩ := Bool.or_eq_false_iff.mp hg; have d2 := of_decide_eq_false d2; exact y_move (kp (H 4 rfl) E (D3.k q5))) (gT (Ty.grd (((!(!(decide (Lib.indexByte ((ByteArray.data s).toList) 35 = -1)))) || (decide ((((List.length (cutT 124 (cutA 35 s))) : Nat) : Int) ≠ (4 : Int)))) = false) (Ty.val (Value.int .u32 (((chk (ByteArray.data ((cutA 35 s))).toList) : Nat) : Int)))) rfl (by intro A B E G H d0 d1 d2; refine run_guard G rfl rfl dE (eI d1) (fun hg => ?_); obtain ⟨d3, d4⟩ := Bool.or_eq_false_iff.mp hg; have d4 := of_decide_eq_false d4; exact y_call _ Tryd.func28 rfl rfl my1 (bCheck_fn ((cutA 35 s)) _ _ ((ef d0 rfl).1 hg) oM)) ?_))))))))))
 refine gT (Ty.grd (((!(!(decide (Lib.indexByte ((ByteArray.data s).toList) 35 = -1)))) || (decide ((((List.length (cutT 124 (cutA 35 s))) : Nat) : Int) ≠ (4 : Int)))) = false) (Ty.val (Value.int .u64 (((chk (ByteArray.data ((cutA 35 s))).toList) : Nat) : Int)))) rfl (by intro A B E G H d0 d1; refine run_guard G rfl rfl dE (eI d1) (fun hg => ?_); obtain ⟨d5, d6⟩ := Bool.or_eq_false_iff.mp hg; have d6 := of_decide_eq_false d6; exact y_conv Tryd.underlying71 ((ef d0 rfl).1 hg) (by exact wrap_u64 oM oM) (by rw [Tryd.underlying72]; rfl)) ?_
 refine gT (Ty.grd (((!(!(decide (Lib.indexByte ((ByteArray.data s).toList) 35 = -1)))) || (decide ((((List.length (cutT 124 (cutA 35 s))) : Nat) : Int) ≠ (4 : Int)))) = false) (Ty.val (Value.string (dcB ((chk (ByteArray.data ((cutA 35 s))).toList)))))) rfl (by intro A B E G H d0 d1 d2; refine run_guard G rfl rfl dE (eI d2) (fun hg => ?_); obtain ⟨d7, d8⟩ := Bool.or_eq_false_iff.mp hg; have d8 := of_decide_eq_false d8; exact y_call _ Tryd.func27 rfl rfl my2 (fmtN_fn ((chk (ByteArray.data ((cutA 35 s))).toList)) ((10 : Int)) _ _ _ (cvi (σ := B) (by first | rfl | omega | assumption | exact Gbk.up (GW.le_lend _ _) (Gbk.fl @F rfl hglb0) | exact Gbk.up E.le0 (Gbk.fl @F rfl hglb0) | exact Gbk.up (GW.le_lend _ _) (Gbk.fl @F rfl hglb) | exact Gbk.up E.le0 (Gbk.fl @F rfl hglb)) ((ef d0 rfl).1 hg)) (cvi (σ := B) (by first | rfl | omega | assumption | exact Gbk.up (GW.le_lend _ _) (Gbk.fl @F rfl hglb0) | exact Gbk.up E.le0 (Gbk.fl @F rfl hglb0) | exact Gbk.up (GW.le_lend _ _) (Gbk.fl @F rfl hglb) | exact Gbk.up E.le0 (Gbk.fl @F rfl hglb)) rfl) (by first | rfl | omega | assumption | exact Gbk.up (GW.le_lend _ _) (Gbk.fl F3 rfl hglb0) | exact Gbk.up E.le0 (Gbk.fl F3 rfl hglb0) | exact Gbk.up (GW.le_lend _ _) (Gbk.fl F3 rfl hglb) | exact Gbk.up E.le0 (Gbk.fl F3 rfl hglb)) (by first | rfl | omega | assumption | exact Gbk.up (GW.le_lend _ _) (Gbk.fl F3 rfl hglb0) | exact Gbk.up E.le0 (Gbk.fl F3 rfl hglb0) | exact Gbk.up (GW.le_lend _ _) (Gbk.fl F3 rfl hglb) | exact Gbk.up E.le0 (Gbk.fl F3 rfl hglb)) (by first | rfl | omega | assumption | exact Gbk.up (GW.le_lend _ _) (Gbk.fl F3 rfl hglb0) | exact Gbk.up E.le0 (Gbk.fl F3 rfl hglb0) | exact Gbk.up (GW.le_lend _ _) (Gbk.fl F3 rfl hglb) | exact Gbk.up E.le0 (Gbk.fl F3 rfl hglb)))) ?_
 refine gT (Ty.grd (((!(!(decide (Lib.indexByte ((ByteArray.data s).toList) 35 = -1)))) || (decide ((((List.length (cutT 124 (cutA 35 s))) : Nat) : Int) ≠ (4 : Int)))) = false) (Ty.val (Value.string (cutZ 35 s)))) rfl (by intro A B E G H d0; refine run_guard G rfl rfl dE (eI d0) (fun hg => ?_); obtain ⟨d9, d10⟩ := Bool.or_eq_false_iff.mp hg; have d10 := of_decide_eq_false d10; exact y_move (kp (H 5 rfl) E (D3.k q6))) (gT (Ty.grd (((!(!(decide (Lib.indexByte ((ByteArray.data s).toList) 35 = -1)))) || (decide ((((List.length (cutT 124 (cutA 35 s))) : Nat) : Int) ≠ (4 : Int)))) = false) (Ty.bool (!(decide ((dcB ((chk (ByteArray.data ((cutA 35 s))).toList))) = (cutZ 35 s)))))) rfl (by intro A B E G H d0 d1 d2; refine run_guard G rfl rfl dE (eI d2) (fun hg => ?_); obtain ⟨d11, d12⟩ := Bool.or_eq_false_iff.mp hg; have d12 := of_decide_eq_false d12; exact y_sneq Tryd.underlying9 ((ef d0 rfl).1 hg) ((ef d1 rfl).1 hg)) (gS rfl (fun A B E G H d0 d1 => rP (y_pick_or (eI d0) rfl (eI d1))) (gE ok3 fun a4 s4 ok4 D4 => ?_))); have F4 := F3.step0 D4.stp; have q13 := D4.k q12; refine tn ?_
 refine cond_t (D4.m 14 rfl) (fun c1 => ?_) (fun c1 => ?_)
 ·
  have hbd : readR ((ByteArray.data s).toList) = none := rd_c1 c1
  refine wp_seq ?_
  refine gI a4 s4 ok4 (gC (Ty.val Value.nilIface) (gC (Ty.bool false) (gE ok4 fun a5 s5 ok5 D5 => ?_))); refine tn (wp_ret (tr ?_))
  exact retL2 rfl ok5 (F4.step0 D5.stp) (hasT2 (ento_none (by (exact hbd))) (cvb (by (rw [hbd]; rfl)) (D5.m 1 rfl)))
 ·
  obtain ⟨d13, d14⟩ := Bool.or_eq_false_iff.mp c1
  obtain ⟨d15, d16⟩ := Bool.or_eq_false_iff.mp d13
  replace d16 := of_decide_eq_false d16
  have hk_ := rd_c0 c1
  refine wp_skip (tn (wp_seq ?_))
  refine gI a4 s4 ok4 (gM q13 (gT (Ty.ref [(Ty.val (Value.string ((cutT 124 (cutA 35 s)).getD ((0 : Int)).toNat ByteArray.empty)))]) rfl (fun A B E G H d0 => rP (y_index1 Tryd.underlying40 Tryd.inf9 (eI d0) rfl oM (lst_get Ty.str (cutT 124 (cutA 35 s)) ByteArray.empty ((0 : Int)).toNat oM))) (gS rfl (fun A B E G H d0 => rP (y_load Tryd.underlying9 rfl (eI d0) rfl)) (gE2 ok4 fun a6 s6 ok6 D6 => ?_)))); have F6 := F4.step0 D6.stp
  refine tL ok6 (y_callL (L := []) [] [] _ rfl dE Tryd.func29 rfl rfl my1 (bNum_fn (((cutT 124 (cutA 35 s)).getD ((0 : Int)).toNat ByteArray.empty)) _ lW _ (uL (D6.m 2 rfl))  (by first | omega | assumption | exact Gbk.up (GW.le_lend _ _) (Gbk.fl F6 rfl hglb0) | exact Gbk.up E.le0 (Gbk.fl F6 rfl hglb0) | exact Gbk.up (GW.le_lend _ _) (Gbk.fl F6 rfl hglb) | exact Gbk.up E.le0 (Gbk.fl F6 rfl hglb)) (by first | omega | assumption | exact Gbk.up (GW.le_lend _ _) (Gbk.fl F6 rfl hglb0) | exact Gbk.up E.le0 (Gbk.fl F6 rfl hglb0) | exact Gbk.up (GW.le_lend _ _) (Gbk.fl F6 rfl hglb) | exact Gbk.up E.le0 (Gbk.fl F6 rfl hglb)))) fun a7 s7 hs1 ok7 r1 sm1 => ?_
  obtain ⟨t1, ⟨g1, g2, hT1, hp1⟩, B1⟩ := r1
  have q20 : At (Ty.tup2 (Ty.int (g1)) (Ty.bool (g2))) s7 a7 (.tmp 40) := Ty.up _ B1.le hT1
  refine tL ok7 (Yld.toL (y_mv q20)) fun a8 s8 hs2 ok8 r2 sm2 => ?_
  have q22 : At (Ty.tup2 (Ty.int (g1)) (Ty.bool (g2))) s8 a8 (.tmp 36) := r2
  clear r2
  refine tL (R := (fun v τ => Pr.has (Ty.pr (Ty.int (g1))) τ v)) ok8 (Yld.toL (y_ext2_0 q22)) fun a9 s9 hs3 ok9 r3 sm3 => ?_
  have q25 : At (Ty.int (g1)) s9 a9 (.tmp 41) := r3
  clear r3
  refine tL (R := (fun v τ => Pr.has (Ty.pr (Ty.bool (g2))) τ v)) ok9 (Yld.toL (y_ext2_1 (kq hs3 sm3 36 q22))) fun a10 s10 hs4 ok10 r4 sm4 => ?_
  have q28 : At (Ty.bool (g2)) s10 a10 (.tmp 42) := r4
  clear r4
  refine tL ok10 (Yld.toL (y_as (kq hs4 sm4 41 q25))) fun a11 s11 hs5 ok11 r5 sm5 => ?_
  have q31 : At (Ty.int (g1)) s11 a11 (.tmp 8) := r5
  clear r5
  refine tL ok11 (Yld.toL (y_as (kq hs5 sm5 42 q28))) fun a12 s12 hs6 ok12 r6 sm6 => ?_
  have q32 := kq hs6 sm6 7 (kq hs5 sm5 7 (kq hs4 sm4 7 (kq hs3 sm3 7 (kq hs2 sm2 7 (kq hs1 sm1 7 (D6.k q13))))))
  have q34 : At (Ty.bool (g2)) s12 a12 (.tmp 9) := r6
  clear r6; refine wpList_nil (tn (wp_seq ?_))
  refine gI a12 s12 ok12 (gM q32 (gT (Ty.ref [(Ty.val (Value.string ((cutT 124 (cutA 35 s)).getD ((1 : Int)).toNat ByteArray.empty)))]) rfl (fun A B E G H d0 => rP (y_index1 Tryd.underlying40 Tryd.inf9 (eI d0) rfl oM (lst_get Ty.str (cutT 124 (cutA 35 s)) ByteArray.empty ((1 : Int)).toNat oM))) (gS rfl (fun A B E G H d0 => rP (y_load Tryd.underlying9 rfl (eI d0) rfl)) (gE2 ok12 fun a13 s13 ok13 D7 => ?_)))); have F13 := ((((((F6.sl hs1).sl hs2).sl hs3).sl hs4).sl hs5).sl hs6).step0 D7.stp
  refine tL ok13 (y_callL (L := []) [] [] _ rfl dE Tryd.func29 rfl rfl my1 (bNum_fn (((cutT 124 (cutA 35 s)).getD ((1 : Int)).toNat ByteArray.empty)) _ lW _ (uL (D7.m 2 rfl))  (by first | omega | assumption | exact Gbk.up (GW.le_lend _ _) (Gbk.fl F13 rfl hglb0) | exact Gbk.up E.le0 (Gbk.fl F13 rfl hglb0) | exact Gbk.up (GW.le_lend _ _) (Gbk.fl F13 rfl hglb) | exact Gbk.up E.le0 (Gbk.fl F13 rfl hglb)) (by first | omega | assumption | exact Gbk.up (GW.le_lend _ _) (Gbk.fl F13 rfl hglb0) | exact Gbk.up E.le0 (Gbk.fl F13 rfl hglb0) | exact Gbk.up (GW.le_lend _ _) (Gbk.fl F13 rfl hglb) | exact Gbk.up E.le0 (Gbk.fl F13 rfl hglb)))) fun a14 s14 hs7 ok14 r7 sm7 => ?_
  obtain ⟨t2, ⟨g3, g4, hT2, hp2⟩, B2⟩ := r7
  have q42 : At (Ty.tup2 (Ty.int (g3)) (Ty.bool (g4))) s14 a14 (.tmp 47) := Ty.up _ B2.le hT2
  refine tL ok14 (Yld.toL (y_mv q42)) fun a15 s15 hs8 ok15 r8 sm8 => ?_
  have q46 : At (Ty.tup2 (Ty.int (g3)) (Ty.bool (g4))) s15 a15 (.tmp 43) := r8
  clear r8
  refine tL (R := (fun v τ => Pr.has (Ty.pr (Ty.int (g3))) τ v)) ok15 (Yld.toL (y_ext2_0 q46)) fun a16 s16 hs9 ok16 r9 sm9 => ?_
  have q51 : At (Ty.int (g3)) s16 a16 (.tmp 48) := r9
  clear r9
  refine tL (R := (fun v τ => Pr.has (Ty.pr (Ty.bool (g4))) τ v)) ok16 (Yld.toL (y_ext2_1 (kq hs9 sm9 43 q46))) fun a17 s17 hs10 ok17 r10 sm10 => ?_
  have q56 : At (Ty.bool (g4)) s17 a17 (.tmp 49) := r10
  clear r10
  refine tL ok17 (Yld.toL (y_as (kq hs10 sm10 48 q51))) fun a18 s18 hs11 ok18 r11 sm11 => ?_
  have q61 : At (Ty.int (g3)) s18 a18 (.tmp 10) := r11
  clear r11
  refine tL ok18 (Yld.toL (y_as (kq hs11 sm11 49 q56))) fun a19 s19 hs12 ok19 r12 sm12 => ?_
  have q66 : At (Ty.bool (g4)) s19 a19 (.tmp 11) := r12
  clear r12; refine wpList_nil (tn (wp_seq (wp_seq ?_)))
  refine gI a19 s19 ok19 (gM (kq hs12 sm12 9 (kq hs11 sm11 9 (kq hs10 sm10 9 (kq hs9 sm9 9 (kq hs8 sm8 9 (kq hs7 sm7 9 (D7.k q34))))))) (gS rfl (fun A B E G H d0 => rP (y_not (eI d0))) (gS rfl (fun A B E G H d0 => rP (y_move (eI d0))) (gS rfl (fun A B E G H d0 => gu G (eI d0) fun hg => y_move (kp (H 11 rfl) E q66)) (gS rfl (fun A B E G H d0 d1 => gu G (eI d1) fun hg => y_not ((ef d0 rfl).1 hg)) (gS rfl (fun A B E G H d0 d1 => rP (y_pick_or (eI d0) rfl (eI d1))) (gE ok19 fun a20 s20 ok20 D8 => ?_))))))); have F20 := ((((((F13.sl hs7).sl hs8).sl hs9).sl hs10).sl hs11).sl hs12).step0 D8.stp; have q67 := D8.k (kq hs12 sm12 7 (kq hs11 sm11 7 (kq hs10 sm10 7 (kq hs9 sm9 7 (kq hs8 sm8 7 (kq hs7 sm7 7 (D7.k q32))))))); refine tn ?_
  refine cond_t (D8.m 5 rfl) (fun c2 => ?_) (fun c2 => ?_)
  ·
   have hbd : readR ((ByteArray.data s).toList) = none := (by rw [rd_parts hk_.1 hk_.2.1 hk_.2.2 hp1 hp2, if_neg]; rintro ⟨e1, e2⟩; rw [e1, e2] at c2; cases c2)
   refine wp_seq ?_
   refine gI a20 s20 ok20 (gC (Ty.val Value.nilIface) (gC (Ty.bool false) (gE ok20 fun a21 s21 ok21 D9 => ?_))); refine tn (wp_ret (tr ?_))
   exact retL2 rfl ok21 (F20.step0 D9.stp) (hasT2 (ento_none (by (exact hbd))) (cvb (by (rw [hbd]; rfl)) (D9.m 1 rfl)))
  ·
   obtain ⟨d17, d18⟩ := Bool.or_eq_false_iff.mp c2
   have hrd : readR ((ByteArray.data s).toList) = (if mayR (g1, g3, ((cutT 124 (cutA 35 s)).getD 2 ByteArray.empty), cutT 44 ((cutT 124 (cutA 35 s)).getD 3 ByteArray.empty)) = 0 then some (g1, g3, ((cutT 124 (cutA 35 s)).getD 2 ByteArray.empty), cutT 44 ((cutT 124 (cutA 35 s)).getD 3 ByteArray.empty)) else none) := (by rw [rd_parts hk_.1 hk_.2.1 hk_.2.2 hp1 hp2, if_pos (by simpa using c2)])
   refine wp_skip (tn (wp_seq ?_))
   refine gI a20 s20 ok20 (gM (D8.k (kq hs12 sm12 8 (kq hs11 sm11 8 (kq hs10 sm10 8 (kq hs9 sm9 8 (kq hs8 sm8 8 (kq hs7 sm7 8 (D7.k (kq hs6 sm6 8 q31))))))))) (gM (D8.k (kq hs12 sm12 10 q61)) (gM q67 (gT (Ty.ref [(Ty.val (Value.string ((cutT 124 (cutA 35 s)).getD ((2 : Int)).toNat ByteArray.empty)))]) rfl (fun A B E G H d0 => rP (y_index1 Tryd.underlying40 Tryd.inf9 (eI d0) rfl oM (lst_get Ty.str (cutT 124 (cutA 35 s)) ByteArray.empty ((2 : Int)).toNat oM))) (gS rfl (fun A B E G H d0 => rP (y_load Tryd.underlying9 rfl (eI d0) rfl)) (gM q67 (gT (Ty.ref [(Ty.val (Value.string ((cutT 124 (cutA 35 s)).getD ((3 : Int)).toNat ByteArray.empty)))]) rfl (fun A B E G H d0 => rP (y_index1 Tryd.underlying40 Tryd.inf9 (eI d0) rfl oM (lst_get Ty.str (cutT 124 (cutA 35 s)) ByteArray.empty ((3 : Int)).toNat oM))) (gS rfl (fun A B E G H d0 => rP (y_load Tryd.underlying9 rfl (eI d0) rfl)) (gS rfl (fun A B E G H d0 => rP (y_call _ Tryd.func26 rfl rfl my2 (splitC_fn (((cutT 124 (cutA 35 s)).getD ((3 : Int)).toNat ByteArray.empty)) ((ByteArray.mk #[44])) _ _ _ (eI d0) rfl (by first | omega | rfl | assumption) (by first | omega | rfl | assumption)))) ?_)))))))))
   refine gT (Ty.agg [(Ty.int (g1)), (Ty.int (g3)), (Ty.val (Value.string ((cutT 124 (cutA 35 s)).getD ((2 : Int)).toNat ByteArray.empty))), (Ty.lst Ty.str (cutT (((ByteArray.mk #[44])).get! 0) (((cutT 124 (cutA 35 s)).getD ((3 : Int)).toNat ByteArray.empty))))]) rfl (fun A B E G H d0 d1 d2 d3 => rP (y_bld [(0, (.tmp 56), (Ty.int (g1))), (1, (.tmp 57), (Ty.int (g3))), (2, (.tmp 60), (Ty.val (Value.string ((cutT 124 (cutA 35 s)).getD ((2 : Int)).toNat ByteArray.empty)))), (3, (.tmp 64), (Ty.lst Ty.str (cutT (((ByteArray.mk #[44])).get! 0) (((cutT 124 (cutA 35 s)).getD ((3 : Int)).toNat ByteArray.empty)))))] [(Ty.int (0 : Int)), (Ty.int (0 : Int)), (Ty.val (Value.string ByteArray.empty)), (Ty.val (Value.slice none 0 0))] (l := [(0, 1), (1, 1), (2, 1), (3, 1)]) rfl Tryd.inf42 rfl (alloc_vals (vs := [.int .i64 0, .int .i64 0, .string ByteArray.empty, .slice none 0 0]) rfl) rfl (by intro p hp; simp only [List.mem_cons, List.not_mem_nil, or_false] at hp; rcases hp with rfl | rfl | rfl | rfl; exact ⟨one_val rfl, (eI d0)⟩; exact ⟨one_val rfl, (eI d1)⟩; exact ⟨one_val rfl, (eI d2)⟩; exact ⟨one_sl, (eI d3)⟩))) ?_
   refine gT (Ty.agg [(Ty.int (g1)), (Ty.int (g3)), (Ty.val (Value.string ((cutT 124 (cutA 35 s)).getD ((2 : Int)).toNat ByteArray.empty))), (Ty.lst Ty.str (cutT (((ByteArray.mk #[44])).get! 0) (((cutT 124 (cutA 35 s)).getD ((3 : Int)).toNat ByteArray.empty))))]) rfl (fun A B E G H d0 => rP (y_bld2 [(0, (.tmp 65), [(Ty.int (g1)), (Ty.int (g3)), (Ty.val (Value.string ((cutT 124 (cutA 35 s)).getD ((2 : Int)).toNat ByteArray.empty))), (Ty.lst Ty.str (cutT (((ByteArray.mk #[44])).get! 0) (((cutT 124 (cutA 35 s)).getD ((3 : Int)).toNat ByteArray.empty))))])] [(Ty.int (0 : Int)), (Ty.int (0 : Int)), (Ty.val (Value.string ByteArray.empty)), (Ty.val (Value.slice none 0 0))] (l := [(0, 4)]) rfl Tryd.inf66 rfl (alloc_vals (vs := [.int .i64 0, .int .i64 0, .string ByteArray.empty, .slice none 0 0]) rfl) rfl (by intro p hp; simp only [List.mem_cons, List.not_mem_nil, or_false] at hp; rcases hp with rfl; exact fits_agg (eI d0)))) (gR (Pr.ownp 61 [(Ty.int (0 : Int)), (Ty.int (0 : Int)), (Ty.val (Value.string ByteArray.empty)), (Ty.val (Value.slice none 0 0))]) rfl (by intro A B E G H; exact rP (y_alloc Tryd.inf66 rfl (alloc_vals (vs := [.int .i64 0, .int .i64 0, .string ByteArray.empty, .slice none 0 0]) rfl))) (gE2 ok20 fun a22 s22 ok22 D10 => ?_))
   obtain ⟨x1, hx1⟩ : ∃ x, a22.eval (.tmp 12) = x := ⟨_, rfl⟩
   have q74 : At (Ty.val x1) s22 a22 (.tmp 12) := hx1
   have o1 := al2 (R := (Pr.ownp 61 [(Ty.int (0 : Int)), (Ty.int (0 : Int)), (Ty.val (Value.string ByteArray.empty)), (Ty.val (Value.slice none 0 0))])) hx1 (D10.done 11 dE)
   refine tailL0 (L := [61]) (R := (fun _ τ => OwnP τ 61 x1 [(Ty.int (g1)), (Ty.int (g3)), (Ty.val (Value.string ((cutT 124 (cutA 35 s)).getD ((2 : Int)).toNat ByteArray.empty))), (Ty.lst Ty.str (cutT (((ByteArray.mk #[44])).get! 0) (((cutT 124 (cutA 35 s)).getD ((3 : Int)).toNat ByteArray.empty))))])) rfl rfl (YldM.toL (m_storeagg Tryd.inf66 dE o1 q74 rfl (D10.m 10 rfl) (by intro U hU; simp only [List.mem_cons, List.not_mem_nil, or_false] at hU; rcases hU with rfl | rfl | rfl | rfl <;> first | exact one_val rfl | exact one_sl | exact one_flt | exact one_cx | exact one_ref))) (fun v1 s23 hs13 r13 => ?_)
   have q75 := kpL hs13 dE rfl q74
   have o2 : OwnP s23 61 x1 [(Ty.int (g1)), (Ty.int (g3)), (Ty.val (Value.string ((cutT 124 (cutA 35 s)).getD ((2 : Int)).toNat ByteArray.empty))), (Ty.lst Ty.str (cutT (((ByteArray.mk #[44])).get! 0) (((cutT 124 (cutA 35 s)).getD ((3 : Int)).toNat ByteArray.empty))))] := r13
   clear r13; refine wpList_nil (tn (wp_seq ?_))
   refine gI a22 s23 ok22 (gT (Ty.agg [(Ty.int (g1)), (Ty.int (g3)), (Ty.val (Value.string ((cutT 124 (cutA 35 s)).getD ((2 : Int)).toNat ByteArray.empty))), (Ty.lst Ty.str (cutT (((ByteArray.mk #[44])).get! 0) (((cutT 124 (cutA 35 s)).getD ((3 : Int)).toNat ByteArray.empty))))]) rfl (fun A B E G H => rP (ownp_loadagg Tryd.underlying66 Tryd.inf66 (OwnP.k0 o2 E) (kp (H 12 rfl) E q75))) (gT (Ty.ent 66 ((g1), (g3), ((cutT 124 (cutA 35 s)).getD ((2 : Int)).toNat ByteArray.empty), (cutT (((ByteArray.mk #[44])).get! 0) (((cutT 124 (cutA 35 s)).getD ((3 : Int)).toNat ByteArray.empty))))) rfl (fun A B E G H d0 => rP (y_mkent (r := ((g1), (g3), ((cutT 124 (cutA 35 s)).getD ((2 : Int)).toNat ByteArray.empty), (cutT (((ByteArray.mk #[44])).get! 0) (((cutT 124 (cutA 35 s)).getD ((3 : Int)).toNat ByteArray.empty))))) Tryd.underlying66 (eI d0))) (gT (Ty.agg [(Ty.int (g1)), (Ty.int (g3)), (Ty.val (Value.string ((cutT 124 (cutA 35 s)).getD ((2 : Int)).toNat ByteArray.empty))), (Ty.lst Ty.str (cutT (((ByteArray.mk #[44])).get! 0) (((cutT 124 (cutA 35 s)).getD ((3 : Int)).toNat ByteArray.empty))))]) rfl (fun A B E G H => rP (ownp_loadagg Tryd.underlying66 Tryd.inf66 (OwnP.k0 o2 E) (kp (H 12 rfl) E q75))) ?_)))
   refine gS rfl (fun A B E G H d0 => rP (y_call _ Tryd.func23 rfl rfl my1 (pMay_fn ((g1)) ((g3)) (((cutT 124 (cutA 35 s)).getD ((2 : Int)).toNat ByteArray.empty)) ((cutT (((ByteArray.mk #[44])).get! 0) (((cutT 124 (cutA 35 s)).getD ((3 : Int)).toNat ByteArray.empty)))) _ _ (eI d0) (by first | omega | assumption | (refine hzr _ ?_; rw [List.getD_eq_getElem?_getD, List.getElem?_eq_getElem oM]; exact List.getElem_mem _) | (have h_ := hzr _ (getD_memS (rg := rg) (k := k) oM); omega) | (rw [List.length_take]; omega)) (by first | omega | assumption | (refine hzr _ ?_; rw [List.getD_eq_getElem?_getD, List.getElem?_eq_getElem oM]; exact List.getElem_mem _) | (have h_ := hzr _ (getD_memS (rg := rg) (k := k) oM); omega) | (rw [List.length_take]; omega)) (by first | omega | assumption | (refine hzr _ ?_; rw [List.getD_eq_getElem?_getD, List.getElem?_eq_getElem oM]; exact List.getElem_mem _) | (have h_ := hzr _ (getD_memS (rg := rg) (k := k) oM); omega) | (rw [List.length_take]; omega))))) (gS rfl (fun A B E G H d0 d1 => rP (y_eql (eI d0) rfl)) (gB 0 (gB 0 (gE ok22 fun a23 s24 ok23 D11 => ?_)))); have o3 := OwnP.k0 o2 D11.stp; refine tn (wp_ret ?_)
   exact retL2 rfl ok23 (((F20.step0 D10.stp).sl hs13).step0 D11.stp) (hasT2 (ento_is (by (exact fun q hq => rd_is hrd hq)) (D11.m 5 rfl)) (cvb (by (rw [hrd]; exact rd_some.symm)) (D11.m 6 rfl)))

theorem Tryd.inf37 : Info Tryd.prog 37 (.agg #[.slice none 0 0]) 1 24 := by unfold Info; kernel_rfl
set_option maxHeartbeats 4000000 in
set_option maxRecDepth 100000 in
theorem bOpen_fn (l : List UInt8) (σ : GW) (hlow : Low [] σ) (v0 : Value) (hv0 : Ty.has (Ty.lst Ty.byte l) σ v0)  (hl : l.length ≤ 1000000000) (hglb0 : Gbk Tryd.prog GA GB σ) :
    FnL Tryd.prog 5 #[v0] σ [] (fun v τ => ∃ (bk : Value), ∃ (bl : Value), (Ty.has (Ty.tup2 (Ty.val bk) (Ty.nat (opn 1000 l).2)) τ v) ∧ (OwnP τ 40 bk [(Ty.val bl)]) ∧ (Own τ 41 49 1 bl (List.length (opn 1000 l).1) (List.map (Ty.ent 66) (opn 1000 l).1))) := by
 have hbl_ := bsL_size l
 have hex_ : ∀ i, ((bsL l).extract i (bsL l).size).size ≤ 1000000000 := fun i => (by rw [ByteArray.size_extract]; omega)
 refine fn_introL hlow Tryd.func5 rfl Tryd.ntmps5 (Nat.le_of_ble_eq_true rfl) (fun a0 F0 ok0 hargs => ?_)
 have p0 := pB (hargs 0 _ rfl) hv0
 have b1 := sl_le p0
 clear hargs; refine wp_seq ?_
 refine gI a0 σ ok0 (gC (Ty.val (Value.pointer none)) (gC (Ty.int (0 : Int)) (gE ok0 fun a1 s1 ok1 D1 => ?_))); refine tn (wp_seq ?_)
 refine gI a1 s1 ok1 (gT (Ty.agg [(Ty.val (Value.slice none 0 0))]) rfl (fun A B E G H => rP (y_bld [] [(Ty.val (Value.slice none 0 0))] (l := [(0, 1)]) rfl Tryd.inf37 rfl (alloc_vals (vs := [.slice none 0 0]) rfl) rfl (by intro p hp; cases hp))) (gR (Pr.ownp 40 [(Ty.val (Value.slice none 0 0))]) rfl (by intro A B E G H d0; exact rP (y_boxo 40 (eI d0))) (gM (D1.k p0) (gT (Ty.val (Value.string (bsL l))) rfl (fun A B E G H d0 d1 => rP (y_convBS (bs := l) Tryd.underlying22 Tryd.underlying5 Tryd.underlying9 (eI d0))) (gR (Pr.ownp 40 [(Ty.val (Value.slice none 0 0))]) rfl (by intro A B E G H d0 d1 d2 d3 d4; have e1 : (Pr.ownp 40 [(Ty.val (Value.slice none 0 0))]).has B (A.eval (.tmp 12)) := d0 rfl; exact rP (y_assign e1)) (gT (Ty.int (0 : Int)) rfl (by intro A B E G H d0 d1 d2 d3 d4 d5; have e4 : (Pr.ownp 40 [(Ty.val (Value.slice none 0 0))]).has B (A.eval (.tmp 4)) := d0 rfl; have e1 : (Pr.ownp 40 [(Ty.val (Value.slice none 0 0))]).has B (A.eval (.tmp 12)) := d2 rfl; exact rP (y_assign rfl)) (gT (Ty.val (Value.string (bsL l))) rfl (by intro A B E G H d0 d1 d2 d3 d4 d5 d6 d7; have e1 : (Pr.ownp 40 [(Ty.val (Value.slice none 0 0))]).has B (A.eval (.tmp 12)) := d3 rfl; have e4 : (Pr.ownp 40 [(Ty.val (Value.slice none 0 0))]).has B (A.eval (.tmp 4)) := d6 rfl; exact rP (y_assign (eI d0))) (gE ok1 fun a2 s2 ok2 D2 => ?_))))))))
 obtain ⟨x1, hx1⟩ : ∃ x, a2.eval (.tmp 4) = x := ⟨_, rfl⟩
 have q2 : At (Ty.val x1) s2 a2 (.tmp 4) := hx1
 have o1 := al2 (R := (Pr.ownp 40 [(Ty.val (Value.slice none 0 0))])) hx1 (D2.done 4)
 refine tn (wp_seq (wp_block ?_))
 have o2 : Own s2 41 49 1 (Value.slice none 0 0) 0 (List.map (Ty.ent 66) ([] : List Rec)) := Own.nil _ _ _ _
 refine loop (fun n1 a3 w1 => ∃ (t1 : GW) (xs : List Rec) (a : Nat) (x4_0 bl : Value), t1.w = w1 ∧ FromL [] σ t1 ∧ Ok 55 [] a3 ∧ At (Ty.val x4_0) t1 a3 (.tmp 4) ∧ At (Ty.nat a) t1 a3 (.tmp 5) ∧ At (Ty.val (Value.string (bsL l))) t1 a3 (.tmp 6) ∧ OwnP t1 40 x4_0 [(Ty.val bl)] ∧ Own t1 41 49 1 bl (List.length xs) (List.map (Ty.ent 66) xs) ∧ (xs ++ (opn (1000 - xs.length) (l.drop a)).1 = (opn 1000 l).1 ∧ a + (opn (1000 - xs.length) (l.drop a)).2 = (opn 1000 l).2) ∧ (a ≤ l.length) ∧ (xs.length ≤ 1000) ∧ n1 = 1000 - xs.length) (1000 - (([] : List Rec)).length) ?_ ?_
 ·
  exact ⟨s2, ([] : List Rec), 0, x1, (Value.slice none 0 0), rfl, ((F0.step0 D1.stp).step0 D2.stp), ok2, q2, (cJ (D2.m 5 rfl)), (D2.m 6 rfl), o1, (cvo (by (simp)) (by (simp)) o2), by simp, by omega, by simp, rfl⟩
 ·
  rintro n2 a4 w2 ⟨t2, xs, a, x4_0, bl, rfl, F3, ok3, q5, q6, q7, o3, o4, hq, ha, hx, rfl⟩
  have hxa_ := hex_ a
  refine wp_seq (wp_seq ?_)
  refine gI a4 t2 ok3 (gM q5 (gT (Ty.val x4_0) rfl (fun A B E G H d0 => rP (y_nilp (OwnP.k0 o3 E) (eI d0))) (gT (Ty.val (ptrAt x4_0 0)) rfl (fun A B E G H d0 => rP (ownp_field Tryd.fld37_0 Tryd.inf35 dE (OwnP.k0 o3 E) (eI d0))) (gS rfl (fun A B E G H d0 => rP (ownp_load Tryd.underlying35 rfl (OwnP.k0 o3 E) (eI d0) rfl)) (gT (Ty.nat (List.length xs)) rfl (fun A B E G H d0 => rP (own_len Tryd.underlying35 (al (R := (Pr.own 41 49 1 (List.length xs) (List.map (Ty.ent 66) xs))) (eI d0) (Own.k0 o4 E)))) (gS rfl (fun A B E G H d0 => rP (y_lss (eI d0) rfl)) (gE ok3 fun a5 s3 ok4 D3 => ?_))))))); have F4 := F3.step0 D3.stp; have q8 := D3.k q5; have q9 := D3.k q6; have q10 := D3.k q7; have o5 := OwnP.k0 o3 D3.stp; have o6 := Own.k0 o4 D3.stp; refine tn ?_
  refine cond_p (p := ((((List.length xs) : Nat) : Int) < (1000 : Int))) (D3.m 5 rfl) (fun c1 => ?_) (fun c1 => ?_)
  ·
   refine wp_skip (tn (wp_block (wp_seq ?_)))
   refine gI a5 s3 ok4 (gM q10 (gM q9 (gT (Ty.val (Value.string (ByteArray.extract (bsL l) a (ByteArray.size (bsL l))))) rfl (fun A B E G H d0 d1 => rP (y_sfrom (l := a) Tryd.underlying9 (eI d0) (eI d1) oM)) (gS rfl (fun A B E G H d0 => rP (y_call _ Tryd.func14 rfl rfl my2 (sCut_fn ((ByteArray.extract (bsL l) a (ByteArray.size (bsL l)))) ((ByteArray.mk #[10])) _ _ _ (eI d0) rfl (by first | omega | rfl | assumption) (by first | omega | rfl | assumption)))) (gS rfl (fun A B E G H d0 => rP (y_move (eI d0))) (gT (Ty.val (Value.string (cutA (((ByteArray.mk #[10])).get! 0) ((ByteArray.extract (bsL l) a (ByteArray.size (bsL l))))))) rfl (fun A B E G H d0 => rP (y_ext3_0 (eI d0))) (gT (Ty.val (Value.string (cutZ (((ByteArray.mk #[10])).get! 0) ((ByteArray.extract (bsL l) a (ByteArray.size (bsL l))))))) rfl (fun A B E G H d0 d1 => rP (y_ext3_1 (eI d0))) (gT (Ty.bool (!(decide (Lib.indexByte ((ByteArray.data ((ByteArray.extract (bsL l) a (ByteArray.size (bsL l))))).toList) (((ByteArray.mk #[10])).get! 0) = -1)))) rfl (fun A B E G H d0 d1 => rP (y_ext3_2 (eI d0))) (gB 0 (gB 0 (gB 0 (gE ok4 fun a6 s4 ok5 D4 => ?_)))))))))))); have o7 := OwnP.k0 o5 D4.stp; have o8 := Own.k0 o6 D4.stp
   have q17 : At (Ty.val (Value.string (cutA 10 (bsL (List.drop a l))))) s4 a6 (.tmp 7) := (cvt (by (rw [ext_tail rfl]; rfl)) (D4.m 8 rfl))
   have q18 : At (Ty.bool (!(decide ((Lib.indexByte (List.drop a l) 10) = -1)))) s4 a6 (.tmp 9) := (cvb (by (rw [ext_tail rfl, data_bsL]; rfl)) (D4.m 10 rfl))
   refine tn (wp_seq (wp_seq ?_))
   refine gI a6 s4 ok5 (gM q18 (gS rfl (fun A B E G H d0 => rP (y_not (eI d0))) (gE ok5 fun a7 s5 ok6 D5 => ?_))); have F6 := (F4.step0 D4.stp).step0 D5.stp; have q19 := D5.k (D4.k q8); have q20 := D5.k (D4.k q9); have q22 := D5.k q17; have o9 := OwnP.k0 o7 D5.stp; have o10 := Own.k0 o8 D5.stp; refine tn ?_
   refine cond_t (D5.m 1 rfl) (fun c2 => ?_) (fun c2 => ?_)
   ·
    have he : (Lib.indexByte (List.drop a l) 10) = -1 := (by simpa using c2); have hfin := opn_fin1 he hq
    refine wp_exit (tx ?_)
    refine bo dE ?_
    refine tx (bx (tn (wp_seq ?_)))
    refine gI a7 s5 ok6 (gM q19 (gM q20 (gB 0 (gB 0 (gE ok6 fun a8 s6 ok7 D6 => ?_))))); have o11 := OwnP.k0 o9 D6.stp; have o12 := Own.k0 o10 D6.stp
    have q24 : At (Ty.val x4_0) s6 a8 (.tmp 2) := D6.done 2
    refine tn (wp_ret ?_)
    exact retL2 rfl ok7 (F6.step0 D6.stp) ⟨x4_0, bl, (hasT2 q24 (cvi (by (rw [hfin.2])) (D6.m 3 rfl))), o11, (cvo (by (rw [hfin.1])) (by (rw [hfin.1])) o12)⟩
   ·
    have hne : (Lib.indexByte (List.drop a l) 10) ≠ -1 := (by simpa using c2); have hcs_ := cutA_size hne; have hld_ : (List.drop a l).length = l.length - a := List.length_drop
    refine wp_skip (tn (wp_seq ?_))
    refine gI a7 s5 ok6 (gM q22 (gS rfl (fun A B E G H d0 => rP (y_call _ Tryd.func15 rfl rfl my1 (bRead_fn ((cutA 10 (bsL (List.drop a l)))) _ _ (eI d0) (by first | omega | assumption | exact Gbk.up (GW.le_lend _ _) (Gbk.fl F6 rfl hglb0) | exact Gbk.up E.le0 (Gbk.fl F6 rfl hglb0) | exact Gbk.up (GW.le_lend _ _) (Gbk.fl F6 rfl hglb) | exact Gbk.up E.le0 (Gbk.fl F6 rfl hglb)) (by first | omega | assumption | exact Gbk.up (GW.le_lend _ _) (Gbk.fl F6 rfl hglb0) | exact Gbk.up E.le0 (Gbk.fl F6 rfl hglb0) | exact Gbk.up (GW.le_lend _ _) (Gbk.fl F6 rfl hglb) | exact Gbk.up E.le0 (Gbk.fl F6 rfl hglb))))) (gS rfl (fun A B E G H d0 => rP (y_move (eI d0))) (gT (Ty.ento 66 (readR (ByteArray.data ((cutA 10 (bsL (List.drop a l))))).toList)) rfl (fun A B E G H d0 => rP (y_ext2_0 (eI d0))) (gT (Ty.bool (Option.isSome (readR (ByteArray.data ((cutA 10 (bsL (List.drop a l))))).toList))) rfl (fun A B E G H d0 d1 => rP (y_ext2_1 (eI d0))) (gB 0 (gB 0 (gE ok6 fun a9 s7 ok8 D7 => ?_)))))))); have o13 := OwnP.k0 o9 D7.stp; have o14 := Own.k0 o10 D7.stp
    have q32 : At (Ty.ento 66 (readR (List.take (Int.toNat (Lib.indexByte (List.drop a l) 10)) (List.drop a l)))) s7 a9 (.tmp 10) := (cvt (by (rw [cutA_take hne])) (D7.m 5 rfl))
    have q33 : At (Ty.bool (Option.isSome (readR (List.take (Int.toNat (Lib.indexByte (List.drop a l) 10)) (List.drop a l))))) s7 a9 (.tmp 9) := (cvb (by (rw [cutA_take hne])) (D7.m 6 rfl))
    refine tn (wp_seq (wp_seq ?_))
    refine gI a9 s7 ok8 (gM q33 (gS rfl (fun A B E G H d0 => rP (y_not (eI d0))) (gE ok8 fun a10 s8 ok9 D8 => ?_))); have F9 := (F6.step0 D7.stp).step0 D8.stp; have q34 := D8.k (D7.k q19); have q35 := D8.k (D7.k q20); have o15 := OwnP.k0 o13 D8.stp; have o16 := Own.k0 o14 D8.stp; refine tn ?_
    refine cond_t (D8.m 1 rfl) (fun c3 => ?_) (fun c3 => ?_)
    ·
     have hfin := opn_fin2 hne (by simpa using c3) hq
     refine wp_exit (tx ?_)
     refine bo dE ?_
     refine tx (bx (tn (wp_seq ?_)))
     refine gI a10 s8 ok9 (gM q34 (gM q35 (gB 0 (gB 0 (gE ok9 fun a11 s9 ok10 D9 => ?_))))); have o17 := OwnP.k0 o15 D9.stp; have o18 := Own.k0 o16 D9.stp
     have q40 : At (Ty.val x4_0) s9 a11 (.tmp 2) := D9.done 2
     refine tn (wp_ret ?_)
     exact retL2 rfl ok10 (F9.step0 D9.stp) ⟨x4_0, bl, (hasT2 q40 (cvi (by (rw [hfin.2])) (D9.m 3 rfl))), o17, (cvo (by (rw [hfin.1])) (by (rw [hfin.1])) o18)⟩
    ·
     obtain ⟨r, hr⟩ : ∃ r, (readR (List.take (Int.toNat (Lib.indexByte (List.drop a l) 10)) (List.drop a l))) = some r := Option.isSome_iff_exists.1 (by simpa using c3)
     have q42 : At (Ty.ent 66 r) s8 a10 (.tmp 10) := ento_some (by exact hr) (D8.k q32)
     refine wp_skip (tn (wp_seq ?_))
     refine gI a10 s8 ok9 (gM q34 (gM q34 (gT (Ty.val x4_0) rfl (fun A B E G H d0 => rP (y_nilp (OwnP.k0 o15 E) (eI d0))) (gT (Ty.val (ptrAt x4_0 0)) rfl (fun A B E G H d0 => rP (ownp_field Tryd.fld37_0 Tryd.inf35 dE (OwnP.k0 o15 E) (eI d0))) (gS rfl (fun A B E G H d0 => rP (ownp_load Tryd.underlying35 rfl (OwnP.k0 o15 E) (eI d0) rfl)) (gM q42 (gT (Ty.sl 1 1 [(Ty.ent 66 r)]) rfl (fun A B E G H d0 => rP (y_build1o Tryd.underlying35 Tryd.inf49 rfl (one_ent) (eI d0))) (gE2 ok9 fun a12 s10 ok11 D10 => ?_)))))))); have o19 := OwnP.k0 o15 D10.stp; have o20 := Own.k0 o16 D10.stp
     have q47 : At (Ty.val x4_0) s10 a12 (.tmp 38) := D10.done 0 dE
     have q49 := D10.m 6 rfl
     have b2 := sl_le q49
     refine tL ok11 (YldM.toL (m_append Tryd.underlying35 Tryd.inf49 dE rfl dE (al (R := (Pr.own 41 49 1 (List.length xs) (List.map (Ty.ent 66) xs))) (D10.m 4 rfl) o20) q49 (by intro U hU; simp at hU; subst hU; exact one_ent) oM oM)) fun a13 s11 hs1 ok12 r1 sm1 => ?_
     have o22 := OwnP.kl o19 hs1
     obtain ⟨x2, hx2⟩ : ∃ x, a13.eval (.tmp 45) = x := ⟨_, rfl⟩
     have q55 : At (Ty.val x2) s11 a13 (.tmp 45) := hx2
     have o21 := al2 (R := (Pr.own 41 49 1 (List.length (xs ++ [r])) (List.map (Ty.ent 66) (xs ++ [r])))) hx2 (cvo (by simp) (by first | (rw [List.map_append]; rfl) | simp) r1)
     clear r1
     refine tL (R := (fun v τ => Pr.has (Ty.pr (Ty.val x4_0)) τ v)) ok12 (Yld.toL (y_nilp o22 (kq hs1 sm1 38 q47))) fun a14 s12 hs2 ok13 r2 sm2 => ?_
     have o23 := OwnP.kl o22 hs2
     have q61 : At (Ty.val x4_0) s12 a14 (.tmp 46) := r2
     clear r2
     refine tL (R := (fun v τ => Pr.has (Ty.pr (Ty.val (ptrAt x4_0 0))) τ v)) ok13 (Yld.toL (ownp_field Tryd.fld37_0 Tryd.inf35 dE o23 q61)) fun a15 s13 hs3 ok14 r3 sm3 => ?_
     have o26 := Own.kl (Own.kl o21 hs2) hs3
     have q67 : At (Ty.val (ptrAt x4_0 0)) s13 a15 (.tmp 47) := r3
     clear r3
     refine tailL0 (L := [40]) (R := (fun _ τ => OwnP τ 40 x4_0 ([(Ty.val bl)].set 0 (Ty.val x2)))) rfl rfl (YldM.toL (m_storep Tryd.inf35 dE (OwnP.kl o23 hs3) q67 (Nat.le_of_ble_eq_true rfl) (kq hs3 sm3 45 (kq hs2 sm2 45 q55)) (one_val (Own.one o26)))) (fun v1 s14 hs4 r4 => ?_)
     have q68 := kpL hs4 dE rfl (kq hs3 sm3 4 (kq hs2 sm2 4 (kq hs1 sm1 4 (D10.k q34)))); have q69 := kpL hs4 dE rfl (kq hs3 sm3 5 (kq hs2 sm2 5 (kq hs1 sm1 5 (D10.k q35)))); have q70 := kpL hs4 dE rfl (kq hs3 sm3 6 (kq hs2 sm2 6 (kq hs1 sm1 6 (D10.k (D8.k (D7.k (D5.k (D4.k q10)))))))); have q71 := kpL hs4 dE rfl (kq hs3 sm3 7 (kq hs2 sm2 7 (kq hs1 sm1 7 (D10.k (D8.k (D7.k q22))))))
     have o27 : OwnP s14 40 x4_0 [(Ty.val x2)] := r4
     clear r4; refine wpList_nil (tn ?_)
     refine gI a15 s14 ok14 (gM q69 (gM q71 (gT (Ty.nat (ByteArray.size (cutA 10 (bsL (List.drop a l))))) rfl (fun A B E G H d0 => rP (y_len_str Tryd.underlying9 (eI d0))) (gT (Ty.nat ((ByteArray.size (cutA 10 (bsL (List.drop a l)))) + 1)) rfl (fun A B E G H d0 => rP ((y_add (eI d0) rfl wX).mono (fun τ _ h => cN (σ := τ) h))) (gT (Ty.nat (a + ((ByteArray.size (cutA 10 (bsL (List.drop a l)))) + 1))) rfl (fun A B E G H d0 d1 => rP ((y_add (eI d0) (eI d1) wX).mono (fun τ _ h => cN (σ := τ) h))) (gB 0 (gE ok14 fun a16 s15 ok15 D11 => ?_))))))); have o29 := Own.k0 (Own.kl o26 hs4) D11.stp; have o30 := OwnP.k0 o27 D11.stp; refine bn ?_
     exact tn ⟨1000 - ((xs ++ [r])).length, by rw [List.length_append, List.length_singleton]; omega, s15, (xs ++ [r]), (a + ((Int.toNat (Lib.indexByte (List.drop a l) 10)) + 1)), x4_0, x2, rfl, ((((((F9.step0 D10.stp).sl hs1).sl hs2).sl hs3).sl hs4).step0 D11.stp), ok15, (D11.k q68), (cvi (by (omega)) (D11.m 5 rfl)), (D11.k q70), o30, (cvo (by (simp)) (by (simp)) o29), opn_next oM hne hr hq, by omega, by rw [List.length_append, List.length_singleton]; omega, rfl⟩
  ·
   have hfin := opn_fin0 oM hx hq
   refine wp_exit (tx (tx (bx (tn (wp_seq ?_)))))
   refine gI a5 s3 ok4 (gM q8 (gM q9 (gB 0 (gB 0 (gE ok4 fun a17 s16 ok16 D12 => ?_))))); have o31 := OwnP.k0 o5 D12.stp; have o32 := Own.k0 o6 D12.stp
   have q76 : At (Ty.val x4_0) s16 a17 (.tmp 2) := D12.done 2
   refine tn (wp_ret ?_)
   exact retL2 rfl ok16 (F4.step0 D12.stp) ⟨x4_0, bl, (hasT2 q76 (cvi (by (rw [hfin.2])) (D12.m 3 rfl))), o31, (cvo (by (rw [hfin.1])) (by (rw [hfin.1])) o32)⟩


set_option maxHeartbeats 4000000 in
set_option maxRecDepth 100000 in
theorem bBytesR_fn (xs : List Rec) (σ : GW)  (v0 : Value) (hv0 : Ty.has (Ty.ref [(Ty.lst (Ty.ent 66) xs)]) σ v0)  (hok : ∀ r ∈ xs, mayR r = 0) (hlz : (linesR xs).length ≤ 1000000) (hxl : xs.length ≤ 1000000) (hglb0 : Gbk Tryd.prog GA GB σ) :
    FnC Tryd.prog 10 #[v0] σ (Ty.lst Ty.byte (linesR xs)) := by
 refine fn_intro0 Tryd.func10 rfl Tryd.ntmps10 (Nat.le_of_ble_eq_true rfl) (fun s0 a0 hle F0 ok0 hargs => ?_)
 have p0 := pA hle (hargs 0 _ rfl) hv0
 clear hargs
 have hglb : Gbk Tryd.prog GA GB s0 := Gbk.up hle hglb0
 refine wp_seq ?_
 refine gI a0 s0 ok0 (gC (Ty.val (Value.slice none 0 0)) (gE ok0 fun a1 s1 ok1 D1 => ?_)); refine tn (wp_seq ?_)
 refine gI a1 s1 ok1 (gR (Pr.ownpt 59 5 [(Ty.val (Value.pointer none)), (Ty.val (Value.slice none 0 0))]) rfl (by intro A B E G H; exact rP (y_alloct Tryd.inf59 rfl (alloc_vals (vs := [.pointer none, .slice none 0 0]) rfl))) (gE ok1 fun a2 s2 ok2 D2 => ?_))
 obtain ⟨x1, hx1⟩ : ∃ x, a2.eval (.tmp 3) = x := ⟨_, rfl⟩
 have q3 : At (Ty.val x1) s2 a2 (.tmp 3) := hx1
 have o1 := al2 (R := (Pr.ownpt 59 5 [(Ty.val (Value.pointer none)), (Ty.val (Value.slice none 0 0))])) hx1 (D2.done 0)
 refine tn (wp_seq (wp_seq ?_))
 refine gI a2 s2 ok2 (gM (D2.k (D1.k p0)) (gS rfl (fun A B E G H d0 => rP (y_nilr (eI d0))) (gS rfl (fun A B E G H d0 => rP (y_field Tryd.fld37_0 Tryd.inf35 dE (eI d0) rfl)) (gS rfl (fun A B E G H d0 => rP (y_load Tryd.underlying35 rfl (eI d0) rfl)) (gS rfl (fun A B E G H d0 => rP (y_len Tryd.underlying35 (eI d0))) (gT (Ty.int (0 : Int)) rfl (fun A B E G H => rP (y_move rfl)) (gE ok2 fun a3 s3 ok3 D3 => ?_))))))); have o2 := OwnPT.k0 o1 D3.stp; have q5 := D3.m 3 rfl
 have b1 := sl_le q5
 refine tn (wp_block ?_)
 have o3 : Own s3 6 5 1 (Value.slice none 0 0) 0 (List.map Ty.byte ([] : List UInt8)) := Own.nil _ _ _ _
 refine loop (fun n1 a4 w1 => ∃ (t1 : GW) (k : Nat) (nz : Bool) (bf : Value), t1.w = w1 ∧ FromL [] s0 t1 ∧ Ok 21 [] a4 ∧ At (Ty.nat k) t1 a4 (.tmp 11) ∧ At (Ty.val x1) t1 a4 (.tmp 3) ∧ At (Ty.lst (Ty.ent 66) xs) t1 a4 (.tmp 9) ∧ At (Ty.nat (List.length xs)) t1 a4 (.tmp 10) ∧ OwnPT 59 t1 5 x1 [(Ty.val (bAddr nz x1)), (Ty.val bf)] ∧ Own t1 6 5 1 bf (List.length (linesR (xs.take k))) (List.map Ty.byte (linesR (xs.take k))) ∧ (k ≤ xs.length) ∧ n1 = xs.length - k) (xs.length - (0)) ?_ ?_
 ·
  exact ⟨s3, 0, true, (Value.slice none 0 0), rfl, (((F0.step0 D1.stp).step0 D2.stp).step0 D3.stp), ok3, (cJ (D3.m 5 rfl)), (D3.k q3), q5, (D3.m 4 rfl), (ownpt_cell 0 (Ty.val (bAddr (true) x1)) o2 rfl (fun _ _ h => (cvt (by (first | rfl | omega | (simp_all; done) | (simp_all; omega))) h))), (cvo (by (simp [linesR])) (by (simp [linesR])) o3), by omega, rfl⟩
 ·
  rintro n2 a5 w2 ⟨t2, k, nz, bf, rfl, F4, ok4, q8, q9, q10, q11, o4, o5, hk, rfl⟩
  have hll_ := lines_len (xs := xs) (k := k)
  refine wp_seq ?_
  refine gI a5 t2 ok4 (gS rfl (fun A B E G H => rP (y_lss (kp (H 11 rfl) E q8) (kp (H 10 rfl) E q11))) (gE ok4 fun a6 s4 ok5 D4 => ?_)); have F5 := F4.step0 D4.stp; have q12 := D4.k q8; have q13 := D4.k q9; have q14 := D4.k q10; have o6 := OwnPT.k0 o4 D4.stp; have o7 := Own.k0 o5 D4.stp; refine tn (wp_seq ?_)
  refine cond_p (p := (((k : Nat) : Int) < (((List.length xs) : Nat) : Int))) (D4.m 0 rfl) (fun c1 => ?_) (fun c1 => ?_)
  ·
   have hm_ := getD_memR (xs := xs) (k := k) oM; have hok2_ := hok _ hm_; have hln_ := line_len hm_; have hlp_ := line_parts (r := (xs.getD k Rec0)); have hbz_ : (bsL (lineR (xs.getD k Rec0))).size = (lineR (xs.getD k Rec0)).length := bsL_size _
   refine wp_skip (tn (wp_seq (wp_block (wp_seq ?_))))
   refine gI a6 s4 ok5 (gT (Ty.ref [(Ty.ent 66 (xs.getD k Rec0))]) rfl (fun A B E G H => rP (y_index1 Tryd.underlying35 Tryd.inf49 (kp (H 9 rfl) E q14) (kp (H 11 rfl) E q12) oM (lst_get (Ty.ent 66) xs Rec0 k oM))) (gS rfl (fun A B E G H d0 => rP (y_load Tryd.underlying49 rfl (eI d0) rfl)) (gB 0 (gE ok5 fun a7 s5 ok6 D5 => ?_)))); have F6 := F5.step0 D5.stp; have o8 := OwnPT.k0 o6 D5.stp; have o9 := Own.k0 o7 D5.stp; refine tn ?_
   refine gI a7 s5 ok6 (gM (D5.m 2 rfl) (gT (Ty.val (Value.string (bsL (lineR (xs.getD k Rec0))))) rfl (fun A B E G H d0 => rP (y_invoke (r := (xs.getD k Rec0)) (eI d0) (by kernel_rfl) Tryd.underlying66 Tryd.func108 rfl rfl (fun u_ hu_ => pLine_fn ((xs.getD k Rec0)).1 ((xs.getD k Rec0)).2.1 ((xs.getD k Rec0)).2.2.1 ((xs.getD k Rec0)).2.2.2 _ u_ hu_ (by first | omega | assumption | exact Gbk.up (GW.le_lend _ _) (Gbk.fl F6 rfl hglb0) | exact Gbk.up E.le0 (Gbk.fl F6 rfl hglb0) | exact Gbk.up (GW.le_lend _ _) (Gbk.fl F6 rfl hglb) | exact Gbk.up E.le0 (Gbk.fl F6 rfl hglb)) (by first | omega | assumption | exact Gbk.up (GW.le_lend _ _) (Gbk.fl F6 rfl hglb0) | exact Gbk.up E.le0 (Gbk.fl F6 rfl hglb0) | exact Gbk.up (GW.le_lend _ _) (Gbk.fl F6 rfl hglb) | exact Gbk.up E.le0 (Gbk.fl F6 rfl hglb)) (by first | omega | assumption | exact Gbk.up (GW.le_lend _ _) (Gbk.fl F6 rfl hglb0) | exact Gbk.up E.le0 (Gbk.fl F6 rfl hglb0) | exact Gbk.up (GW.le_lend _ _) (Gbk.fl F6 rfl hglb) | exact Gbk.up E.le0 (Gbk.fl F6 rfl hglb)) (by first | omega | assumption | exact Gbk.up (GW.le_lend _ _) (Gbk.fl F6 rfl hglb0) | exact Gbk.up E.le0 (Gbk.fl F6 rfl hglb0) | exact Gbk.up (GW.le_lend _ _) (Gbk.fl F6 rfl hglb) | exact Gbk.up E.le0 (Gbk.fl F6 rfl hglb))))) (gE2 ok6 fun a8 s6 ok7 D6 => ?_))); have q23 := D6.k (D5.k q13); have o10 := OwnPT.k0 o8 D6.stp; have o11 := Own.k0 o9 D6.stp
   refine tL ok7 (y_callL (L := [40, 41]) [(5, 40), (6, 41)] [(40, 5), (41, 6)] #[a8.eval (.tmp 3), a8.eval (.tmp 16)] rfl dE Tryd.func21 rfl rfl my2 (writeString_fn (x1) (bf) (nz) ((linesR (xs.take k))) ((bsL (lineR (xs.getD k Rec0)))) _ lW _ _ (uL q23) (uL (D6.m 1 rfl)) (OwnPT.ren (ownpt_cell 0 (Ty.val (bAddr (nz) (x1))) o10 rfl (fun _ _ h => (cvt (by (first | rfl | omega | (simp_all; done) | (simp_all; omega))) h))) (GW.ren_lend _ _ dE rfl)) (Own.ren (cvo (by (simp)) (by (simp)) o11) (GW.ren_lend _ _ dE rfl)) oM oM)) fun a9 s7 hs1 ok8 r1 sm1 => ?_
   obtain ⟨t3, ⟨x2, hT1, o12, o13⟩, B1⟩ := r1
   have q31 : At (Ty.tup2 (Ty.nat (ByteArray.size ((bsL (lineR (xs.getD k Rec0)))))) (Ty.val Value.nilIface)) s7 a9 (.tmp 17) := Ty.up _ B1.le hT1
   have o14 : OwnPT 59 s7 5 x1 [(Ty.val (bAddr false (x1))), (Ty.val x2)] := OwnPT.ren o12 (B1.ren dE rfl)
   have o15 : Own s7 6 5 1 x2 (List.length (((linesR (xs.take k))) ++ (ByteArray.data ((bsL (lineR (xs.getD k Rec0))))).toList)) (List.map Ty.byte (((linesR (xs.take k))) ++ (ByteArray.data ((bsL (lineR (xs.getD k Rec0))))).toList)) := Own.ren o13 (B1.ren dE rfl)
   refine wpList_nil (bn (tn ?_))
   refine gI a9 s7 ok8 (gT (Ty.nat (k + 1)) rfl (fun A B E G H => rP ((y_add (kp (H 11 rfl) E (kq hs1 sm1 11 (D6.k (D5.k q12)))) rfl wX).mono (fun τ _ h => cN (σ := τ) h))) (gS rfl (fun A B E G H d0 => rP (y_move (eI d0))) (gE ok8 fun a10 s8 ok9 D7 => ?_))); have o16 := OwnPT.k0 o14 D7.stp; have o17 := Own.k0 o15 D7.stp
   exact tn ⟨xs.length - ((k+1)), by omega, s8, (k+1), false, x2, rfl, (((F6.step0 D6.stp).sl hs1).step0 D7.stp), ok9, (cJ (D7.m 1 rfl)), (D7.k (kq hs1 sm1 3 q23)), (D7.k (kq hs1 sm1 9 (D6.k (D5.k q14)))), (D7.k (kq hs1 sm1 10 (D6.k (D5.k (D4.k q11))))), (ownpt_cell 0 (Ty.val (bAddr (false) x1)) o16 rfl (fun _ _ h => (cvt (by (first | rfl | omega | (simp_all; done) | (simp_all; omega))) h))), (cvo (by (rw [data_bsL, lines_step oM])) (by (rw [data_bsL, lines_step oM])) o17), by omega, rfl⟩
  ·
   have hkx : k = xs.length := oM
   refine wp_exit (tx (tx (bx (tn (wp_seq ?_)))))
   refine gI a6 s4 ok5 (gE2 ok5 fun a11 s9 ok10 D8 => ?_); have o18 := OwnPT.k0 o6 D8.stp; have o19 := Own.k0 o7 D8.stp
   refine tL ok10 (y_callL (L := [40, 41]) [(5, 40), (6, 41)] [(40, 5), (41, 6)] #[a11.eval (.tmp 3)] rfl dE Tryd.func22 rfl rfl my1 (bString_fn (x1) (bf) (nz) ((linesR (xs.take k))) _ lW _ (uL (D8.k q13)) (OwnPT.ren (ownpt_cell 0 (Ty.val (bAddr (nz) (x1))) o18 rfl (fun _ _ h => (cvt (by (first | rfl | omega | (simp_all; done) | (simp_all; omega))) h))) (GW.ren_lend _ _ dE rfl)) (Own.ren (cvo (by (simp)) (by (simp)) o19) (GW.ren_lend _ _ dE rfl)) )) fun a12 s10 hs2 ok11 r2 sm2 => ?_
   obtain ⟨t4, hT2, B2⟩ := r2
   have q37 : At (Ty.val (Value.string (bsL ((linesR (xs.take k)))))) s10 a12 (.tmp 19) := Ty.up _ B2.le hT2
   refine tL (R := (fun v τ => Pr.has (Ty.pr (Ty.lst Ty.byte ((ByteArray.data (bsL ((linesR (xs.take k))))).toList))) τ v)) ok11 (Yld.toL (y_convSB Tryd.underlying9 Tryd.underlying22 Tryd.underlying5 q37 (by (try simp only [bsL_size]); omega))) fun a13 s11 hs3 ok12 r3 sm3 => ?_
   have q38 : At (Ty.lst Ty.byte ((ByteArray.data (bsL ((linesR (xs.take k))))).toList)) s11 a13 (.tmp 20) := r3
   clear r3
   refine tL ok12 (Yld.toL (y_as q38)) fun a14 s12 hs4 ok13 r4 sm4 => ?_
   have q39 : At (Ty.lst Ty.byte ((ByteArray.data (bsL ((linesR (xs.take k))))).toList)) s12 a14 (.tmp 2) := r4
   clear r4; refine wpList_nil (tn (wp_ret ?_))
   exact retL1 rfl ok13 ((((F5.step0 D8.stp).sl hs2).sl hs3).sl hs4) (cvt (by (rw [data_bsL, hkx, List.take_length])) q39)


end Go.Proofs.YtfgkhpkbehhflaaDoor
