/- The functions that the law BookOpens reaches, each by its contract. Part 7. -/
import Derived.Test.YtfgkhpkbehhflaaDoorBookOpensW6
namespace Go.Proofs.YtfgkhpkbehhflaaDoor
open Go.KL

set_option maxHeartbeats 4000000 in
set_option maxRecDepth 100000 in
theorem bookOpens_fn (l : List UInt8) (σ : GW)  (v0 : Value) (hv0 : Ty.has (Ty.lst Ty.byte l) σ v0)  (hglb0 : Gbk Tryd.prog GA GB σ) :
    FnC Tryd.prog 3 #[v0] σ (Ty.bool true) := by
 have hol := opn_lines 1000 l
 have hok_ : ∀ r ∈ (opn 1000 l).1, mayR r = 0 := hol.2.2.1
 have hxl_ : (opn 1000 l).1.length ≤ 1000 := hol.2.2.2
 have hbn_ := byDay_n (l := (opn 1000 l).1)
 have hbr_ := byDay_rg hok_
 have hll_ : (linesR (opn 1000 l).1).length ≤ l.length := (by rw [hol.1, List.length_take]; exact Nat.min_le_right _ _)
 have hno_ := hol.2.1
 have hse_ : bsL (linesR (opn 1000 l).1) = bsL (l.take (opn 1000 l).2) := congrArg bsL hol.1
 refine fn_intro0 Tryd.func3 rfl Tryd.ntmps3 (Nat.le_of_ble_eq_true rfl) (fun s0 a0 hle F0 ok0 hargs => ?_)
 have p0 := pA hle (hargs 0 _ rfl) hv0
 have b1 := sl_le p0
 clear hargs
 have hglb : Gbk Tryd.prog GA GB s0 := Gbk.up hle hglb0
 refine wp_seq ?_
 refine gI a0 s0 ok0 (gC (Ty.bool false) (gE ok0 fun a1 s1 ok1 D1 => ?_)); have q1 := D1.k p0; refine tn (wp_seq (wp_seq ?_))
 refine gI a1 s1 ok1 (gM q1 (gS rfl (fun A B E G H d0 => rP (y_len Tryd.underlying22 (eI d0))) (gS rfl (fun A B E G H d0 => rP (y_gtr (eI d0) rfl)) (gE ok1 fun a2 s2 ok2 D2 => ?_)))); have F2 := (F0.step0 D1.stp).step0 D2.stp; have q2 := D2.k q1; refine tn ?_
 refine cond_p (p := ((4000 : Int) < (((List.length l) : Nat) : Int))) (D2.m 2 rfl) (fun c1 => ?_) (fun c1 => ?_)
 ·
  refine wp_seq ?_
  refine gI a2 s2 ok2 (gC (Ty.bool true) (gE ok2 fun a3 s3 ok3 D3 => ?_)); refine tn (wp_ret (tr ?_))
  exact retL1 rfl ok3 (F2.step0 D3.stp) (D3.m 0 rfl)
 ·
  refine wp_skip (tn (wp_seq ?_))
  refine gI a2 s2 ok2 (gM q2 (gE2 ok2 fun a4 s4 ok4 D4 => ?_)); have F4 := F2.step0 D4.stp
  refine tL ok4 (y_callL (L := []) [] [(40, 61), (41, 62)] _ rfl dE Tryd.func5 rfl rfl my1 (bOpen_fn (l) _ lW _ (uL (D4.m 0 rfl))  (by first | omega | assumption | exact Gbk.up (GW.le_lend _ _) (Gbk.fl F4 rfl hglb0) | exact Gbk.up E.le0 (Gbk.fl F4 rfl hglb0) | exact Gbk.up (GW.le_lend _ _) (Gbk.fl F4 rfl hglb) | exact Gbk.up E.le0 (Gbk.fl F4 rfl hglb)) (by first | omega | assumption | exact Gbk.up (GW.le_lend _ _) (Gbk.fl F4 rfl hglb0) | exact Gbk.up E.le0 (Gbk.fl F4 rfl hglb0) | exact Gbk.up (GW.le_lend _ _) (Gbk.fl F4 rfl hglb) | exact Gbk.up E.le0 (Gbk.fl F4 rfl hglb)))) fun a5 s5 hs1 ok5 r1 sm1 => ?_
  obtain ⟨t1, ⟨x1, x2, hT1, o1, o2⟩, B1⟩ := r1
  have q8 : At (Ty.tup2 (Ty.val x1) (Ty.nat (opn 1000 l).2)) s5 a5 (.tmp 12) := Ty.up _ B1.le hT1
  have o3 : OwnP s5 61 x1 [(Ty.val x2)] := OwnP.ren o1 (B1.ren dE rfl)
  have o4 : Own s5 62 49 1 x2 (List.length (opn 1000 l).1) (List.map (Ty.ent 66) (opn 1000 l).1) := Own.ren o2 (B1.ren dE rfl)
  refine tL ok5 (Yld.toL (y_mv q8)) fun a6 s6 hs2 ok6 r2 sm2 => ?_
  have q10 : At (Ty.tup2 (Ty.val x1) (Ty.nat (opn 1000 l).2)) s6 a6 (.tmp 10) := r2
  clear r2
  refine tL (R := (fun v τ => Pr.has (Ty.pr (Ty.val x1)) τ v)) ok6 (Yld.toL (y_ext2_0 q10)) fun a7 s7 hs3 ok7 r3 sm3 => ?_
  have q13 : At (Ty.val x1) s7 a7 (.tmp 13) := r3
  clear r3
  refine tL (R := (fun v τ => Pr.has (Ty.pr (Ty.nat (opn 1000 l).2)) τ v)) ok7 (Yld.toL (y_ext2_1 (kq hs3 sm3 10 q10))) fun a8 s8 hs4 ok8 r4 sm4 => ?_
  have q16 : At (Ty.nat (opn 1000 l).2) s8 a8 (.tmp 14) := r4
  clear r4
  refine tL ok8 (Yld.toL (y_as (kq hs4 sm4 13 q13))) fun a9 s9 hs5 ok9 r5 sm5 => ?_
  have q19 : At (Ty.val x1) s9 a9 (.tmp 3) := r5
  clear r5
  refine tL ok9 (Yld.toL (y_as (kq hs5 sm5 14 q16))) fun a10 s10 hs6 ok10 r6 sm6 => ?_
  have q20 := kq hs6 sm6 0 (kq hs5 sm5 0 (kq hs4 sm4 0 (kq hs3 sm3 0 (kq hs2 sm2 0 (kq hs1 sm1 0 (D4.k q2))))))
  have q22 : At (Ty.nat (opn 1000 l).2) s10 a10 (.tmp 4) := r6
  clear r6; refine wpList_nil (tn (wp_seq ?_))
  refine gI a10 s10 ok10 (gM q20 (gS rfl (fun A B E G H d0 => rP (y_call _ Tryd.func6 rfl rfl my1 (rOpen_fn (l) _ _ (eI d0) (by first | omega | (rw [bsL_size]; omega) | assumption)))) (gS rfl (fun A B E G H d0 => rP (y_move (eI d0))) (gT (Ty.lstc 4 recC (opn 1000 l).1) rfl (fun A B E G H d0 => rP (y_ext2_0 (eI d0))) (gT (Ty.nat (opn 1000 l).2) rfl (fun A B E G H d0 d1 => rP (y_ext2_1 (eI d0))) (gB 0 (gB 0 (gE ok10 fun a11 s11 ok11 D5 => ?_)))))))); have o15 := OwnP.k0 (OwnP.kl (OwnP.kl (OwnP.kl (OwnP.kl (OwnP.kl o3 hs2) hs3) hs4) hs5) hs6) D5.stp; have o16 := Own.k0 (Own.kl (Own.kl (Own.kl (Own.kl (Own.kl o4 hs2) hs3) hs4) hs5) hs6) D5.stp; refine tn (wp_seq ?_)
  obtain ⟨t2, e1, h1, q28⟩ := Own.seal o16 dE
  rw [← e1]
  have F12 := (((((((F4.sl hs1).sl hs2).sl hs3).sl hs4).sl hs5).sl hs6).step0 D5.stp).step h1 dE; have o17 := OwnP.keepL o15 (h1.toL (L := [62]) (by simp)) dE dE; have q29 := Ty.up (Ty.lst Ty.byte l) (h1.le dE) (D5.k q20); have q30 := Ty.up (Ty.val x1) (h1.le dE) (D5.k (kq hs6 sm6 3 q19)); have q31 := Ty.up (Ty.nat (opn 1000 l).2) (h1.le dE) (D5.k q22); have q32 := Ty.up (Ty.lstc 4 recC (opn 1000 l).1) (h1.le dE) (D5.m 5 rfl); have q33 := Ty.up (Ty.nat (opn 1000 l).2) (h1.le dE) (D5.m 6 rfl); have o18 := ownp_cellq 0 (Ty.lst (Ty.ent 66) (opn 1000 l).1) o17 rfl q28
  obtain ⟨t3, e2, h2, q34⟩ := OwnP.seal o18 dE
  rw [← e2]
  have F13 := F12.step h2 dE; have q35 := Ty.up (Ty.lst Ty.byte l) (h2.le dE) q29
  have q36 : At (Ty.ref [(Ty.lst (Ty.ent 66) (opn 1000 l).1)]) t3 a11 (.tmp 3) := by have e : a11.eval (.tmp 3) = x1 := q30; show Ty.has _ _ _; rw [e]; exact q34
  have q37 := Ty.up (Ty.nat (opn 1000 l).2) (h2.le dE) q31; have q38 := Ty.up (Ty.lstc 4 recC (opn 1000 l).1) (h2.le dE) q32; have q39 := Ty.up (Ty.nat (opn 1000 l).2) (h2.le dE) q33
  refine gI a11 t3 ok11 (gM q36 (gT (Ty.bool true) rfl (fun A B E G H d0 => rP (y_refne Tryd.underlying23 (eI d0) rfl)) (gS rfl (fun A B E G H d0 => rP (y_move (eI d0))) (gS rfl (fun A B E G H d0 => gu G (eI d0) fun hg => y_move (kp (H 4 rfl) E q37)) (gS rfl (fun A B E G H d0 => gu G (eI d0) fun hg => y_move (kp (H 6 rfl) E q39)) (gS rfl (fun A B E G H d0 d1 d2 => gu G (eI d2) fun hg => y_eql ((ef d0 rfl).1 hg) ((ef d1 rfl).1 hg)) (gS rfl (fun A B E G H d0 d1 => rP (y_pick_and (eI d0) (eI d1) rfl)) (gS rfl (fun A B E G H d0 d1 => rP (y_move (eI d0))) (gT (Ty.grd ((true && (decide ((((opn 1000 l).2 : Nat) : Int) = (((opn 1000 l).2 : Nat) : Int)))) = true) (Ty.ref [(Ty.lst (Ty.ent 66) (opn 1000 l).1)])) rfl (by intro A B E G H d0; refine run_guard G rfl rfl dE (eI d0) (fun hg => ?_); obtain ⟨d1, d2⟩ := Bool.and_eq_true_iff.mp hg; have d2 := of_decide_eq_true d2; exact y_move (kp (H 3 rfl) E q36)) (gT (Ty.grd ((true && (decide ((((opn 1000 l).2 : Nat) : Int) = (((opn 1000 l).2 : Nat) : Int)))) = true) (Ty.lstc 4 recC (byDay ((opn 1000 l).1)))) rfl (by intro A B E G H d0 d1 d2; refine run_guard G rfl rfl dE (eI d1) (fun hg => ?_); obtain ⟨d3, d4⟩ := Bool.and_eq_true_iff.mp hg; have d4 := of_decide_eq_true d4; exact y_call _ Tryd.func8 rfl rfl my1 (bAllR_fn ((opn 1000 l).1) _ _ ((ef d0 rfl).1 hg) oX oX)) ?_))))))))))
  refine gT (Ty.grd ((true && (decide ((((opn 1000 l).2 : Nat) : Int) = (((opn 1000 l).2 : Nat) : Int)))) = true) (Ty.lstc 4 recC (opn 1000 l).1)) rfl (by intro A B E G H d0; refine run_guard G rfl rfl dE (eI d0) (fun hg => ?_); obtain ⟨d5, d6⟩ := Bool.and_eq_true_iff.mp hg; have d6 := of_decide_eq_true d6; exact y_move (kp (H 5 rfl) E q38)) (gT (Ty.grd ((true && (decide ((((opn 1000 l).2 : Nat) : Int) = (((opn 1000 l).2 : Nat) : Int)))) = true) (Ty.lstc 4 recC (byDay ((opn 1000 l).1)))) rfl (by intro A B E G H d0 d1 d2; refine run_guard G rfl rfl dE (eI d2) (fun hg => ?_); obtain ⟨d7, d8⟩ := Bool.and_eq_true_iff.mp hg; have d8 := of_decide_eq_true d8; exact y_call _ Tryd.func9 rfl rfl my1 (rByDay_fn ((opn 1000 l).1) _ _ ((ef d0 rfl).1 hg) oM)) (gT (Ty.grd ((true && (decide ((((opn 1000 l).2 : Nat) : Int) = (((opn 1000 l).2 : Nat) : Int)))) = true) (Ty.bool true)) rfl (by intro A B E G H d0 d1 d2 d3; refine run_guard G rfl rfl dE (eI d3) (fun hg => ?_); obtain ⟨d9, d10⟩ := Bool.and_eq_true_iff.mp hg; have d10 := of_decide_eq_true d10; exact y_call _ Tryd.func7 rfl rfl my2 (rSames_fn ((byDay ((opn 1000 l).1))) _ _ _ ((ef d0 rfl).1 hg) ((ef d1 rfl).1 hg) oM oM)) (gS rfl (fun A B E G H d0 d1 => rP (y_pick_and (eI d0) (eI d1) rfl)) (gS rfl (fun A B E G H d0 d1 => rP (y_move (eI d0))) ?_))))
  refine gT (Ty.grd (((true && (decide ((((opn 1000 l).2 : Nat) : Int) = (((opn 1000 l).2 : Nat) : Int)))) && true) = true) (Ty.ref [(Ty.lst (Ty.ent 66) (opn 1000 l).1)])) rfl (by intro A B E G H d0; refine run_guard G rfl rfl dE (eI d0) (fun hg => ?_); obtain ⟨d11, d12⟩ := Bool.and_eq_true_iff.mp hg; obtain ⟨d13, d14⟩ := Bool.and_eq_true_iff.mp d11; have d14 := of_decide_eq_true d14; exact y_move (kp (H 3 rfl) E q36)) (gT (Ty.grd (((true && (decide ((((opn 1000 l).2 : Nat) : Int) = (((opn 1000 l).2 : Nat) : Int)))) && true) = true) (Ty.lst Ty.byte (linesR ((opn 1000 l).1)))) rfl (by intro A B E G H d0 d1 d2; refine run_guard G rfl rfl dE (eI d1) (fun hg => ?_); obtain ⟨d15, d16⟩ := Bool.and_eq_true_iff.mp hg; obtain ⟨d17, d18⟩ := Bool.and_eq_true_iff.mp d15; have d18 := of_decide_eq_true d18; exact y_call _ Tryd.func10 rfl rfl my1 (bBytesR_fn ((opn 1000 l).1) _ _ ((ef d0 rfl).1 hg) (by first | omega | assumption | exact Gbk.up (GW.le_lend _ _) (Gbk.fl F13 rfl hglb0) | exact Gbk.up E.le0 (Gbk.fl F13 rfl hglb0) | exact Gbk.up (GW.le_lend _ _) (Gbk.fl F13 rfl hglb) | exact Gbk.up E.le0 (Gbk.fl F13 rfl hglb)) (by first | omega | assumption | exact Gbk.up (GW.le_lend _ _) (Gbk.fl F13 rfl hglb0) | exact Gbk.up E.le0 (Gbk.fl F13 rfl hglb0) | exact Gbk.up (GW.le_lend _ _) (Gbk.fl F13 rfl hglb) | exact Gbk.up E.le0 (Gbk.fl F13 rfl hglb)) (by first | omega | assumption | exact Gbk.up (GW.le_lend _ _) (Gbk.fl F13 rfl hglb0) | exact Gbk.up E.le0 (Gbk.fl F13 rfl hglb0) | exact Gbk.up (GW.le_lend _ _) (Gbk.fl F13 rfl hglb) | exact Gbk.up E.le0 (Gbk.fl F13 rfl hglb)) (by first | omega | assumption | exact Gbk.up (GW.le_lend _ _) (Gbk.fl F13 rfl hglb0) | exact Gbk.up E.le0 (Gbk.fl F13 rfl hglb0) | exact Gbk.up (GW.le_lend _ _) (Gbk.fl F13 rfl hglb) | exact Gbk.up E.le0 (Gbk.fl F13 rfl hglb)))) ?_)
  refine gT (Ty.grd (((true && (decide ((((opn 1000 l).2 : Nat) : Int) = (((opn 1000 l).2 : Nat) : Int)))) && true) = true) (Ty.val (Value.string (bsL (linesR ((opn 1000 l).1)))))) rfl (by intro A B E G H d0 d1; refine run_guard G rfl rfl dE (eI d1) (fun hg => ?_); obtain ⟨d19, d20⟩ := Bool.and_eq_true_iff.mp hg; obtain ⟨d21, d22⟩ := Bool.and_eq_true_iff.mp d19; have d22 := of_decide_eq_true d22; exact y_convBS (bs := (linesR ((opn 1000 l).1))) Tryd.underlying22 Tryd.underlying5 Tryd.underlying9 ((ef d0 rfl).1 hg)) (gT (Ty.grd (((true && (decide ((((opn 1000 l).2 : Nat) : Int) = (((opn 1000 l).2 : Nat) : Int)))) && true) = true) (Ty.lst Ty.byte l)) rfl (by intro A B E G H d0; refine run_guard G rfl rfl dE (eI d0) (fun hg => ?_); obtain ⟨d23, d24⟩ := Bool.and_eq_true_iff.mp hg; obtain ⟨d25, d26⟩ := Bool.and_eq_true_iff.mp d23; have d26 := of_decide_eq_true d26; exact y_move (kp (H 0 rfl) E q35)) (gT (Ty.grd (((true && (decide ((((opn 1000 l).2 : Nat) : Int) = (((opn 1000 l).2 : Nat) : Int)))) && true) = true) (Ty.nat (opn 1000 l).2)) rfl (by intro A B E G H d0; refine run_guard G rfl rfl dE (eI d0) (fun hg => ?_); obtain ⟨d27, d28⟩ := Bool.and_eq_true_iff.mp hg; obtain ⟨d29, d30⟩ := Bool.and_eq_true_iff.mp d27; have d30 := of_decide_eq_true d30; exact y_move (kp (H 4 rfl) E q37)) (gT (Ty.grd (((true && (decide ((((opn 1000 l).2 : Nat) : Int) = (((opn 1000 l).2 : Nat) : Int)))) && true) = true) (Ty.lst Ty.byte (l.take (opn 1000 l).2))) rfl (by intro A B E G H d0 d1 d2; refine run_guard G rfl rfl dE (eI d2) (fun hg => ?_); obtain ⟨d31, d32⟩ := Bool.and_eq_true_iff.mp hg; obtain ⟨d33, d34⟩ := Bool.and_eq_true_iff.mp d31; have d34 := of_decide_eq_true d34; exact y_take Tryd.underlying22 Tryd.inf5 ((ef d0 rfl).1 hg) ((ef d1 rfl).1 hg) oM) ?_)))
  refine gT (Ty.grd (((true && (decide ((((opn 1000 l).2 : Nat) : Int) = (((opn 1000 l).2 : Nat) : Int)))) && true) = true) (Ty.val (Value.string (bsL (l.take (opn 1000 l).2))))) rfl (by intro A B E G H d0 d1; refine run_guard G rfl rfl dE (eI d1) (fun hg => ?_); obtain ⟨d35, d36⟩ := Bool.and_eq_true_iff.mp hg; obtain ⟨d37, d38⟩ := Bool.and_eq_true_iff.mp d35; have d38 := of_decide_eq_true d38; exact y_convBS (bs := (l.take (opn 1000 l).2)) Tryd.underlying22 Tryd.underlying5 Tryd.underlying9 ((ef d0 rfl).1 hg)) (gT (Ty.grd (((true && (decide ((((opn 1000 l).2 : Nat) : Int) = (((opn 1000 l).2 : Nat) : Int)))) && true) = true) (Ty.bool (decide ((bsL (linesR ((opn 1000 l).1))) = (bsL (l.take (opn 1000 l).2)))))) rfl (by intro A B E G H d0 d1 d2; refine run_guard G rfl rfl dE (eI d2) (fun hg => ?_); obtain ⟨d39, d40⟩ := Bool.and_eq_true_iff.mp hg; obtain ⟨d41, d42⟩ := Bool.and_eq_true_iff.mp d39; have d42 := of_decide_eq_true d42; exact y_seql Tryd.underlying9 ((ef d0 rfl).1 hg) ((ef d1 rfl).1 hg)) (gS rfl (fun A B E G H d0 d1 => rP (y_pick_and (eI d0) (eI d1) rfl)) (gB 0 (gE ok11 fun a12 s12 ok12 D6 => ?_)))); refine tn (wp_ret ?_)
  exact retL1 rfl ok12 (F13.step0 D6.stp) (cvb (by (simp [hse_])) (D6.m 24 rfl))


end Go.Proofs.YtfgkhpkbehhflaaDoor
