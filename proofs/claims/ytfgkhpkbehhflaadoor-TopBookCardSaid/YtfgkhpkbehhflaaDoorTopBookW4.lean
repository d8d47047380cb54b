/- The functions that the law TopBook reaches, each by its contract. Part 4. -/
import Derived.Test.YtfgkhpkbehhflaaDoorTopBookW3
namespace Go.Proofs.YtfgkhpkbehhflaaDoor
open Go.KL

set_option maxHeartbeats 4000000 in
set_option maxRecDepth 100000 in
theorem topBook_fn (raw : List Int) (cu : Int) (ap : Int) (bb : Int) (σ : GW)  (v0 v1 v2 v3 : Value) (hv0 : Ty.has (Ty.lst Ty.int raw) σ v0) (hv1 : Ty.has (Ty.int cu) σ v1) (hv2 : Ty.has (Ty.int ap) σ v2) (hv3 : Ty.has (Ty.int bb) σ v3)  (hraw : ∀ x ∈ raw, -9223372036854775808 ≤ x ∧ x ≤ 9223372036854775807) (hcu : -9223372036854775808 ≤ cu ∧ cu ≤ 9223372036854775807) (hap : -9223372036854775808 ≤ ap ∧ ap ≤ 9223372036854775807) (hbb : -9223372036854775808 ≤ bb ∧ bb ≤ 9223372036854775807) (hglb0 : Gbk Tryd.prog GA GB σ) :
    FnC Tryd.prog 4 #[v0, v1, v2, v3] σ (Ty.bool true) := by
 refine fn_intro0 Tryd.func4 rfl Tryd.ntmps4 (Nat.le_of_ble_eq_true rfl) (fun s0 a0 hle F0 ok0 hargs => ?_)
 have p0 := pA hle (hargs 0 _ rfl) hv0
 have b1 := sl_le p0
 have p1 := pA hle (hargs 1 _ rfl) hv1
 have p2 := pA hle (hargs 2 _ rfl) hv2
 have p3 := pA hle (hargs 3 _ rfl) hv3
 clear hargs
 have hglb : Gbk Tryd.prog GA GB s0 := Gbk.up hle hglb0
 refine wp_seq ?_
 refine gI a0 s0 ok0 (gC (Ty.bool false) (gE ok0 fun a1 s1 ok1 D1 => ?_)); have q1 := D1.k p0; refine tn (wp_seq (wp_seq ?_))
 refine gI a1 s1 ok1 (gM q1 (gS rfl (fun A B E G H d0 => rP (y_len Tryd.underlying34 (eI d0))) (gS rfl (fun A B E G H d0 => rP (y_gtr (eI d0) rfl)) (gE ok1 fun a2 s2 ok2 D2 => ?_)))); have F2 := (F0.step0 D1.stp).step0 D2.stp; refine tn ?_
 refine cond_p (p := ((20 : Int) < (((List.length raw) : Nat) : Int))) (D2.m 2 rfl) (fun c1 => ?_) (fun c1 => ?_)
 ·
  refine wp_seq ?_
  refine gI a2 s2 ok2 (gC (Ty.bool true) (gE ok2 fun a3 s3 ok3 D3 => ?_)); refine tn (wp_ret (tr ?_))
  exact retL1 rfl ok3 (F2.step0 D3.stp) (D3.m 0 rfl)
 ·
  refine wp_skip (tn (wp_seq ?_))
  refine gI a2 s2 ok2 (gR (Pr.ownp 40 [(Ty.val (Value.slice none 0 0))]) rfl (by intro A B E G H; exact rP (y_alloc Tryd.inf37 rfl (alloc_vals (vs := [.slice none 0 0]) rfl))) (gE ok2 fun a4 s4 ok4 D4 => ?_))
  obtain ⟨x1, hx1⟩ : ∃ x, a4.eval (.tmp 9) = x := ⟨_, rfl⟩
  have q15 : At (Ty.val x1) s4 a4 (.tmp 9) := hx1
  have o1 := al2 (R := (Pr.ownp 40 [(Ty.val (Value.slice none 0 0))])) hx1 (D4.done 0)
  refine tn (wp_seq ?_)
  refine gI a4 s4 ok4 (gC (Ty.val (Value.slice none 0 0)) (gE ok4 fun a5 s5 ok5 D5 => ?_)); have o2 := OwnP.k0 o1 D5.stp; refine tn (wp_seq (wp_seq ?_))
  refine gI a5 s5 ok5 (gC (Ty.int (0 : Int)) (gE ok5 fun a6 s6 ok6 D6 => ?_)); have o3 := OwnP.k0 o2 D6.stp; refine tn (wp_block ?_)
  have o4 : Own s6 42 3 1 (Value.slice none 0 0) 0 (List.map Ty.int ([] : List Int)) := Own.nil _ _ _ _
  have o5 : Own s6 41 49 1 (Value.slice none 0 0) 0 (List.map (Ty.ent 66) ([] : List Rec)) := Own.nil _ _ _ _
  refine loop (fun n1 a7 w1 => ∃ (t1 : GW) (i : Nat) (xs : List Rec) (x9_0 x10_0 bl : Value), t1.w = w1 ∧ FromL [] s0 t1 ∧ Ok 154 [] a7 ∧ At (Ty.val x9_0) t1 a7 (.tmp 9) ∧ At (Ty.val x10_0) t1 a7 (.tmp 10) ∧ At (Ty.nat i) t1 a7 (.tmp 11) ∧ At (Ty.lst Ty.int raw) t1 a7 (.tmp 0) ∧ At (Ty.int cu) t1 a7 (.tmp 1) ∧ At (Ty.int ap) t1 a7 (.tmp 2) ∧ At (Ty.int bb) t1 a7 (.tmp 3) ∧ OwnP t1 40 x9_0 [(Ty.val bl)] ∧ Own t1 42 3 1 x10_0 (List.length (endsB xs)) (List.map Ty.int (endsB xs)) ∧ Own t1 41 49 1 bl (List.length xs) (List.map (Ty.ent 66) xs) ∧ (∀ r ∈ xs, RecG r) ∧ (i ≤ raw.length) ∧ (xs.length = i) ∧ n1 = raw.length - i) (raw.length - (0)) ?_ ?_
  ·
   exact ⟨s6, 0, ([] : List Rec), x1, (Value.slice none 0 0), (Value.slice none 0 0), rfl, (((F2.step0 D4.stp).step0 D5.stp).step0 D6.stp), ok6, (D6.k (D5.k q15)), (D6.k (D5.m 0 rfl)), (cvi (by (rfl)) (D6.m 0 rfl)), (D6.k (D5.k (D4.k (D2.k q1)))), (D6.k (D5.k (D4.k (D2.k (D1.k p1))))), (D6.k (D5.k (D4.k (D2.k (D1.k p2))))), (D6.k (D5.k (D4.k (D2.k (D1.k p3))))), o3, (cvo (by (first | rfl | simp [endsB])) (by (first | rfl | simp [endsB])) o4), (cvo (by (simp)) (by (simp)) o5), by simp, by omega, rfl, rfl⟩
  ·
   rintro n2 a8 w2 ⟨t2, i, xs, x9_0, x10_0, bl, rfl, F7, ok7, q29, q30, q31, q32, q33, q34, q35, o6, o7, o8, hok, hi, hxi, rfl⟩
   have hel_ := endsB_len (xs := xs)
   refine wp_seq (wp_seq ?_)
   refine gI a8 t2 ok7 (gM q31 (gM q32 (gS rfl (fun A B E G H d0 => rP (y_len Tryd.underlying34 (eI d0))) (gS rfl (fun A B E G H d0 d1 => rP (y_lss (eI d0) (eI d1))) (gE ok7 fun a9 s7 ok8 D7 => ?_))))); have F8 := F7.step0 D7.stp; have q36 := D7.k q29; have q37 := D7.k q30; have q38 := D7.k q31; have q39 := D7.k q32; have q40 := D7.k q33; have q41 := D7.k q34; have q42 := D7.k q35; have o9 := OwnP.k0 o6 D7.stp; have o10 := Own.k0 o7 D7.stp; have o11 := Own.k0 o8 D7.stp; have q43 := D7.m 3 rfl; refine tn ?_
   refine cond_p (p := (((i : Nat) : Int) < (((List.length raw) : Nat) : Int))) q43 (fun c2 => ?_) (fun c2 => ?_)
   ·
    have hri_ := hraw _ (getD_memI (l := raw) (k := i) oM)
    refine wp_skip (tn (wp_seq (wp_block (wp_seq ?_))))
    refine gI a9 s7 ok8 (gM q39 (gM q38 (gT (Ty.ref [(Ty.int (raw.getD i 0))]) rfl (fun A B E G H d0 d1 => rP (y_index1 Tryd.underlying34 Tryd.inf3 (eI d0) (eI d1) oM (lst_get Ty.int raw 0 i oM))) (gS rfl (fun A B E G H d0 => rP (y_load Tryd.underlying3 rfl (eI d0) rfl)) (gE2 ok8 fun a10 s8 ok9 D8 => ?_))))); have o12 := OwnP.k0 o9 D8.stp; have o13 := Own.k0 o10 D8.stp; have o14 := Own.k0 o11 D8.stp
    refine tL ok9 (y_callL (L := []) [] [] _ rfl dE Tryd.func12 rfl rfl my1 (rRecOf_fn ((raw.getD i 0)) _ lW _ (uL (cvi (σ := s8) oX (D8.m 3 rfl)))  oX)) fun a11 s9 hs1 ok10 r1 sm1 => ?_
    have q52 := kq hs1 sm1 9 (D8.k q36)
    obtain ⟨t3, ⟨g1, g2, g3, g4, hT1, hp1⟩, B1⟩ := r1
    have q59 : At (Ty.agg [(Ty.int (g1)), (Ty.int (g2)), (Ty.val (Value.string (g3))), (Ty.lst Ty.str (g4))]) s9 a11 (.tmp 32) := Ty.up _ B1.le hT1
    refine tL ok10 (y_callL (L := [40, 41]) [(40, 40), (41, 41)] [(40, 40), (41, 41)] #[a11.eval (.tmp 9), a11.eval (.tmp 32)] rfl dE Tryd.func11 rfl rfl my2 (bAdd_fn (x9_0) (bl) (xs) ((g1)) ((g2)) ((g3)) ((g4)) _ lW _ _ (uL q52) (uL q59) (OwnP.ren (OwnP.kl o12 hs1) (GW.ren_lend _ _ dE rfl)) (Own.ren (Own.kl o14 hs1) (GW.ren_lend _ _ dE rfl)) (by first | omega | assumption | exact (by assumption : RecG _).1 | exact (by assumption : RecG _).2.1 | exact (by assumption : RecG _).2.2.1) (by first | omega | assumption | exact (by assumption : RecG _).1 | exact (by assumption : RecG _).2.1 | exact (by assumption : RecG _).2.2.1) (by first | omega | assumption | exact (by assumption : RecG _).1 | exact (by assumption : RecG _).2.1 | exact (by assumption : RecG _).2.2.1) (by first | omega | assumption | exact (by assumption : RecG _).1 | exact (by assumption : RecG _).2.1 | exact (by assumption : RecG _).2.2.1))) fun a12 s10 hs2 ok11 r2 sm2 => ?_
    obtain ⟨t4, ⟨x2, hT2, o18, o19⟩, B2⟩ := r2
    have q67 : At (Ty.int (0 : Int)) s10 a12 (.tmp 33) := Ty.up _ B2.le hT2
    have o20 : OwnP s10 40 x9_0 [(Ty.val x2)] := OwnP.ren o18 (B2.ren dE rfl)
    have o21 : Own s10 41 49 1 x2 (List.length (xs ++ [(((g1)), ((g2)), ((g3)), ((g4)))])) (List.map (Ty.ent 66) (xs ++ [(((g1)), ((g2)), ((g3)), ((g4)))])) := Own.ren o19 (B2.ren dE rfl)
    refine tL ok11 (Yld.toL (y_as q67)) fun a13 s11 hs3 ok12 r3 sm3 => ?_
    have q75 : At (Ty.int (0 : Int)) s11 a13 (.tmp 12) := r3
    clear r3; refine wpList_nil (tn (wp_seq (wp_seq ?_)))
    refine gI a13 s11 ok12 (gM q75 (gT (Ty.bool false) rfl (fun A B E G H d0 => rP ((y_neq (eI d0) rfl).mono (fun τ _ h => cvb (σ := τ) dE h))) (gE ok12 fun a14 s12 ok13 D9 => ?_))); have q77 := D9.k (kq hs3 sm3 10 (kq hs2 sm2 10 (kq hs1 sm1 10 (D8.k q37)))); have o26 := Own.k0 (Own.kl (Own.kl (Own.kl o13 hs1) hs2) hs3) D9.stp; have o27 := OwnP.k0 (OwnP.kl o20 hs3) D9.stp; have o28 := Own.k0 (Own.kl o21 hs3) D9.stp; refine tn ?_
    refine cond_t (D9.m 1 rfl) (fun c3 => (by cases c3)) (fun _ => ?_)
    refine wp_skip (tn ?_)
    have hok2_ : ∀ r ∈ (xs ++ [(g1, g2, g3, g4)]), RecG r := fun r hr => (List.mem_append.1 hr).elim (hok r) (fun h_ => by rw [List.mem_singleton.1 h_]; assumption)
    have hlz_ := lines_le hok2_
    have hxl_ : (xs ++ [(g1, g2, g3, g4)]).length = xs.length + 1 := by rw [List.length_append, List.length_singleton]
    have hmz_ : ∀ r ∈ (xs ++ [(g1, g2, g3, g4)]), mayR r = 0 := fun r hr => (hok2_ r hr).1
    refine gI a14 s12 ok13 (gM q77 (gE2 ok13 fun a15 s13 ok14 D10 => ?_)); have F14 := (((((F8.step0 D8.stp).sl hs1).sl hs2).sl hs3).step0 D9.stp).step0 D10.stp; have q84 := D10.k (D9.k (kq hs3 sm3 9 (kq hs2 sm2 9 q52))); have o29 := Own.k0 o26 D10.stp; have o30 := OwnP.k0 o27 D10.stp; have o31 := Own.k0 o28 D10.stp
    have q91 : At (Ty.val x10_0) s13 a15 (.tmp 36) := D10.done 0 dE
    refine tL ok14 (y_callL (L := [40, 41]) [(40, 40), (41, 41)] [(40, 40), (41, 41)] #[a15.eval (.tmp 9)] rfl dE Tryd.func10 rfl rfl my1 (bBytesF_fn (x9_0) (x2) ((xs ++ [(((g1)), ((g2)), ((g3)), ((g4)))])) ((GW.w s0).heap.size) _ lW _ (uL q84) (OwnP.ren o30 (GW.ren_lend _ _ dE rfl)) (Own.ren (cvo (by (simp)) (by (simp)) o31) (GW.ren_lend _ _ dE rfl)) (by first | omega | assumption | exact Gbk.up (GW.le_lend _ _) (Gbk.fl F14 rfl hglb0) | exact Gbk.up E.le0 (Gbk.fl F14 rfl hglb0) | exact Gbk.up (GW.le_lend _ _) (Gbk.fl F14 rfl hglb) | exact Gbk.up E.le0 (Gbk.fl F14 rfl hglb) | exact F14.stp.size | exact Nat.le_trans F14.stp.size E.size) (by first | omega | assumption | exact Gbk.up (GW.le_lend _ _) (Gbk.fl F14 rfl hglb0) | exact Gbk.up E.le0 (Gbk.fl F14 rfl hglb0) | exact Gbk.up (GW.le_lend _ _) (Gbk.fl F14 rfl hglb) | exact Gbk.up E.le0 (Gbk.fl F14 rfl hglb) | exact F14.stp.size | exact Nat.le_trans F14.stp.size E.size) (by first | omega | assumption | exact Gbk.up (GW.le_lend _ _) (Gbk.fl F14 rfl hglb0) | exact Gbk.up E.le0 (Gbk.fl F14 rfl hglb0) | exact Gbk.up (GW.le_lend _ _) (Gbk.fl F14 rfl hglb) | exact Gbk.up E.le0 (Gbk.fl F14 rfl hglb) | exact F14.stp.size | exact Nat.le_trans F14.stp.size E.size) (by first | omega | assumption | exact Gbk.up (GW.le_lend _ _) (Gbk.fl F14 rfl hglb0) | exact Gbk.up E.le0 (Gbk.fl F14 rfl hglb0) | exact Gbk.up (GW.le_lend _ _) (Gbk.fl F14 rfl hglb) | exact Gbk.up E.le0 (Gbk.fl F14 rfl hglb) | exact F14.stp.size | exact Nat.le_trans F14.stp.size E.size) (by first | omega | assumption | exact Gbk.up (GW.le_lend _ _) (Gbk.fl F14 rfl hglb0) | exact Gbk.up E.le0 (Gbk.fl F14 rfl hglb0) | exact Gbk.up (GW.le_lend _ _) (Gbk.fl F14 rfl hglb) | exact Gbk.up E.le0 (Gbk.fl F14 rfl hglb) | exact F14.stp.size | exact Nat.le_trans F14.stp.size E.size))) fun a16 s14 hs4 ok15 r4 sm4 => ?_
    obtain ⟨t5, ⟨hT3, o32, o33⟩, B3⟩ := r4
    have q100 : At (Ty.frshB ((GW.w s0).heap.size) (linesR ((xs ++ [(((g1)), ((g2)), ((g3)), ((g4)))])))) s14 a16 (.tmp 37) := Ty.up _ B3.le hT3
    have o34 : OwnP s14 40 x9_0 [(Ty.val x2)] := OwnP.ren o32 (B3.ren dE rfl)
    have o35 : Own s14 41 49 1 x2 (List.length ((xs ++ [(((g1)), ((g2)), ((g3)), ((g4)))]))) (List.map (Ty.ent 66) ((xs ++ [(((g1)), ((g2)), ((g3)), ((g4)))]))) := Own.ren o33 (B3.ren dE rfl)
    refine tL (R := (fun v τ => Pr.has (Ty.pr (Ty.nat (List.length (linesR ((xs ++ [(((g1)), ((g2)), ((g3)), ((g4)))])))))) τ v)) ok15 (Yld.toL (y_len Tryd.underlying22 (frshB_lst q100))) fun a17 s15 hs5 ok16 r5 sm5 => ?_
    have q109 : At (Ty.nat (List.length (linesR ((xs ++ [(((g1)), ((g2)), ((g3)), ((g4)))]))))) s15 a17 (.tmp 38) := r5
    clear r5
    refine tL (R := (fun v τ => Pr.has (Ty.pr (Ty.sl 1 1 [(Ty.nat (List.length (linesR ((xs ++ [(((g1)), ((g2)), ((g3)), ((g4)))])))))])) τ v)) ok16 (Yld.toL (y_build1o Tryd.underlying34 Tryd.inf3 rfl (one_val rfl) q109)) fun a18 s16 hs6 ok17 r6 sm6 => ?_
    have q118 : At (Ty.sl 1 1 [(Ty.nat (List.length (linesR ((xs ++ [(((g1)), ((g2)), ((g3)), ((g4)))])))))]) s16 a18 (.tmp 39) := r6
    clear r6
    refine tL ok17 (YldM.toL (m_append Tryd.underlying34 Tryd.inf3 dE rfl dE (al (R := (Pr.own 42 3 1 (List.length (endsB xs)) (List.map Ty.int (endsB xs)))) (kq hs6 sm6 36 (kq hs5 sm5 36 (kq hs4 sm4 36 q91))) (Own.kl (Own.kl (Own.kl o29 hs4) hs5) hs6)) q118 (by intro U hU; simp at hU; subst hU; exact one_val rfl) oM oM)) fun a19 s17 hs7 ok18 r7 sm7 => ?_
    have q120 := kq hs7 sm7 10 (kq hs6 sm6 10 (kq hs5 sm5 10 (kq hs4 sm4 10 (D10.k q77))))
    obtain ⟨x3, hx2⟩ : ∃ x, a19.eval (.tmp 40) = x := ⟨_, rfl⟩
    have q126 : At (Ty.val x3) s17 a19 (.tmp 40) := hx2
    have o43 := al2 (R := (Pr.own 42 3 1 (List.length ((endsB xs) ++ [(((List.length (linesR ((xs ++ [(((g1)), ((g2)), ((g3)), ((g4)))])))) : Nat) : Int)])) (List.map Ty.int ((endsB xs) ++ [(((List.length (linesR ((xs ++ [(((g1)), ((g2)), ((g3)), ((g4)))])))) : Nat) : Int)])))) hx2 (cvo (by simp) (by first | (rw [List.map_append]; rfl) | simp) r7)
    clear r7
    refine tL ok18 (Yld.toL (y_as q126)) fun a20 s18 hs8 ok19 r8 sm8 => ?_
    have q133 : At (Ty.val x3) s18 a20 (.tmp 10) := r8
    clear r8; refine wpList_nil (bn (tn ?_))
    refine gI a20 s18 ok19 (gM (kq hs8 sm8 11 (kq hs7 sm7 11 (kq hs6 sm6 11 (kq hs5 sm5 11 (kq hs4 sm4 11 (D10.k (D9.k (kq hs3 sm3 11 (kq hs2 sm2 11 (kq hs1 sm1 11 (D8.k q38))))))))))) (gT (Ty.nat (i + 1)) rfl (fun A B E G H d0 => rP ((y_add (eI d0) rfl wX).mono (fun τ _ h => cN (σ := τ) h))) (gB 0 (gE ok19 fun a21 s19 ok20 D11 => ?_)))); have o49 := OwnP.k0 (OwnP.kl (OwnP.kl (OwnP.kl (OwnP.kl o34 hs5) hs6) hs7) hs8) D11.stp; have o50 := Own.k0 (Own.kl (Own.kl (Own.kl (Own.kl o35 hs5) hs6) hs7) hs8) D11.stp; have o51 := Own.k0 (Own.kl o43 hs8) D11.stp
    exact tn ⟨raw.length - ((i + 1)), by omega, s19, (i + 1), (xs ++ [(g1, g2, g3, g4)]), x9_0, x3, x2, rfl, ((((((F14.sl hs4).sl hs5).sl hs6).sl hs7).sl hs8).step0 D11.stp), ok20, (D11.k (kq hs8 sm8 9 (kq hs7 sm7 9 (kq hs6 sm6 9 (kq hs5 sm5 9 (kq hs4 sm4 9 q84)))))), (D11.k q133), (cJ (D11.m 2 rfl)), (D11.k (kq hs8 sm8 0 (kq hs7 sm7 0 (kq hs6 sm6 0 (kq hs5 sm5 0 (kq hs4 sm4 0 (D10.k (D9.k (kq hs3 sm3 0 (kq hs2 sm2 0 (kq hs1 sm1 0 (D8.k q39)))))))))))), (D11.k (kq hs8 sm8 1 (kq hs7 sm7 1 (kq hs6 sm6 1 (kq hs5 sm5 1 (kq hs4 sm4 1 (D10.k (D9.k (kq hs3 sm3 1 (kq hs2 sm2 1 (kq hs1 sm1 1 (D8.k q40)))))))))))), (D11.k (kq hs8 sm8 2 (kq hs7 sm7 2 (kq hs6 sm6 2 (kq hs5 sm5 2 (kq hs4 sm4 2 (D10.k (D9.k (kq hs3 sm3 2 (kq hs2 sm2 2 (kq hs1 sm1 2 (D8.k q41)))))))))))), (D11.k (kq hs8 sm8 3 (kq hs7 sm7 3 (kq hs6 sm6 3 (kq hs5 sm5 3 (kq hs4 sm4 3 (D10.k (D9.k (kq hs3 sm3 3 (kq hs2 sm2 3 (kq hs1 sm1 3 (D8.k q42)))))))))))), o49, (cvo (by (rw [ends_snoc])) (by (rw [ends_snoc])) o51), (cvo (by (simp)) (by (simp)) o50), hok2_, by omega, by rw [List.length_append, List.length_singleton]; omega, rfl⟩
   ·
    have hie : i = raw.length := oM; have hL_ := lines_le hok; have hmz_ : ∀ r ∈ xs, mayR r = 0 := fun r hr => (hok r hr).1; have hge_ := lines_ge (xs := xs)
    refine wp_exit (tx (tx (bx (tn (wp_seq ?_)))))
    obtain ⟨t6, e1, h1, q141⟩ := Own.seal o10 dE
    rw [← e1]
    have F21 := F8.step h1 dE; have o52 := OwnP.keepL o9 (h1.toL (L := [42]) (by simp)) dE dE; have o53 := Own.keepL o11 (h1.toL (L := [42]) (by simp)) dE dE; have q142 := Ty.up (Ty.val x9_0) (h1.le dE) q36
    have q143 : At (Ty.lst Ty.int (endsB xs)) t6 a9 (.tmp 10) := by have e : a9.eval (.tmp 10) = x10_0 := q37; show Ty.has _ _ _; rw [e]; exact q141
    have q144 := Ty.up (Ty.nat i) (h1.le dE) q38; have q145 := Ty.up (Ty.lst Ty.int raw) (h1.le dE) q39; have q146 := Ty.up (Ty.int cu) (h1.le dE) q40; have q147 := Ty.up (Ty.int ap) (h1.le dE) q41; have q148 := Ty.up (Ty.int bb) (h1.le dE) q42; have q149 := Ty.up (Ty.bool (decide (((i : Nat) : Int) < (((List.length raw) : Nat) : Int)))) (h1.le dE) q43
    refine gI a9 t6 ok8 (gE2 ok8 fun a22 s20 ok21 D12 => ?_); have F22 := F21.step0 D12.stp; have o54 := OwnP.k0 o52 D12.stp; have o55 := Own.k0 o53 D12.stp
    refine tL ok21 (y_callL (L := [40, 41]) [(40, 40), (41, 41)] [(40, 40), (41, 41)] #[a22.eval (.tmp 9)] rfl dE Tryd.func10 rfl rfl my1 (bBytesF_fn (x9_0) (bl) (xs) ((GW.w s0).heap.size) _ lW _ (uL (D12.k q142)) (OwnP.ren o54 (GW.ren_lend _ _ dE rfl)) (Own.ren o55 (GW.ren_lend _ _ dE rfl)) (by first | omega | assumption | exact Gbk.up (GW.le_lend _ _) (Gbk.fl F22 rfl hglb0) | exact Gbk.up E.le0 (Gbk.fl F22 rfl hglb0) | exact Gbk.up (GW.le_lend _ _) (Gbk.fl F22 rfl hglb) | exact Gbk.up E.le0 (Gbk.fl F22 rfl hglb) | exact F22.stp.size | exact Nat.le_trans F22.stp.size E.size) (by first | omega | assumption | exact Gbk.up (GW.le_lend _ _) (Gbk.fl F22 rfl hglb0) | exact Gbk.up E.le0 (Gbk.fl F22 rfl hglb0) | exact Gbk.up (GW.le_lend _ _) (Gbk.fl F22 rfl hglb) | exact Gbk.up E.le0 (Gbk.fl F22 rfl hglb) | exact F22.stp.size | exact Nat.le_trans F22.stp.size E.size) (by first | omega | assumption | exact Gbk.up (GW.le_lend _ _) (Gbk.fl F22 rfl hglb0) | exact Gbk.up E.le0 (Gbk.fl F22 rfl hglb0) | exact Gbk.up (GW.le_lend _ _) (Gbk.fl F22 rfl hglb) | exact Gbk.up E.le0 (Gbk.fl F22 rfl hglb) | exact F22.stp.size | exact Nat.le_trans F22.stp.size E.size) (by first | omega | assumption | exact Gbk.up (GW.le_lend _ _) (Gbk.fl F22 rfl hglb0) | exact Gbk.up E.le0 (Gbk.fl F22 rfl hglb0) | exact Gbk.up (GW.le_lend _ _) (Gbk.fl F22 rfl hglb) | exact Gbk.up E.le0 (Gbk.fl F22 rfl hglb) | exact F22.stp.size | exact Nat.le_trans F22.stp.size E.size) (by first | omega | assumption | exact Gbk.up (GW.le_lend _ _) (Gbk.fl F22 rfl hglb0) | exact Gbk.up E.le0 (Gbk.fl F22 rfl hglb0) | exact Gbk.up (GW.le_lend _ _) (Gbk.fl F22 rfl hglb) | exact Gbk.up E.le0 (Gbk.fl F22 rfl hglb) | exact F22.stp.size | exact Nat.le_trans F22.stp.size E.size))) fun a23 s21 hs9 ok22 r9 sm9 => ?_
    obtain ⟨t7, ⟨hT4, o56, o57⟩, B4⟩ := r9
    have q161 : At (Ty.frshB ((GW.w s0).heap.size) (linesR xs)) s21 a23 (.tmp 41) := Ty.up _ B4.le hT4
    have o58 : OwnP s21 40 x9_0 [(Ty.val bl)] := OwnP.ren o56 (B4.ren dE rfl)
    have o59 : Own s21 41 49 1 bl (List.length xs) (List.map (Ty.ent 66) xs) := Own.ren o57 (B4.ren dE rfl)
    refine tL ok22 (Yld.toL (y_as q161)) fun a24 s22 hs10 ok23 r10 sm10 => ?_
    have o60 := OwnP.kl o58 hs10; have o61 := Own.kl o59 hs10
    have q167 : At (Ty.frshB ((GW.w s0).heap.size) (linesR xs)) s22 a24 (.tmp 13) := r10
    clear r10; refine wpList_nil (tn (wp_seq ?_))
    obtain ⟨ct, hct⟩ : ∃ ct, ct = pick cu ((linesR xs).length + 1) := ⟨_, rfl⟩
    have hctl_ : ct < (linesR xs).length + 1 := by rw [hct]; exact pick_lt _ oM
    have hltk_ : (List.take ct (linesR xs)).length ≤ (linesR xs).length := by rw [List.length_take]; exact Nat.min_le_right _ _
    refine gI a24 s22 ok23 (gM (kq hs10 sm10 1 (kq hs9 sm9 1 (D12.k q146))) (gT (Ty.lst Ty.byte (linesR xs)) rfl (fun A B E G H => rP (y_move (frshB_lst (kp (H 13 rfl) E q167)))) (gS rfl (fun A B E G H d0 => rP (y_len Tryd.underlying22 (eI d0))) (gT (Ty.nat ((List.length (linesR xs)) + 1)) rfl (fun A B E G H d0 => rP ((y_add (eI d0) rfl wX).mono (fun τ _ h => cN (σ := τ) h))) (gT (Ty.nat ct) rfl (fun A B E G H d0 d1 => rP ((y_call _ Tryd.func13 rfl rfl my2 (pick_fn (cu) (((List.length (linesR xs)) + 1)) _ _ _ (cvi (σ := B) oM (ef d0 rfl)) (cvi (σ := B) oM (ef d1 rfl)) oM oM)).mono (fun τ _ h => cvt (σ := τ) (T := (Ty.nat (pick (cu) (((List.length (linesR xs)) + 1))))) (U := (Ty.nat ct)) (by rw [hct]) h))) (gB 0 (gE ok23 fun a25 s23 ok24 D13 => ?_))))))); refine tn (wp_seq ?_)
    refine gI a25 s23 ok24 (gC (Ty.int (0 : Int)) (gE ok24 fun a26 s24 ok25 D14 => ?_)); refine tn (wp_seq (wp_seq ?_))
    refine gI a26 s24 ok25 (gC (Ty.int (0 : Int)) (gE ok25 fun a27 s25 ok26 D15 => ?_)); refine tn (wp_block ?_)
    refine loop (fun n3 a28 w3 => ∃ (t8 : GW) (i : Nat) (j : Nat), t8.w = w3 ∧ FromL [] s0 t8 ∧ Ok 154 [] a28 ∧ At (Ty.nat i) t8 a28 (.tmp 15) ∧ At (Ty.nat (endN xs j)) t8 a28 (.tmp 14) ∧ At (Ty.lst Ty.int (endsB xs)) t8 a28 (.tmp 10) ∧ At (Ty.lst Ty.int raw) t8 a28 (.tmp 0) ∧ At (Ty.int ap) t8 a28 (.tmp 2) ∧ At (Ty.int bb) t8 a28 (.tmp 3) ∧ At (Ty.frshB ((GW.w s0).heap.size) (linesR xs)) t8 a28 (.tmp 13) ∧ At (Ty.nat ct) t8 a28 (.tmp 1) ∧ (i ≤ xs.length) ∧ (j ≤ i) ∧ (endN xs j ≤ ct) ∧ (∀ k, j < k → k ≤ i → ct < endN xs k) ∧ n3 = xs.length - i) (xs.length - (0)) ?_ ?_
    ·
     exact ⟨s25, 0, 0, rfl, (((((F22.sl hs9).sl hs10).step0 D13.stp).step0 D14.stp).step0 D15.stp), ok26, (cvi (by (rfl)) (D15.m 0 rfl)), (cvi (by (rfl)) (D15.k (D14.m 0 rfl))), (D15.k (D14.k (D13.k (kq hs10 sm10 10 (kq hs9 sm9 10 (D12.k q143)))))), (D15.k (D14.k (D13.k (kq hs10 sm10 0 (kq hs9 sm9 0 (D12.k q145)))))), (D15.k (D14.k (D13.k (kq hs10 sm10 2 (kq hs9 sm9 2 (D12.k q147)))))), (D15.k (D14.k (D13.k (kq hs10 sm10 3 (kq hs9 sm9 3 (D12.k q148)))))), (D15.k (D14.k (D13.k q167))), (D15.k (D14.k (D13.m 5 rfl))), by omega, by omega, Nat.zero_le _, fun k h1 h2 => by omega, rfl⟩
    ·
     rintro n4 a29 w4 ⟨t9, i, j, rfl, F28, ok27, q189, q190, q191, q192, q193, q194, q195, q196, hi, hj, hjc, hnx, rfl⟩
     refine wp_seq (wp_seq ?_)
     refine gI a29 t9 ok27 (gM q189 (gM q191 (gS rfl (fun A B E G H d0 => rP (y_len Tryd.underlying34 (eI d0))) (gS rfl (fun A B E G H d0 d1 => rP (y_lss (eI d0) (eI d1))) (gE ok27 fun a30 s26 ok28 D16 => ?_))))); have F29 := F28.step0 D16.stp; have q197 := D16.k q189; have q198 := D16.k q190; have q199 := D16.k q191; have q200 := D16.k q192; have q201 := D16.k q193; have q202 := D16.k q194; have q203 := D16.k q195; have q204 := D16.k q196; refine tn ?_
     refine cond_p (p := (((i : Nat) : Int) < (((List.length (endsB xs)) : Nat) : Int))) (D16.m 3 rfl) (fun c4 => ?_) (fun c4 => ?_)
     ·
      have heg_ := ends_get (xs := xs) (i := i) oM
      refine wp_skip (tn (wp_seq (wp_block (wp_seq ?_))))
      refine gI a30 s26 ok28 (gM q199 (gM q197 (gT (Ty.ref [(Ty.int ((endsB xs).getD i 0))]) rfl (fun A B E G H d0 d1 => rP (y_index1 Tryd.underlying34 Tryd.inf3 (eI d0) (eI d1) oM (lst_get Ty.int (endsB xs) 0 i oM))) (gS rfl (fun A B E G H d0 => rP (y_load Tryd.underlying3 rfl (eI d0) rfl)) (gM q204 (gS rfl (fun A B E G H d0 d1 => rP (y_leq (eI d0) (eI d1))) (gE ok28 fun a31 s27 ok29 D17 => ?_))))))); have F30 := F29.step0 D17.stp; have q206 := D17.k q197; have q208 := D17.k q199; have q209 := D17.k q200; have q210 := D17.k q201; have q211 := D17.k q202; have q212 := D17.k q203; have q213 := D17.k q204; refine tn ?_
      refine cond_p (p := (((endsB xs).getD i 0) ≤ ((ct : Nat) : Int))) (D17.m 5 rfl) (fun c5 => ?_) (fun c5 => ?_)
      ·
       refine gI a31 s27 ok29 (gM q208 (gM q206 (gT (Ty.ref [(Ty.int ((endsB xs).getD i 0))]) rfl (fun A B E G H d0 d1 => rP (y_index1 Tryd.underlying34 Tryd.inf3 (eI d0) (eI d1) oM (lst_get Ty.int (endsB xs) 0 i oM))) (gS rfl (fun A B E G H d0 => rP (y_load Tryd.underlying3 rfl (eI d0) rfl)) (gB 0 (gE ok29 fun a32 s28 ok30 D18 => ?_)))))); refine bn (tn ?_)
       refine gI a32 s28 ok30 (gM (D18.k q206) (gT (Ty.nat (i + 1)) rfl (fun A B E G H d0 => rP ((y_add (eI d0) rfl wX).mono (fun τ _ h => cN (σ := τ) h))) (gB 0 (gE ok30 fun a33 s29 ok31 D19 => ?_))))
       exact tn ⟨xs.length - ((i + 1)), by omega, s29, (i + 1), (i + 1), rfl, ((F30.step0 D18.stp).step0 D19.stp), ok31, (cJ (D19.m 2 rfl)), (cvi (by (first | rfl | (rw [ends_get oM]))) (D19.k (D18.m 4 rfl))), (D19.k (D18.k q208)), (D19.k (D18.k q209)), (D19.k (D18.k q210)), (D19.k (D18.k q211)), (D19.k (D18.k q212)), (D19.k (D18.k q213)), by omega, by omega, by omega, fun k h1 h2 => by omega, rfl⟩
      ·
       refine wp_skip (bn (tn ?_))
       refine gI a31 s27 ok29 (gM q206 (gT (Ty.nat (i + 1)) rfl (fun A B E G H d0 => rP ((y_add (eI d0) rfl wX).mono (fun τ _ h => cN (σ := τ) h))) (gB 0 (gE ok29 fun a34 s30 ok32 D20 => ?_))))
       exact tn ⟨xs.length - ((i + 1)), by omega, s30, (i + 1), j, rfl, (F30.step0 D20.stp), ok32, (cJ (D20.m 2 rfl)), (D20.k (D17.k q198)), (D20.k q208), (D20.k q209), (D20.k q210), (D20.k q211), (D20.k q212), (D20.k q213), by omega, by omega, hjc, fun k h1 h2 => by (by_cases e : k = i + 1; (subst e; omega); exact hnx k h1 oM), rfl⟩
     ·
      have hie2 : i = xs.length := oM
      refine wp_exit (tx (tx (bx (tn (wp_seq ?_)))))
      have hnc_ := end_next (xs := xs) (c := ct) hie2 hj hnx
      have hcl_ := cut_law hmz_ oM oM hjc hnc_
      have hcs_ := cut_says hmz_ oM oM hjc hnc_
      have hol_ := opn_lines 1000 (List.take ct (linesR xs))
      have hok_ : ∀ r ∈ (opn 1000 (List.take ct (linesR xs))).1, mayR r = 0 := hol_.2.2.1
      have hxl_ : (opn 1000 (List.take ct (linesR xs))).1.length ≤ 1000 := hol_.2.2.2
      have hll_ : (linesR (opn 1000 (List.take ct (linesR xs))).1).length ≤ (linesR xs).length := (by rw [hcs_, List.length_take]; exact Nat.min_le_right _ _)
      refine gI a30 s26 ok28 (gT (Ty.lst Ty.byte (linesR xs)) rfl (fun A B E G H => rP (y_move (frshB_lst (kp (H 13 rfl) E q203)))) (gM q204 (gT (Ty.lst Ty.byte ((linesR xs).take ct)) rfl (fun A B E G H d0 d1 => rP (y_take Tryd.underlying22 Tryd.inf5 (eI d0) (eI d1) oM)) (gE2 ok28 fun a35 s31 ok33 D21 => ?_)))); have F34 := F29.step0 D21.stp; have q245 := D21.m 2 rfl
      have b2 := sl_le q245
      refine tL ok33 (y_callL (L := []) [] [(40, 61), (41, 62)] _ rfl dE Tryd.func5 rfl rfl my1 (bOpen_fn (((linesR xs).take ct)) _ lW _ (uL q245)  (by first | omega | assumption | exact Gbk.up (GW.le_lend _ _) (Gbk.fl F34 rfl hglb0) | exact Gbk.up E.le0 (Gbk.fl F34 rfl hglb0) | exact Gbk.up (GW.le_lend _ _) (Gbk.fl F34 rfl hglb) | exact Gbk.up E.le0 (Gbk.fl F34 rfl hglb)) (by first | omega | assumption | exact Gbk.up (GW.le_lend _ _) (Gbk.fl F34 rfl hglb0) | exact Gbk.up E.le0 (Gbk.fl F34 rfl hglb0) | exact Gbk.up (GW.le_lend _ _) (Gbk.fl F34 rfl hglb) | exact Gbk.up E.le0 (Gbk.fl F34 rfl hglb)))) fun a36 s32 hs11 ok34 r11 sm11 => ?_
      obtain ⟨t10, ⟨x4, x5, hT5, o62, o63⟩, B5⟩ := r11
      have q252 : At (Ty.tup2 (Ty.val x4) (Ty.nat (opn 1000 (((linesR xs).take ct))).2)) s32 a36 (.tmp 67) := Ty.up _ B5.le hT5
      have o64 : OwnP s32 61 x4 [(Ty.val x5)] := OwnP.ren o62 (B5.ren dE rfl)
      have o65 : Own s32 62 49 1 x5 (List.length (opn 1000 (((linesR xs).take ct))).1) (List.map (Ty.ent 66) (opn 1000 (((linesR xs).take ct))).1) := Own.ren o63 (B5.ren dE rfl)
      refine tL ok34 (Yld.toL (y_mv q252)) fun a37 s33 hs12 ok35 r12 sm12 => ?_
      have q259 : At (Ty.tup2 (Ty.val x4) (Ty.nat (opn 1000 (((linesR xs).take ct))).2)) s33 a37 (.tmp 63) := r12
      clear r12
      refine tL (R := (fun v τ => Pr.has (Ty.pr (Ty.val x4)) τ v)) ok35 (Yld.toL (y_ext2_0 q259)) fun a38 s34 hs13 ok36 r13 sm13 => ?_
      have q267 : At (Ty.val x4) s34 a38 (.tmp 68) := r13
      clear r13
      refine tL (R := (fun v τ => Pr.has (Ty.pr (Ty.nat (opn 1000 (((linesR xs).take ct))).2)) τ v)) ok36 (Yld.toL (y_ext2_1 (kq hs13 sm13 63 q259))) fun a39 s35 hs14 ok37 r14 sm14 => ?_
      have q275 : At (Ty.nat (opn 1000 (((linesR xs).take ct))).2) s35 a39 (.tmp 69) := r14
      clear r14
      refine tL ok37 (Yld.toL (y_as (kq hs14 sm14 68 q267))) fun a40 s36 hs15 ok38 r15 sm15 => ?_
      have q283 : At (Ty.val x4) s36 a40 (.tmp 16) := r15
      clear r15
      refine tL ok38 (Yld.toL (y_as (kq hs15 sm15 69 q275))) fun a41 s37 hs16 ok39 r16 sm16 => ?_
      have q291 : At (Ty.nat (opn 1000 (((linesR xs).take ct))).2) s37 a41 (.tmp 17) := r16
      clear r16; refine wpList_nil ?_
      have q292 : At (Ty.nat (endN xs j)) s37 a41 (.tmp 17) := (cvi (by (rw [hcl_])) q291)
      refine tn (wp_seq (wp_seq ?_))
      obtain ⟨t11, e2, h2, q293⟩ := Own.seal (Own.kl (Own.kl (Own.kl (Own.kl (Own.kl o65 hs12) hs13) hs14) hs15) hs16) dE
      rw [← e2]
      have F41 := ((((((F34.sl hs11).sl hs12).sl hs13).sl hs14).sl hs15).sl hs16).step h2 dE; have o76 := OwnP.keepL (OwnP.kl (OwnP.kl (OwnP.kl (OwnP.kl (OwnP.kl o64 hs12) hs13) hs14) hs15) hs16) (h2.toL (L := [62]) (by simp)) dE dE; have q294 := Ty.up (Ty.nat (endN xs j)) (h2.le dE) (kq hs16 sm16 14 (kq hs15 sm15 14 (kq hs14 sm14 14 (kq hs13 sm13 14 (kq hs12 sm12 14 (kq hs11 sm11 14 (D21.k q198))))))); have q295 := Ty.up (Ty.lst Ty.int (endsB xs)) (h2.le dE) (kq hs16 sm16 10 (kq hs15 sm15 10 (kq hs14 sm14 10 (kq hs13 sm13 10 (kq hs12 sm12 10 (kq hs11 sm11 10 (D21.k q199))))))); have q296 := Ty.up (Ty.lst Ty.int raw) (h2.le dE) (kq hs16 sm16 0 (kq hs15 sm15 0 (kq hs14 sm14 0 (kq hs13 sm13 0 (kq hs12 sm12 0 (kq hs11 sm11 0 (D21.k q200))))))); have q297 := Ty.up (Ty.int ap) (h2.le dE) (kq hs16 sm16 2 (kq hs15 sm15 2 (kq hs14 sm14 2 (kq hs13 sm13 2 (kq hs12 sm12 2 (kq hs11 sm11 2 (D21.k q201))))))); have q298 := Ty.up (Ty.int bb) (h2.le dE) (kq hs16 sm16 3 (kq hs15 sm15 3 (kq hs14 sm14 3 (kq hs13 sm13 3 (kq hs12 sm12 3 (kq hs11 sm11 3 (D21.k q202))))))); have q299 := Ty.up (Ty.frshB ((GW.w s0).heap.size) (linesR xs)) (h2.le dE) (kq hs16 sm16 13 (kq hs15 sm15 13 (kq hs14 sm14 13 (kq hs13 sm13 13 (kq hs12 sm12 13 (kq hs11 sm11 13 (D21.k q203))))))); have q300 := Ty.up (Ty.val x4) (h2.le dE) (kq hs16 sm16 16 q283); have q301 := Ty.up (Ty.nat (endN xs j)) (h2.le dE) q292; have o77 := ownp_cellq 0 (Ty.lst (Ty.ent 66) (opn 1000 (((linesR xs).take ct))).1) o76 rfl q293
      obtain ⟨t12, e3, h3, q302⟩ := OwnP.seal o77 dE
      rw [← e3]
      have F42 := F41.step h3 dE; have q303 := Ty.up (Ty.nat (endN xs j)) (h3.le dE) q294; have q304 := Ty.up (Ty.lst Ty.int (endsB xs)) (h3.le dE) q295; have q305 := Ty.up (Ty.lst Ty.int raw) (h3.le dE) q296; have q306 := Ty.up (Ty.int ap) (h3.le dE) q297; have q307 := Ty.up (Ty.int bb) (h3.le dE) q298; have q308 := Ty.up (Ty.frshB ((GW.w s0).heap.size) (linesR xs)) (h3.le dE) q299
      have q309 : At (Ty.ref [(Ty.lst (Ty.ent 66) (opn 1000 (((linesR xs).take ct))).1)]) t12 a41 (.tmp 16) := by have e : a41.eval (.tmp 16) = x4 := q300; show Ty.has _ _ _; rw [e]; exact q302
      have q310 := Ty.up (Ty.nat (endN xs j)) (h3.le dE) q301
      refine gI a41 t12 ok39 (gM q309 (gT (Ty.bool false) rfl (fun A B E G H d0 => rP (y_refeq Tryd.underlying23 (eI d0) rfl)) (gS rfl (fun A B E G H d0 => rP (y_move (eI d0))) (gS rfl (fun A B E G H d0 => gu G (eI d0) fun hg => y_move (kp (H 17 rfl) E q310)) (gS rfl (fun A B E G H d0 => gu G (eI d0) fun hg => y_move (kp (H 14 rfl) E q303)) (gS rfl (fun A B E G H d0 d1 d2 => gu G (eI d2) fun hg => y_neq ((ef d0 rfl).1 hg) ((ef d1 rfl).1 hg)) (gS rfl (fun A B E G H d0 d1 => rP (y_pick_or (eI d0) rfl (eI d1))) (gS rfl (fun A B E G H d0 d1 => rP (y_move (eI d0))) (gT (Ty.grd ((false || (decide ((((endN xs j) : Nat) : Int) ≠ (((endN xs j) : Nat) : Int)))) = false) (Ty.ref [(Ty.lst (Ty.ent 66) (opn 1000 (((linesR xs).take ct))).1)])) rfl (by intro A B E G H d0; refine run_guard G rfl rfl dE (eI d0) (fun hg => ?_); obtain ⟨d1, d2⟩ := Bool.or_eq_false_iff.mp hg; have d2 := of_decide_eq_false d2; exact y_move (kp (H 16 rfl) E q309)) ?_)))))))))
      refine gT (Ty.grd ((false || (decide ((((endN xs j) : Nat) : Int) ≠ (((endN xs j) : Nat) : Int)))) = false) (Ty.lst Ty.byte (linesR ((opn 1000 (((linesR xs).take ct))).1)))) rfl (by intro A B E G H d0 d1 d2; refine run_guard G rfl rfl dE (eI d1) (fun hg => ?_); obtain ⟨d3, d4⟩ := Bool.or_eq_false_iff.mp hg; have d4 := of_decide_eq_false d4; exact y_call _ Tryd.func10 rfl rfl my1 (bBytesR_fn ((opn 1000 (((linesR xs).take ct))).1) _ _ ((ef d0 rfl).1 hg) (by first | omega | assumption | exact Gbk.up (GW.le_lend _ _) (Gbk.fl F42 rfl hglb0) | exact Gbk.up E.le0 (Gbk.fl F42 rfl hglb0) | exact Gbk.up (GW.le_lend _ _) (Gbk.fl F42 rfl hglb) | exact Gbk.up E.le0 (Gbk.fl F42 rfl hglb)) (by first | omega | assumption | exact Gbk.up (GW.le_lend _ _) (Gbk.fl F42 rfl hglb0) | exact Gbk.up E.le0 (Gbk.fl F42 rfl hglb0) | exact Gbk.up (GW.le_lend _ _) (Gbk.fl F42 rfl hglb) | exact Gbk.up E.le0 (Gbk.fl F42 rfl hglb)) (by first | omega | assumption | exact Gbk.up (GW.le_lend _ _) (Gbk.fl F42 rfl hglb0) | exact Gbk.up E.le0 (Gbk.fl F42 rfl hglb0) | exact Gbk.up (GW.le_lend _ _) (Gbk.fl F42 rfl hglb) | exact Gbk.up E.le0 (Gbk.fl F42 rfl hglb)) (by first | omega | assumption | exact Gbk.up (GW.le_lend _ _) (Gbk.fl F42 rfl hglb0) | exact Gbk.up E.le0 (Gbk.fl F42 rfl hglb0) | exact Gbk.up (GW.le_lend _ _) (Gbk.fl F42 rfl hglb) | exact Gbk.up E.le0 (Gbk.fl F42 rfl hglb)))) ?_
      refine gT (Ty.grd ((false || (decide ((((endN xs j) : Nat) : Int) ≠ (((endN xs j) : Nat) : Int)))) = false) (Ty.val (Value.string (bsL (linesR ((opn 1000 (((linesR xs).take ct))).1)))))) rfl (by intro A B E G H d0 d1; refine run_guard G rfl rfl dE (eI d1) (fun hg => ?_); obtain ⟨d5, d6⟩ := Bool.or_eq_false_iff.mp hg; have d6 := of_decide_eq_false d6; exact y_convBS (bs := (linesR ((opn 1000 (((linesR xs).take ct))).1))) Tryd.underlying22 Tryd.underlying5 Tryd.underlying9 ((ef d0 rfl).1 hg)) (gT (Ty.grd ((false || (decide ((((endN xs j) : Nat) : Int) ≠ (((endN xs j) : Nat) : Int)))) = false) (Ty.lst Ty.byte (linesR xs))) rfl (by intro A B E G H d0; refine run_guard G rfl rfl dE (eI d0) (fun hg => ?_); obtain ⟨d7, d8⟩ := Bool.or_eq_false_iff.mp hg; have d8 := of_decide_eq_false d8; exact y_move (frshB_lst (kp (H 13 rfl) E q308))) (gT (Ty.grd ((false || (decide ((((endN xs j) : Nat) : Int) ≠ (((endN xs j) : Nat) : Int)))) = false) (Ty.nat (endN xs j))) rfl (by intro A B E G H d0; refine run_guard G rfl rfl dE (eI d0) (fun hg => ?_); obtain ⟨d9, d10⟩ := Bool.or_eq_false_iff.mp hg; have d10 := of_decide_eq_false d10; exact y_move (kp (H 14 rfl) E q303)) (gT (Ty.grd ((false || (decide ((((endN xs j) : Nat) : Int) ≠ (((endN xs j) : Nat) : Int)))) = false) (Ty.lst Ty.byte ((linesR xs).take (endN xs j)))) rfl (by intro A B E G H d0 d1 d2; refine run_guard G rfl rfl dE (eI d2) (fun hg => ?_); obtain ⟨d11, d12⟩ := Bool.or_eq_false_iff.mp hg; have d12 := of_decide_eq_false d12; exact y_take Tryd.underlying22 Tryd.inf5 ((ef d0 rfl).1 hg) ((ef d1 rfl).1 hg) oM) ?_)))
      refine gT (Ty.grd ((false || (decide ((((endN xs j) : Nat) : Int) ≠ (((endN xs j) : Nat) : Int)))) = false) (Ty.val (Value.string (bsL ((linesR xs).take (endN xs j)))))) rfl (by intro A B E G H d0 d1; refine run_guard G rfl rfl dE (eI d1) (fun hg => ?_); obtain ⟨d13, d14⟩ := Bool.or_eq_false_iff.mp hg; have d14 := of_decide_eq_false d14; exact y_convBS (bs := ((linesR xs).take (endN xs j))) Tryd.underlying22 Tryd.underlying5 Tryd.underlying9 ((ef d0 rfl).1 hg)) (gT (Ty.grd ((false || (decide ((((endN xs j) : Nat) : Int) ≠ (((endN xs j) : Nat) : Int)))) = false) (Ty.bool (!(decide ((bsL (linesR ((opn 1000 (((linesR xs).take ct))).1))) = (bsL ((linesR xs).take (endN xs j)))))))) rfl (by intro A B E G H d0 d1 d2; refine run_guard G rfl rfl dE (eI d2) (fun hg => ?_); obtain ⟨d15, d16⟩ := Bool.or_eq_false_iff.mp hg; have d16 := of_decide_eq_false d16; exact y_sneq Tryd.underlying9 ((ef d0 rfl).1 hg) ((ef d1 rfl).1 hg)) (gS rfl (fun A B E G H d0 d1 => rP (y_pick_or (eI d0) rfl (eI d1))) (gS rfl (fun A B E G H d0 d1 => rP (y_move (eI d0))) (gT (Ty.grd (((false || (decide ((((endN xs j) : Nat) : Int) ≠ (((endN xs j) : Nat) : Int)))) || (!(decide ((bsL (linesR ((opn 1000 (((linesR xs).take ct))).1))) = (bsL ((linesR xs).take (endN xs j))))))) = false) (Ty.lst Ty.int (endsB xs))) rfl (by intro A B E G H d0; refine run_guard G rfl rfl dE (eI d0) (fun hg => ?_); obtain ⟨d17, d18⟩ := Bool.or_eq_false_iff.mp hg; obtain ⟨d19, d20⟩ := Bool.or_eq_false_iff.mp d17; have d20 := of_decide_eq_false d20; exact y_move (kp (H 10 rfl) E q304)) ?_))))
      refine gT (Ty.grd (((false || (decide ((((endN xs j) : Nat) : Int) ≠ (((endN xs j) : Nat) : Int)))) || (!(decide ((bsL (linesR ((opn 1000 (((linesR xs).take ct))).1))) = (bsL ((linesR xs).take (endN xs j))))))) = false) (Ty.nat (List.length (endsB xs)))) rfl (by intro A B E G H d0 d1; refine run_guard G rfl rfl dE (eI d1) (fun hg => ?_); obtain ⟨d21, d22⟩ := Bool.or_eq_false_iff.mp hg; obtain ⟨d23, d24⟩ := Bool.or_eq_false_iff.mp d21; have d24 := of_decide_eq_false d24; exact y_len Tryd.underlying34 ((ef d0 rfl).1 hg)) (gT (Ty.grd (((false || (decide ((((endN xs j) : Nat) : Int) ≠ (((endN xs j) : Nat) : Int)))) || (!(decide ((bsL (linesR ((opn 1000 (((linesR xs).take ct))).1))) = (bsL ((linesR xs).take (endN xs j))))))) = false) (Ty.lst Ty.int raw)) rfl (by intro A B E G H d0; refine run_guard G rfl rfl dE (eI d0) (fun hg => ?_); obtain ⟨d25, d26⟩ := Bool.or_eq_false_iff.mp hg; obtain ⟨d27, d28⟩ := Bool.or_eq_false_iff.mp d25; have d28 := of_decide_eq_false d28; exact y_move (kp (H 0 rfl) E q305)) (gT (Ty.grd (((false || (decide ((((endN xs j) : Nat) : Int) ≠ (((endN xs j) : Nat) : Int)))) || (!(decide ((bsL (linesR ((opn 1000 (((linesR xs).take ct))).1))) = (bsL ((linesR xs).take (endN xs j))))))) = false) (Ty.nat (List.length raw))) rfl (by intro A B E G H d0 d1; refine run_guard G rfl rfl dE (eI d1) (fun hg => ?_); obtain ⟨d29, d30⟩ := Bool.or_eq_false_iff.mp hg; obtain ⟨d31, d32⟩ := Bool.or_eq_false_iff.mp d29; have d32 := of_decide_eq_false d32; exact y_len Tryd.underlying34 ((ef d0 rfl).1 hg)) ?_))
      refine gT (Ty.grd (((false || (decide ((((endN xs j) : Nat) : Int) ≠ (((endN xs j) : Nat) : Int)))) || (!(decide ((bsL (linesR ((opn 1000 (((linesR xs).take ct))).1))) = (bsL ((linesR xs).take (endN xs j))))))) = false) (Ty.bool (decide ((((List.length (endsB xs)) : Nat) : Int) ≠ (((List.length raw) : Nat) : Int))))) rfl (by intro A B E G H d0 d1 d2; refine run_guard G rfl rfl dE (eI d2) (fun hg => ?_); obtain ⟨d33, d34⟩ := Bool.or_eq_false_iff.mp hg; obtain ⟨d35, d36⟩ := Bool.or_eq_false_iff.mp d33; have d36 := of_decide_eq_false d36; exact y_neq ((ef d0 rfl).1 hg) ((ef d1 rfl).1 hg)) (gS rfl (fun A B E G H d0 d1 => rP (y_pick_or (eI d0) rfl (eI d1))) (gE ok39 fun a42 s38 ok40 D22 => ?_)); have q315 := D22.k q308; refine tn ?_
      refine cond_t (D22.m 23 rfl) (fun c6 => ?_) (fun c6 => ?_)
      ·
       exfalso
       simp [hcs_, endsB_len] at c6; omega
      ·
       obtain ⟨d37, d38⟩ := Bool.or_eq_false_iff.mp c6
       obtain ⟨d39, d40⟩ := Bool.or_eq_false_iff.mp d37
       obtain ⟨d41, d42⟩ := Bool.or_eq_false_iff.mp d39
       replace d42 := of_decide_eq_false d42
       replace d38 := of_decide_eq_false d38
       refine wp_skip (tn (wp_seq (wp_seq ?_)))
       refine gI a42 s38 ok40 (gT (Ty.lst Ty.byte (linesR xs)) rfl (fun A B E G H => rP (y_move (frshB_lst (kp (H 13 rfl) E q315)))) (gS rfl (fun A B E G H d0 => rP (y_len Tryd.underlying22 (eI d0))) (gS rfl (fun A B E G H d0 => rP (y_eql (eI d0) rfl)) (gE ok40 fun a43 s39 ok41 D23 => ?_)))); have F44 := (F42.step0 D22.stp).step0 D23.stp; have q321 := D23.k q315; refine tn ?_
       refine cond_p (p := ((((List.length (linesR xs)) : Nat) : Int) = (0 : Int))) (D23.m 2 rfl) (fun c7 => ?_) (fun c7 => ?_)
       ·
        have hr0 : raw.length = 0 := oM
        refine wp_seq ?_
        refine gI a43 s39 ok41 (gM (D23.k (D22.k q305)) (gS rfl (fun A B E G H d0 => rP (y_len Tryd.underlying34 (eI d0))) (gS rfl (fun A B E G H d0 => rP (y_eql (eI d0) rfl)) (gB 0 (gE ok41 fun a44 s40 ok42 D24 => ?_))))); refine tn (wp_ret (tr ?_))
        exact retL1 rfl ok42 (F44.step0 D24.stp) (cvb (by (simp [hr0])) (D24.m 3 rfl))
       ·
        have hLp : 0 < (linesR xs).length := oM
        refine wp_skip (tn (wp_seq ?_))
        obtain ⟨ia, hia⟩ : ∃ ia, ia = pick ap (linesR xs).length := ⟨_, rfl⟩
        have hial_ : ia < (linesR xs).length := by rw [hia]; exact pick_lt _ oM
        refine gI a43 s39 ok41 (gM (D23.k (D22.k q306)) (gT (Ty.lst Ty.byte (linesR xs)) rfl (fun A B E G H => rP (y_move (frshB_lst (kp (H 13 rfl) E q321)))) (gS rfl (fun A B E G H d0 => rP (y_len Tryd.underlying22 (eI d0))) (gT (Ty.nat ia) rfl (fun A B E G H d0 d1 => rP ((y_call _ Tryd.func13 rfl rfl my2 (pick_fn (ap) ((List.length (linesR xs))) _ _ _ (cvi (σ := B) oM (ef d0 rfl)) (cvi (σ := B) oM (ef d1 rfl)) oM oM)).mono (fun τ _ h => cvt (σ := τ) (T := (Ty.nat (pick (ap) ((List.length (linesR xs)))))) (U := (Ty.nat ia)) (by rw [hia]) h))) (gB 0 (gE ok41 fun a45 s41 ok43 D25 => ?_)))))); refine tn (wp_seq ?_)
        refine gI a45 s41 ok43 (gC (Ty.int (0 : Int)) (gE ok43 fun a46 s42 ok44 D26 => ?_)); refine tn (wp_seq (wp_seq ?_))
        refine gI a46 s42 ok44 (gC (Ty.int (0 : Int)) (gE ok44 fun a47 s43 ok45 D27 => ?_)); refine tn (wp_block ?_)
        refine loop (fun n5 a48 w5 => ∃ (t13 : GW) (i : Nat) (j : Nat), t13.w = w5 ∧ FromL [] s0 t13 ∧ Ok 154 [] a48 ∧ At (Ty.nat i) t13 a48 (.tmp 18) ∧ At (Ty.nat (endN xs j)) t13 a48 (.tmp 14) ∧ At (Ty.lst Ty.int (endsB xs)) t13 a48 (.tmp 10) ∧ At (Ty.int bb) t13 a48 (.tmp 3) ∧ At (Ty.frshB ((GW.w s0).heap.size) (linesR xs)) t13 a48 (.tmp 13) ∧ At (Ty.nat ia) t13 a48 (.tmp 2) ∧ (i ≤ xs.length) ∧ (j ≤ i) ∧ (endN xs j ≤ ia) ∧ (∀ k, j < k → k ≤ i → ia < endN xs k) ∧ n5 = xs.length - i) (xs.length - (0)) ?_ ?_
        ·
         exact ⟨s43, 0, 0, rfl, (((F44.step0 D25.stp).step0 D26.stp).step0 D27.stp), ok45, (cvi (by (rfl)) (D27.m 0 rfl)), (cvi (by (rfl)) (D27.k (D26.m 0 rfl))), (D27.k (D26.k (D25.k (D23.k (D22.k q304))))), (D27.k (D26.k (D25.k (D23.k (D22.k q307))))), (D27.k (D26.k (D25.k q321))), (D27.k (D26.k (D25.m 4 rfl))), by omega, by omega, Nat.zero_le _, fun k h1 h2 => by omega, rfl⟩
        ·
         rintro n6 a49 w6 ⟨t14, i, j, rfl, F49, ok46, q339, q340, q341, q342, q343, q344, hi, hj, hjc, hnx, rfl⟩
         refine wp_seq (wp_seq ?_)
         refine gI a49 t14 ok46 (gM q339 (gM q341 (gS rfl (fun A B E G H d0 => rP (y_len Tryd.underlying34 (eI d0))) (gS rfl (fun A B E G H d0 d1 => rP (y_lss (eI d0) (eI d1))) (gE ok46 fun a50 s44 ok47 D28 => ?_))))); have F50 := F49.step0 D28.stp; have q345 := D28.k q339; have q346 := D28.k q340; have q347 := D28.k q341; have q348 := D28.k q342; have q349 := D28.k q343; have q350 := D28.k q344; refine tn ?_
         refine cond_p (p := (((i : Nat) : Int) < (((List.length (endsB xs)) : Nat) : Int))) (D28.m 3 rfl) (fun c8 => ?_) (fun c8 => ?_)
         ·
          have heg_ := ends_get (xs := xs) (i := i) oM
          refine wp_skip (tn (wp_seq (wp_block (wp_seq ?_))))
          refine gI a50 s44 ok47 (gM q347 (gM q345 (gT (Ty.ref [(Ty.int ((endsB xs).getD i 0))]) rfl (fun A B E G H d0 d1 => rP (y_index1 Tryd.underlying34 Tryd.inf3 (eI d0) (eI d1) oM (lst_get Ty.int (endsB xs) 0 i oM))) (gS rfl (fun A B E G H d0 => rP (y_load Tryd.underlying3 rfl (eI d0) rfl)) (gM q350 (gS rfl (fun A B E G H d0 d1 => rP (y_leq (eI d0) (eI d1))) (gE ok47 fun a51 s45 ok48 D29 => ?_))))))); have F51 := F50.step0 D29.stp; have q352 := D29.k q345; have q354 := D29.k q347; have q355 := D29.k q348; have q356 := D29.k q349; have q357 := D29.k q350; refine tn ?_
          refine cond_p (p := (((endsB xs).getD i 0) ≤ ((ia : Nat) : Int))) (D29.m 5 rfl) (fun c9 => ?_) (fun c9 => ?_)
          ·
           refine gI a51 s45 ok48 (gM q354 (gM q352 (gT (Ty.ref [(Ty.int ((endsB xs).getD i 0))]) rfl (fun A B E G H d0 d1 => rP (y_index1 Tryd.underlying34 Tryd.inf3 (eI d0) (eI d1) oM (lst_get Ty.int (endsB xs) 0 i oM))) (gS rfl (fun A B E G H d0 => rP (y_load Tryd.underlying3 rfl (eI d0) rfl)) (gB 0 (gE ok48 fun a52 s46 ok49 D30 => ?_)))))); refine bn (tn ?_)
           refine gI a52 s46 ok49 (gM (D30.k q352) (gT (Ty.nat (i + 1)) rfl (fun A B E G H d0 => rP ((y_add (eI d0) rfl wX).mono (fun τ _ h => cN (σ := τ) h))) (gB 0 (gE ok49 fun a53 s47 ok50 D31 => ?_))))
           exact tn ⟨xs.length - ((i + 1)), by omega, s47, (i + 1), (i + 1), rfl, ((F51.step0 D30.stp).step0 D31.stp), ok50, (cJ (D31.m 2 rfl)), (cvi (by (first | rfl | (rw [ends_get oM]))) (D31.k (D30.m 4 rfl))), (D31.k (D30.k q354)), (D31.k (D30.k q355)), (D31.k (D30.k q356)), (D31.k (D30.k q357)), by omega, by omega, by omega, fun k h1 h2 => by omega, rfl⟩
          ·
           refine wp_skip (bn (tn ?_))
           refine gI a51 s45 ok48 (gM q352 (gT (Ty.nat (i + 1)) rfl (fun A B E G H d0 => rP ((y_add (eI d0) rfl wX).mono (fun τ _ h => cN (σ := τ) h))) (gB 0 (gE ok48 fun a54 s48 ok51 D32 => ?_))))
           exact tn ⟨xs.length - ((i + 1)), by omega, s48, (i + 1), j, rfl, (F51.step0 D32.stp), ok51, (cJ (D32.m 2 rfl)), (D32.k (D29.k q346)), (D32.k q354), (D32.k q355), (D32.k q356), (D32.k q357), by omega, by omega, hjc, fun k h1 h2 => by (by_cases e : k = i + 1; (subst e; omega); exact hnx k h1 oM), rfl⟩
         ·
          have hie3 : i = xs.length := oM
          refine wp_exit (tx (tx (bx (tn (wp_seq ?_)))))
          obtain ⟨ib, hib⟩ : ∃ ib, ib = pick bb 255 := ⟨_, rfl⟩
          have hibl_ : ib < 255 := by rw [hib]; exact pick_lt _ oM
          obtain ⟨z1, hz1⟩ : ∃ z, a50.eval (.tmp 13) = z := ⟨_, rfl⟩
          have q377 : At (Ty.val z1) s44 a50 (.tmp 13) := hz1
          have o78 : FrB s44 ((GW.w s0).heap.size) z1 (linesR xs) := by rw [← hz1]; exact q349
          refine gI a50 s44 ok47 (gM q377 (gM q350 (gT (Ty.lst Ty.byte (linesR xs)) rfl (fun A B E G H => rP (y_move (frb_at (kp (H 13 rfl) E q377) (FrB.k0 o78 E)))) (gM q350 (gT (Ty.ref [(Ty.byte ((linesR xs).getD ia 0))]) rfl (fun A B E G H d0 d1 => rP (y_index1 Tryd.underlying22 Tryd.inf5 (eI d0) (eI d1) oM (lst_get Ty.byte (linesR xs) 0 ia oM))) (gS rfl (fun A B E G H d0 => rP (y_load Tryd.underlying5 rfl (eI d0) rfl)) (gM q348 (gT (Ty.nat ib) rfl (fun A B E G H d0 => rP ((y_call #[A.eval (.tmp 126), A.eval ((Operand.const (Value.int IntKind.i64 255)))] Tryd.func13 rfl rfl my2 (pick_fn (bb) (255) _ _ _ (cvi (σ := B) oM (ef d0 rfl)) (cvi (σ := B) oM rfl) oM oM)).mono (fun τ _ h => cvt (σ := τ) (T := (Ty.nat (pick (bb) (255)))) (U := (Ty.nat ib)) (by rw [hib]) h))) (gT (Ty.nat (1 + ib)) rfl (fun A B E G H d0 => rP ((y_add rfl (eI d0) wX).mono (fun τ _ h => cN (σ := τ) h))) (gT (Ty.val (Value.int .u8 (((1 + ib) : Nat) : Int))) rfl (fun A B E G H d0 => rP (y_conv Tryd.underlying5 (eI d0) (by exact wrap_u8 oM oM) (by rw [Tryd.underlying3]; rfl))) (gT (Ty.byte (((linesR xs).getD ia 0) ^^^ (UInt8.ofNat (1 + ib)))) rfl (fun A B E G H d0 d1 => rP (y_xorBN oM (eI d0) (eI d1))) (gT (Ty.val (cellPtr z1 ia)) rfl (fun A B E G H d0 d1 d2 d3 d4 d5 d6 d7 d8 d9 d10 d11 d12 => rP (y_indexFr (i := ia) Tryd.underlying22 Tryd.inf5 (FrB.k0 o78 E) (eI d0) (eI d1) oM)) (gE2 ok47 fun a55 s49 ok52 D33 => ?_))))))))))))); have o79 := FrB.k0 o78 D33.stp
          refine m_frb (c := (((linesR xs).getD ia 0) ^^^ (UInt8.ofNat (1 + ib)))) rfl Tryd.inf5 (F50.step0 D33.stp) o79 ok52 (D33.m 11 rfl) oM (D33.m 10 rfl) (fun s50 F56 o80 => ?_)
          have q382 : At (Ty.nat (endN xs j)) s50 a55 (.tmp 14) := (D33.k q346)
          have q383 : At (Ty.frshB ((GW.w s0).heap.size) (List.set (linesR xs) ia (((linesR xs).getD ia 0) ^^^ (UInt8.ofNat (1 + ib))))) s50 a55 (.tmp 13) := frb_fr (D33.k q377) o80
          refine wpList_nil (tn (wp_seq ?_))
          have hji_ := end_in (xs := xs) hie3 hj hjc hial_
          have hnt_ := (end_next (xs := xs) (c := ia) hie3 hj hnx).resolve_left oM
          have hne_ : (linesR xs).getD ia 0 ≠ ((linesR xs).getD ia 0 ^^^ (UInt8.ofNat (1 + ib))) := xor_ne (ofn_ne oM oM)
          have htl_ := turn_law hmz_ oM hji_ hjc hnt_ hne_
          have hts_ := turn_says hmz_ oM hji_ hjc hnt_ hne_
          have hol2_ := opn_lines 1000 (List.set (linesR xs) ia ((linesR xs).getD ia 0 ^^^ (UInt8.ofNat (1 + ib))))
          have hok2_ : ∀ r ∈ (opn 1000 (List.set (linesR xs) ia ((linesR xs).getD ia 0 ^^^ (UInt8.ofNat (1 + ib))))).1, mayR r = 0 := hol2_.2.2.1
          have hxl2_ : (opn 1000 (List.set (linesR xs) ia ((linesR xs).getD ia 0 ^^^ (UInt8.ofNat (1 + ib))))).1.length ≤ 1000 := hol2_.2.2.2
          have hsl_ : (List.set (linesR xs) ia ((linesR xs).getD ia 0 ^^^ (UInt8.ofNat (1 + ib)))).length = (linesR xs).length := List.length_set
          have hll2_ : (linesR (opn 1000 (List.set (linesR xs) ia ((linesR xs).getD ia 0 ^^^ (UInt8.ofNat (1 + ib))))).1).length ≤ (linesR xs).length := (by rw [hts_, List.length_take, hsl_]; exact Nat.min_le_right _ _)
          refine gI a55 s50 ok52 (gT (Ty.lst Ty.byte (List.set (linesR xs) ia (((linesR xs).getD ia 0) ^^^ (UInt8.ofNat (1 + ib))))) rfl (fun A B E G H => rP (y_move (frshB_lst (kp (H 13 rfl) E q383)))) (gE2 ok52 fun a56 s51 ok53 D34 => ?_)); have F57 := F56.step0 D34.stp
          refine tL ok53 (y_callL (L := []) [] [(40, 63), (41, 64)] _ rfl dE Tryd.func5 rfl rfl my1 (bOpen_fn ((List.set (linesR xs) ia (((linesR xs).getD ia 0) ^^^ (UInt8.ofNat (1 + ib))))) _ lW _ (uL (D34.m 0 rfl))  (by first | omega | assumption | exact Gbk.up (GW.le_lend _ _) (Gbk.fl F57 rfl hglb0) | exact Gbk.up E.le0 (Gbk.fl F57 rfl hglb0) | exact Gbk.up (GW.le_lend _ _) (Gbk.fl F57 rfl hglb) | exact Gbk.up E.le0 (Gbk.fl F57 rfl hglb)) (by first | omega | assumption | exact Gbk.up (GW.le_lend _ _) (Gbk.fl F57 rfl hglb0) | exact Gbk.up E.le0 (Gbk.fl F57 rfl hglb0) | exact Gbk.up (GW.le_lend _ _) (Gbk.fl F57 rfl hglb) | exact Gbk.up E.le0 (Gbk.fl F57 rfl hglb)))) fun a57 s52 hs17 ok54 r17 sm17 => ?_
          obtain ⟨t15, ⟨x6, x7, hT6, o81, o82⟩, B6⟩ := r17
          have q389 : At (Ty.tup2 (Ty.val x6) (Ty.nat (opn 1000 ((List.set (linesR xs) ia (((linesR xs).getD ia 0) ^^^ (UInt8.ofNat (1 + ib)))))).2)) s52 a57 (.tmp 134) := Ty.up _ B6.le hT6
          have o83 : OwnP s52 63 x6 [(Ty.val x7)] := OwnP.ren o81 (B6.ren dE rfl)
          have o84 : Own s52 64 49 1 x7 (List.length (opn 1000 ((List.set (linesR xs) ia (((linesR xs).getD ia 0) ^^^ (UInt8.ofNat (1 + ib)))))).1) (List.map (Ty.ent 66) (opn 1000 ((List.set (linesR xs) ia (((linesR xs).getD ia 0) ^^^ (UInt8.ofNat (1 + ib)))))).1) := Own.ren o82 (B6.ren dE rfl)
          refine tL ok54 (Yld.toL (y_mv q389)) fun a58 s53 hs18 ok55 r18 sm18 => ?_
          have q392 : At (Ty.tup2 (Ty.val x6) (Ty.nat (opn 1000 ((List.set (linesR xs) ia (((linesR xs).getD ia 0) ^^^ (UInt8.ofNat (1 + ib)))))).2)) s53 a58 (.tmp 132) := r18
          clear r18
          refine tL (R := (fun v τ => Pr.has (Ty.pr (Ty.val x6)) τ v)) ok55 (Yld.toL (y_ext2_0 q392)) fun a59 s54 hs19 ok56 r19 sm19 => ?_
          have q396 : At (Ty.val x6) s54 a59 (.tmp 135) := r19
          clear r19
          refine tL (R := (fun v τ => Pr.has (Ty.pr (Ty.nat (opn 1000 ((List.set (linesR xs) ia (((linesR xs).getD ia 0) ^^^ (UInt8.ofNat (1 + ib)))))).2)) τ v)) ok56 (Yld.toL (y_ext2_1 (kq hs19 sm19 132 q392))) fun a60 s55 hs20 ok57 r20 sm20 => ?_
          have q400 : At (Ty.nat (opn 1000 ((List.set (linesR xs) ia (((linesR xs).getD ia 0) ^^^ (UInt8.ofNat (1 + ib)))))).2) s55 a60 (.tmp 136) := r20
          clear r20
          refine tL ok57 (Yld.toL (y_as (kq hs20 sm20 135 q396))) fun a61 s56 hs21 ok58 r21 sm21 => ?_
          have q404 : At (Ty.val x6) s56 a61 (.tmp 16) := r21
          clear r21
          refine tL ok58 (Yld.toL (y_as (kq hs21 sm21 136 q400))) fun a62 s57 hs22 ok59 r22 sm22 => ?_
          have q408 : At (Ty.nat (opn 1000 ((List.set (linesR xs) ia (((linesR xs).getD ia 0) ^^^ (UInt8.ofNat (1 + ib)))))).2) s57 a62 (.tmp 17) := r22
          clear r22; refine wpList_nil ?_
          have q409 : At (Ty.nat (endN xs j)) s57 a62 (.tmp 17) := (cvi (by (rw [htl_])) q408)
          refine tn (wp_seq ?_)
          obtain ⟨t16, e4, h4, q410⟩ := Own.seal (Own.kl (Own.kl (Own.kl (Own.kl (Own.kl o84 hs18) hs19) hs20) hs21) hs22) dE
          rw [← e4]
          have F64 := ((((((F57.sl hs17).sl hs18).sl hs19).sl hs20).sl hs21).sl hs22).step h4 dE; have o95 := OwnP.keepL (OwnP.kl (OwnP.kl (OwnP.kl (OwnP.kl (OwnP.kl o83 hs18) hs19) hs20) hs21) hs22) (h4.toL (L := [64]) (by simp)) dE dE; have q411 := Ty.up (Ty.nat (endN xs j)) (h4.le dE) (kq hs22 sm22 14 (kq hs21 sm21 14 (kq hs20 sm20 14 (kq hs19 sm19 14 (kq hs18 sm18 14 (kq hs17 sm17 14 (D34.k q382))))))); have q412 := Ty.up (Ty.frshB ((GW.w s0).heap.size) (List.set (linesR xs) ia (((linesR xs).getD ia 0) ^^^ (UInt8.ofNat (1 + ib))))) (h4.le dE) (kq hs22 sm22 13 (kq hs21 sm21 13 (kq hs20 sm20 13 (kq hs19 sm19 13 (kq hs18 sm18 13 (kq hs17 sm17 13 (D34.k q383))))))); have q413 := Ty.up (Ty.val x6) (h4.le dE) (kq hs22 sm22 16 q404); have q414 := Ty.up (Ty.nat (endN xs j)) (h4.le dE) q409; have o96 := ownp_cellq 0 (Ty.lst (Ty.ent 66) (opn 1000 ((List.set (linesR xs) ia (((linesR xs).getD ia 0) ^^^ (UInt8.ofNat (1 + ib)))))).1) o95 rfl q410
          obtain ⟨t17, e5, h5, q415⟩ := OwnP.seal o96 dE
          rw [← e5]
          have F65 := F64.step h5 dE; have q416 := Ty.up (Ty.nat (endN xs j)) (h5.le dE) q411; have q417 := Ty.up (Ty.frshB ((GW.w s0).heap.size) (List.set (linesR xs) ia (((linesR xs).getD ia 0) ^^^ (UInt8.ofNat (1 + ib))))) (h5.le dE) q412
          have q418 : At (Ty.ref [(Ty.lst (Ty.ent 66) (opn 1000 ((List.set (linesR xs) ia (((linesR xs).getD ia 0) ^^^ (UInt8.ofNat (1 + ib)))))).1)]) t17 a62 (.tmp 16) := by have e : a62.eval (.tmp 16) = x6 := q413; show Ty.has _ _ _; rw [e]; exact q415
          have q419 := Ty.up (Ty.nat (endN xs j)) (h5.le dE) q414
          refine gI a62 t17 ok59 (gM q418 (gT (Ty.bool true) rfl (fun A B E G H d0 => rP (y_refne Tryd.underlying23 (eI d0) rfl)) (gS rfl (fun A B E G H d0 => rP (y_move (eI d0))) (gS rfl (fun A B E G H d0 => gu G (eI d0) fun hg => y_move (kp (H 17 rfl) E q419)) (gS rfl (fun A B E G H d0 => gu G (eI d0) fun hg => y_move (kp (H 14 rfl) E q416)) (gS rfl (fun A B E G H d0 d1 d2 => gu G (eI d2) fun hg => y_eql ((ef d0 rfl).1 hg) ((ef d1 rfl).1 hg)) (gS rfl (fun A B E G H d0 d1 => rP (y_pick_and (eI d0) (eI d1) rfl)) (gS rfl (fun A B E G H d0 d1 => rP (y_move (eI d0))) (gT (Ty.grd ((true && (decide ((((endN xs j) : Nat) : Int) = (((endN xs j) : Nat) : Int)))) = true) (Ty.ref [(Ty.lst (Ty.ent 66) (opn 1000 ((List.set (linesR xs) ia (((linesR xs).getD ia 0) ^^^ (UInt8.ofNat (1 + ib)))))).1)])) rfl (by intro A B E G H d0; refine run_guard G rfl rfl dE (eI d0) (fun hg => ?_); obtain ⟨d43, d44⟩ := Bool.and_eq_true_iff.mp hg; have d44 := of_decide_eq_true d44; exact y_move (kp (H 16 rfl) E q418)) ?_)))))))))
          refine gT (Ty.grd ((true && (decide ((((endN xs j) : Nat) : Int) = (((endN xs j) : Nat) : Int)))) = true) (Ty.lst Ty.byte (linesR ((opn 1000 ((List.set (linesR xs) ia (((linesR xs).getD ia 0) ^^^ (UInt8.ofNat (1 + ib)))))).1)))) rfl (by intro A B E G H d0 d1 d2; refine run_guard G rfl rfl dE (eI d1) (fun hg => ?_); obtain ⟨d45, d46⟩ := Bool.and_eq_true_iff.mp hg; have d46 := of_decide_eq_true d46; exact y_call _ Tryd.func10 rfl rfl my1 (bBytesR_fn ((opn 1000 ((List.set (linesR xs) ia (((linesR xs).getD ia 0) ^^^ (UInt8.ofNat (1 + ib)))))).1) _ _ ((ef d0 rfl).1 hg) (by first | omega | assumption | exact Gbk.up (GW.le_lend _ _) (Gbk.fl F65 rfl hglb0) | exact Gbk.up E.le0 (Gbk.fl F65 rfl hglb0) | exact Gbk.up (GW.le_lend _ _) (Gbk.fl F65 rfl hglb) | exact Gbk.up E.le0 (Gbk.fl F65 rfl hglb)) (by first | omega | assumption | exact Gbk.up (GW.le_lend _ _) (Gbk.fl F65 rfl hglb0) | exact Gbk.up E.le0 (Gbk.fl F65 rfl hglb0) | exact Gbk.up (GW.le_lend _ _) (Gbk.fl F65 rfl hglb) | exact Gbk.up E.le0 (Gbk.fl F65 rfl hglb)) (by first | omega | assumption | exact Gbk.up (GW.le_lend _ _) (Gbk.fl F65 rfl hglb0) | exact Gbk.up E.le0 (Gbk.fl F65 rfl hglb0) | exact Gbk.up (GW.le_lend _ _) (Gbk.fl F65 rfl hglb) | exact Gbk.up E.le0 (Gbk.fl F65 rfl hglb)) (by first | omega | assumption | exact Gbk.up (GW.le_lend _ _) (Gbk.fl F65 rfl hglb0) | exact Gbk.up E.le0 (Gbk.fl F65 rfl hglb0) | exact Gbk.up (GW.le_lend _ _) (Gbk.fl F65 rfl hglb) | exact Gbk.up E.le0 (Gbk.fl F65 rfl hglb)))) ?_
          refine gT (Ty.grd ((true && (decide ((((endN xs j) : Nat) : Int) = (((endN xs j) : Nat) : Int)))) = true) (Ty.val (Value.string (bsL (linesR ((opn 1000 ((List.set (linesR xs) ia (((linesR xs).getD ia 0) ^^^ (UInt8.ofNat (1 + ib)))))).1)))))) rfl (by intro A B E G H d0 d1; refine run_guard G rfl rfl dE (eI d1) (fun hg => ?_); obtain ⟨d47, d48⟩ := Bool.and_eq_true_iff.mp hg; have d48 := of_decide_eq_true d48; exact y_convBS (bs := (linesR ((opn 1000 ((List.set (linesR xs) ia (((linesR xs).getD ia 0) ^^^ (UInt8.ofNat (1 + ib)))))).1))) Tryd.underlying22 Tryd.underlying5 Tryd.underlying9 ((ef d0 rfl).1 hg)) (gT (Ty.grd ((true && (decide ((((endN xs j) : Nat) : Int) = (((endN xs j) : Nat) : Int)))) = true) (Ty.lst Ty.byte (List.set (linesR xs) ia (((linesR xs).getD ia 0) ^^^ (UInt8.ofNat (1 + ib)))))) rfl (by intro A B E G H d0; refine run_guard G rfl rfl dE (eI d0) (fun hg => ?_); obtain ⟨d49, d50⟩ := Bool.and_eq_true_iff.mp hg; have d50 := of_decide_eq_true d50; exact y_move (frshB_lst (kp (H 13 rfl) E q417))) (gT (Ty.grd ((true && (decide ((((endN xs j) : Nat) : Int) = (((endN xs j) : Nat) : Int)))) = true) (Ty.nat (endN xs j))) rfl (by intro A B E G H d0; refine run_guard G rfl rfl dE (eI d0) (fun hg => ?_); obtain ⟨d51, d52⟩ := Bool.and_eq_true_iff.mp hg; have d52 := of_decide_eq_true d52; exact y_move (kp (H 14 rfl) E q416)) (gT (Ty.grd ((true && (decide ((((endN xs j) : Nat) : Int) = (((endN xs j) : Nat) : Int)))) = true) (Ty.lst Ty.byte ((List.set (linesR xs) ia (((linesR xs).getD ia 0) ^^^ (UInt8.ofNat (1 + ib)))).take (endN xs j)))) rfl (by intro A B E G H d0 d1 d2; refine run_guard G rfl rfl dE (eI d2) (fun hg => ?_); obtain ⟨d53, d54⟩ := Bool.and_eq_true_iff.mp hg; have d54 := of_decide_eq_true d54; exact y_take Tryd.underlying22 Tryd.inf5 ((ef d0 rfl).1 hg) ((ef d1 rfl).1 hg) oM) ?_)))
          refine gT (Ty.grd ((true && (decide ((((endN xs j) : Nat) : Int) = (((endN xs j) : Nat) : Int)))) = true) (Ty.val (Value.string (bsL ((List.set (linesR xs) ia (((linesR xs).getD ia 0) ^^^ (UInt8.ofNat (1 + ib)))).take (endN xs j)))))) rfl (by intro A B E G H d0 d1; refine run_guard G rfl rfl dE (eI d1) (fun hg => ?_); obtain ⟨d55, d56⟩ := Bool.and_eq_true_iff.mp hg; have d56 := of_decide_eq_true d56; exact y_convBS (bs := ((List.set (linesR xs) ia (((linesR xs).getD ia 0) ^^^ (UInt8.ofNat (1 + ib)))).take (endN xs j))) Tryd.underlying22 Tryd.underlying5 Tryd.underlying9 ((ef d0 rfl).1 hg)) (gT (Ty.grd ((true && (decide ((((endN xs j) : Nat) : Int) = (((endN xs j) : Nat) : Int)))) = true) (Ty.bool (decide ((bsL (linesR ((opn 1000 ((List.set (linesR xs) ia (((linesR xs).getD ia 0) ^^^ (UInt8.ofNat (1 + ib)))))).1))) = (bsL ((List.set (linesR xs) ia (((linesR xs).getD ia 0) ^^^ (UInt8.ofNat (1 + ib)))).take (endN xs j))))))) rfl (by intro A B E G H d0 d1 d2; refine run_guard G rfl rfl dE (eI d2) (fun hg => ?_); obtain ⟨d57, d58⟩ := Bool.and_eq_true_iff.mp hg; have d58 := of_decide_eq_true d58; exact y_seql Tryd.underlying9 ((ef d0 rfl).1 hg) ((ef d1 rfl).1 hg)) (gS rfl (fun A B E G H d0 d1 => rP (y_pick_and (eI d0) (eI d1) rfl)) (gB 0 (gE ok59 fun a63 s58 ok60 D35 => ?_)))); refine tn (wp_ret ?_)
          exact retL1 rfl ok60 (F65.step0 D35.stp) (cvb (by (rw [hts_]; simp)) (D35.m 17 rfl))


end Go.Proofs.YtfgkhpkbehhflaaDoor
