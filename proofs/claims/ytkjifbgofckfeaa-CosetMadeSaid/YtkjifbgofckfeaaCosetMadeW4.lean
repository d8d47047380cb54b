/- The functions that the law CosetMade reaches, each by its contract. Part 4. -/
import Derived.Test.YtkjifbgofckfeaaCosetMadeW3
namespace Go.Proofs.Ytkjifbgofckfeaa
open Go.KL
theorem Try.inf100 : Info Try.prog 100 (.map none) 1 8 := by unfold Info; kernel_rfl
theorem Try.fld106_0 : fieldOf Try.prog 106 0 = some (24, 0) := by kernel_rfl
theorem Try.fld106_1 : fieldOf Try.prog 106 1 = some (24, 1) := by kernel_rfl
theorem Try.fld106_3 : fieldOf Try.prog 106 3 = some (100, 3) := by kernel_rfl
set_option maxHeartbeats 4000000 in
set_option maxRecDepth 100000 in
theorem cFill_fn (tv : Value) (mv : Value) (H : List (List Int)) (n : Nat) (G : List (List Int)) (F : List (List Int)) (σ : GW) (hlow : Low [41, 44] σ) (v0 v1 v2 : Value) (hv0 : Ty.has (Ty.val tv) σ v0) (hv1 : Ty.has (Ty.nat n) σ v1) (hv2 : Ty.has (Ty.lst Ty.ints G) σ v2) (ho_tv : OwnP σ 41 tv [(Ty.val (Value.slice none 0 0)), (Ty.val (Value.slice none 0 0)), (Ty.lst Ty.ints H), (Ty.val mv)]) (ho_mv : OwnM Ty.int kI σ 44 mv (fun _ => none)) (hP : PrtP n G H) (hnd : H.Nodup) (hF : EltsOk n G F) (hlm : F.length < 1001 * H.length) (hGl : G.length ≤ 1000) :
    FnL Try.prog 71 #[v0, v1, v2] σ [41, 44] (fun v τ => ∃ (T : Nat), ∃ (f : (Int → Option Int)), ∃ (R : (List (List Int))), ∃ (W : (List (List Int))), ∃ (N : (List (List Int))), ∃ (nx : Value), ∃ (wd : Value), True ∧ (OwnP τ 41 tv [(Ty.val nx), (Ty.val wd), (Ty.lst Ty.ints H), (Ty.val mv)]) ∧ (Own τ 42 22 1 nx (List.length N) (List.map Ty.ints N)) ∧ (Own τ 43 22 1 wd (List.length W) (List.map Ty.ints W)) ∧ (OwnM Ty.int kI τ 44 mv f) ∧ (PrS n G H T R W N) ∧ (R.length = T) ∧ (PMap n H R f)) := by
 have hn := hP.hn
 have hG := hP.hG
 have hHr := hP.row
 have hzr := rounds_rowN hn
 refine fn_introL hlow Try.func71 rfl Try.ntmps71 (Nat.le_of_ble_eq_true rfl) (fun a0 F0 ok0 hargs => ?_)
 have p0 := pB (hargs 0 _ rfl) hv0
 have p1 := pB (hargs 1 _ rfl) hv1
 have p2 := pB (hargs 2 _ rfl) hv2
 have b1 := sl_le p2
 clear hargs
 refine scope_loop 0 (fun n1 a1 w1 => ∃ (t1 : GW) (i : Nat) (f : (Int → Option Int)) (R : (List (List Int))) (W : (List (List Int))) (N : (List (List Int))) (x8_l nx wd : Value), t1.w = w1 ∧ FromL [41, 44] σ t1 ∧ Ok 131 [] a1 ∧ At (Ty.nat i) t1 a1 (.tmp 9) ∧ At (Ty.val x8_l) t1 a1 (.tmp 8) ∧ At (Ty.val tv) t1 a1 (.tmp 0) ∧ At (Ty.lst Ty.ints G) t1 a1 (.tmp 2) ∧ Own t1 20 22 1 x8_l (List.length R) (List.map Ty.ints R) ∧ OwnP t1 41 tv [(Ty.val nx), (Ty.val wd), (Ty.lst Ty.ints H), (Ty.val mv)] ∧ Own t1 42 22 1 nx (List.length N) (List.map Ty.ints N) ∧ Own t1 43 22 1 wd (List.length W) (List.map Ty.ints W) ∧ OwnM Ty.int kI t1 44 mv f ∧ (PrS n G H i R W N) ∧ (i < R.length) ∧ (PMap n H R f) ∧ (WordsB W) ∧ n1 = 1001 - i) rfl ?_ ?_
 ·
  rintro n2 a2 w2 ⟨t2, i, f, R, W, N, x8_l, nx, wd, rfl, F1, ok1, q1, q2, q3, q4, o1, o2, o3, o4, o5, hS, hi, hf, hwb, rfl⟩
  obtain ⟨hR, hwl, hnl⟩ := hS.ok hP
  have hRl := hR.lim hP hnd hF hlm
  refine wp_seq ?_
  refine gI a2 t2 ok1 (gC (Ty.val (Value.slice none 0 0)) (gE ok1 fun a3 s1 ok2 D1 => ?_)); have q8 := D1.k q4; have o6 := Own.k0 o1 D1.stp; have o7 := OwnP.k0 o2 D1.stp; have o8 := Own.k0 o3 D1.stp; have o9 := Own.k0 o4 D1.stp; have o10 := OwnM.k0 o5 D1.stp; refine tn (wp_seq (wp_seq ?_))
  refine gI a3 s1 ok2 (gM q8 (gS rfl (fun A B I J O d0 => rP (y_len Try.underlying24 (ef d0 rfl))) (gT (Ty.nat (2 * (List.length G))) rfl (fun A B I J O d0 => rP ((y_mul rfl (ef d0 rfl) (w64 (by omega) (by omega))).mono (fun τ _ h => cvi (σ := τ) (by first | omega | exact (Int.natCast_mul _ _).symm) h))) (gT (Ty.int (0 : Int)) rfl (fun A B I J O => rP (y_move rfl)) (gE ok2 fun a4 s2 ok3 D2 => ?_))))); have o11 := Own.k0 o6 D2.stp; have o12 := OwnP.k0 o7 D2.stp; have o13 := Own.k0 o8 D2.stp; have o14 := Own.k0 o9 D2.stp; have o15 := OwnM.k0 o10 D2.stp; refine tn (wp_block ?_)
  have o16 : Own s2 21 3 1 (Value.slice none 0 0) 0 (List.map Ty.int ([] : List Int)) := Own.nil _ _ _ _
  refine loop (fun n3 a5 w3 => ∃ (t3 : GW) (j : Nat) (f2 : (Int → Option Int)) (R2 : (List (List Int))) (W2 : (List (List Int))) (l2 : (List Int)) (x10_0 x8_0 wd2 : Value), t3.w = w3 ∧ FromL [41, 44] σ t3 ∧ Ok 131 [] a5 ∧ At (Ty.nat j) t3 a5 (.tmp 39) ∧ At (Ty.val x10_0) t3 a5 (.tmp 10) ∧ At (Ty.val x8_0) t3 a5 (.tmp 8) ∧ At (Ty.nat i) t3 a5 (.tmp 9) ∧ At (Ty.val tv) t3 a5 (.tmp 0) ∧ At (Ty.lst Ty.ints G) t3 a5 (.tmp 2) ∧ At (Ty.nat (2 * (List.length G))) t3 a5 (.tmp 38) ∧ Own t3 21 3 1 x10_0 (List.length l2) (List.map Ty.int l2) ∧ Own t3 20 22 1 x8_0 (List.length R2) (List.map Ty.ints R2) ∧ OwnP t3 41 tv [(Ty.val nx), (Ty.val wd2), (Ty.lst Ty.ints H), (Ty.val mv)] ∧ Own t3 43 22 1 wd2 (List.length W2) (List.map Ty.ints W2) ∧ OwnM Ty.int kI t3 44 mv f2 ∧ Own t3 42 22 1 nx (List.length N) (List.map Ty.ints N) ∧ (j ≤ 2 * G.length) ∧ (PrT G H R W i j R2 W2 l2) ∧ (PMap n H R2 f2) ∧ (WordsB W2) ∧ n3 = 2 * G.length - j) (2 * G.length - (0)) ?_ ?_
  ·
   exact ⟨s2, 0, f, R, W, ([] : List Int), (Value.slice none 0 0), x8_l, wd, rfl, ((F1.step0 D1.stp).step0 D2.stp), ok3, (cvi (by (first | rfl | omega | (simp_all; done) | (simp_all; omega))) (D2.m 3 rfl)), (D2.k (D1.m 0 rfl)), (D2.k (D1.k q2)), (D2.k (D1.k q1)), (D2.k (D1.k q3)), (D2.k q8), (D2.m 2 rfl), (cvo (by (first | rfl | simp)) (by (first | rfl | simp)) o16), (cvo (by (simp)) (by (simp)) o11), o12, (cvo (by (simp)) (by (simp)) o14), (cvm (by (rfl)) o15), o13, by omega, PrT.start, hf, hwb, rfl⟩
  ·
   rintro n4 a6 w4 ⟨t4, j, f2, R2, W2, l2, x10_0, x8_0, wd2, rfl, F4, ok4, q17, q18, q19, q20, q21, q22, q23, o17, o18, o19, o20, o21, o22, hj, hT, hf2, hwb2, rfl⟩
   obtain ⟨hR2, hlR2, hwl2, hll2, hlb2⟩ := hT.ok hP hR hwl hi (by omega)
   have hRl2 := hR2.lim hP hnd hF hlm
   refine wp_seq ?_
   refine gI a6 t4 ok4 (gS rfl (fun A B I J O => rP (y_lss (kp (O 39 rfl) I q17) (kp (O 38 rfl) I q23))) (gE ok4 fun a7 s3 ok5 D3 => ?_)); have F5 := F4.step0 D3.stp; have q24 := D3.k q17; have q25 := D3.k q18; have q26 := D3.k q19; have q27 := D3.k q20; have q28 := D3.k q21; have q29 := D3.k q22; have q30 := D3.k q23; have o23 := Own.k0 o17 D3.stp; have o24 := Own.k0 o18 D3.stp; have o25 := OwnP.k0 o19 D3.stp; have o26 := Own.k0 o20 D3.stp; have o27 := OwnM.k0 o21 D3.stp; have o28 := Own.k0 o22 D3.stp; have q31 := D3.m 0 rfl; refine tn (wp_seq ?_)
   refine cond_p (p := (((j : Nat) : Int) < (((2 * (List.length G)) : Nat) : Int))) q31 (fun c1 => ?_) (fun c1 => ?_)
   ·
    have hlt := ltr_row hG (show j < 2 * G.length by omega); have hir := hR2.rows hP (show i < R2.length by omega); have hlr := hlt.1; have hb1 := hlr.bds hir.len; have hrj := hir.by hlr; have hrjr := hrj.row; have hrjl := hrj.len; have hgr := hlt.2; have hgl := (hG _ (mem_atD [] (show j / 2 < G.length by omega))).len; have hll := hlr.len; have hil := hir.len; have hlrr := hlr.row
    refine wp_skip (tn (wp_seq (wp_block (wp_seq ?_))))
    refine gI a7 s3 ok5 (gM q24 (gB 0 (gE ok5 fun a8 s4 ok6 D4 => ?_))); have q37 := D4.k q29; have o29 := Own.k0 o23 D4.stp; have o30 := Own.k0 o24 D4.stp; have o31 := OwnP.k0 o25 D4.stp; have o32 := Own.k0 o26 D4.stp; have o33 := OwnM.k0 o27 D4.stp; have o34 := Own.k0 o28 D4.stp; have q39 := D4.m 1 rfl; refine tn (wp_seq ?_)
    refine gI a8 s4 ok6 (gM q37 (gM q39 (gT (Ty.nat (j / 2)) rfl (fun A B I J O d0 => rP (y_quoN (ef d0 rfl) (toN (σ := B) rfl (by omega)) (by omega) (by omega))) (gT (Ty.ref [(Ty.lst Ty.int (G.getD (j / 2) []))]) rfl (fun A B I J O d0 d1 => rP (y_index1 Try.underlying24 Try.inf22 (ef d0 rfl) (ef d1 rfl) (by omega) (lst_get Ty.ints G [] (j / 2) (by omega)))) (gS rfl (fun A B I J O d0 => rP (y_load Try.underlying22 rfl (ef d0 rfl) rfl)) (gM q39 (gT (Ty.nat (j / 2)) rfl (fun A B I J O d0 d1 => rP (y_quoN (ef d0 rfl) (toN (σ := B) rfl (by omega)) (by omega) (by omega))) (gT (Ty.nat ((j / 2) + 1)) rfl (fun A B I J O d0 d1 => rP ((y_add (ef d0 rfl) rfl (w64 (by omega) (by omega))).mono (fun τ _ h => cvi (σ := τ) (by first | omega | exact (Int.natCast_mul _ _).symm) h))) (gB 0 (gB 0 (gE ok6 fun a9 s5 ok7 D5 => ?_))))))))))); have o35 := Own.k0 o29 D5.stp; have o36 := Own.k0 o30 D5.stp; have o37 := OwnP.k0 o31 D5.stp; have o38 := Own.k0 o32 D5.stp; have o39 := OwnM.k0 o33 D5.stp; have o40 := Own.k0 o34 D5.stp; refine tn (wp_seq (wp_seq ?_))
    refine gI a9 s5 ok7 (gM (D5.k q39) (gT (Ty.nat (j % 2)) rfl (fun A B I J O d0 => rP (y_remN (ef d0 rfl) (toN (σ := B) rfl (by omega)) (by omega))) (gS rfl (fun A B I J O d0 => rP (y_eql (ef d0 rfl) rfl)) (gE ok7 fun a10 s6 ok8 D6 => ?_)))); have F8 := ((F5.step0 D4.stp).step0 D5.stp).step0 D6.stp; have q50 := D6.k (D5.k (D4.k q24)); have q51 := D6.k (D5.k (D4.k q25)); have q52 := D6.k (D5.k (D4.k q26)); have q53 := D6.k (D5.k (D4.k q27)); have q54 := D6.k (D5.k (D4.k q28)); have q55 := D6.k (D5.k q37); have q56 := D6.k (D5.k (D4.k q30)); have q57 := D6.k (D5.m 8 rfl); have q58 := D6.k (D5.m 9 rfl); have o41 := Own.k0 o35 D6.stp; have o42 := Own.k0 o36 D6.stp; have o43 := OwnP.k0 o37 D6.stp; have o44 := Own.k0 o38 D6.stp; have o45 := OwnM.k0 o39 D6.stp; have o46 := Own.k0 o40 D6.stp; refine tn ?_
    refine Go.KL.join_then (Q' := fun a11 w5 => ∃ (t5 : GW), t5.w = w5 ∧ FromL [41, 44] σ t5 ∧ Ok 131 [] a11 ∧ At (Ty.lst Ty.int (ltr G j)) t5 a11 (.tmp 12) ∧ At (Ty.int (ltrN j)) t5 a11 (.tmp 13) ∧ At (Ty.nat j) t5 a11 (.tmp 39) ∧ At (Ty.val x10_0) t5 a11 (.tmp 10) ∧ At (Ty.val x8_0) t5 a11 (.tmp 8) ∧ At (Ty.nat i) t5 a11 (.tmp 9) ∧ At (Ty.val tv) t5 a11 (.tmp 0) ∧ At (Ty.lst Ty.ints G) t5 a11 (.tmp 2) ∧ At (Ty.nat (2 * (List.length G))) t5 a11 (.tmp 38) ∧ Own t5 21 3 1 x10_0 (List.length l2) (List.map Ty.int l2) ∧ Own t5 20 22 1 x8_0 (List.length R2) (List.map Ty.ints R2) ∧ OwnP t5 41 tv [(Ty.val nx), (Ty.val wd2), (Ty.lst Ty.ints H), (Ty.val mv)] ∧ Own t5 43 22 1 wd2 (List.length W2) (List.map Ty.ints W2) ∧ OwnM Ty.int kI t5 44 mv f2 ∧ Own t5 42 22 1 nx (List.length N) (List.map Ty.ints N) ∧ True) ?_ ?_
    ·
     refine cond_p (p := ((((j % 2) : Nat) : Int) = (1 : Int))) (D6.m 2 rfl) (fun c2 => ?_) (fun c2 => ?_)
     ·
      refine gI a10 s6 ok8 (gM q57 (gS rfl (fun A B I J O d0 => rP (y_call _ Try.func65 rfl rfl my1 (inverse_fn ((G.getD (j / 2) [])) _ _ (ef d0 rfl) (by assumption)))) (gM q58 (gT (Ty.int (-((((j / 2) + 1) : Nat) : Int))) rfl (fun A B I J O d0 d1 => rP (y_neg (ef d0 rfl) (w64 (by omega) (by omega)))) (gB 0 (gB 0 (gE ok8 fun a12 s7 ok9 D7 => ?_))))))); have o47 := Own.k0 o41 D7.stp; have o48 := Own.k0 o42 D7.stp; have o49 := OwnP.k0 o43 D7.stp; have o50 := Own.k0 o44 D7.stp; have o51 := OwnM.k0 o45 D7.stp; have o52 := Own.k0 o46 D7.stp
      exact tn ⟨s7, rfl, (F8.step0 D7.stp), ok9, (cvt (by (unfold ltr; rw [if_pos (by omega)])) (D7.m 4 rfl)), (cvi (by (unfold ltrN; rw [if_pos (by omega)])) (D7.m 5 rfl)), (D7.k q50), (D7.k q51), (D7.k q52), (D7.k q53), (D7.k q54), (D7.k q55), (D7.k q56), o47, o48, o49, o50, o51, o52, trivial⟩
     ·
      refine wp_skip ?_
      exact tn ⟨s6, rfl, F8, ok8, (cvt (by (unfold ltr; rw [if_neg (by omega)])) q57), (cvi (by (unfold ltrN; rw [if_neg (by omega)])) q58), q50, q51, q52, q53, q54, q55, q56, o41, o42, o43, o44, o45, o46, trivial⟩
    ·
     rintro a13 w6 ⟨t6, rfl, F10, ok10, q69, q70, q71, q72, q73, q74, q75, q76, q77, o53, o54, o55, o56, o57, o58, -⟩
     refine wp_seq ?_
     refine gI a13 t6 ok10 (gM q73 (gM q74 (gT (Ty.val (cellPtr x8_0 i)) rfl (fun A B I J O d0 d1 => rP (own_index1 (i := ((i : Nat) : Int)) Try.underlying24 Try.inf22 (Own.k0 o54 I) (ef d0 rfl) (ef d1 rfl) (by omega) (by omega))) (gS rfl (fun A B I J O d0 => rP (own_load Try.underlying22 rfl (Own.k0 o54 I) (ef d0 rfl) (lst_get Ty.ints R2 [] i (by omega)))) (gM q69 (gS rfl (fun A B I J O d0 d1 => rP (y_call _ Try.func64 rfl rfl my2 (product_fn ((R2.getD i [])) ((ltr G j)) _ _ _ (ef d0 rfl) (ef d1 rfl) (by first | assumption | omega) (by first | assumption | omega) (by first | assumption | omega)))) (gB 0 (gE ok10 fun a14 s8 ok11 D8 => ?_)))))))); have q83 := D8.k q75; have o59 := Own.k0 o53 D8.stp; have o60 := Own.k0 o54 D8.stp; have o61 := OwnP.k0 o55 D8.stp; have o62 := Own.k0 o56 D8.stp; have o63 := OwnM.k0 o57 D8.stp; have o64 := Own.k0 o58 D8.stp; have q86 := D8.m 6 rfl; refine tn (wp_seq ?_)
     refine gI a14 s8 ok11 (gM q83 (gM q86 (gT (Ty.int (nmP H ((byL ((R2.getD i [])) ((ltr G j)))))) rfl (fun A B I J O d0 d1 => rP (y_callp (R := (Ty.int (nmP H ((byL ((R2.getD i [])) ((ltr G j))))))) #[A.eval (.tmp 63), A.eval (.tmp 64)] int_any (OwnP.seal (OwnP.k0 o61 I) (by decide)) (by decide) (ef d0 rfl) Try.func73 rfl rfl (by simp only [List.map_toArray, List.map_cons, List.map_nil]) (fun s_ hle_ hs_ => cName_fn (nx) (wd2) (mv) (H) (n) ((byL ((R2.getD i [])) ((ltr G j)))) s_ _ _ hs_ (Ty.up (Ty.lst Ty.int (byL ((R2.getD i [])) ((ltr G j)))) hle_ (ef d1 rfl)) (by first | omega | assumption) (by first | omega | assumption) (by first | omega | assumption)))) (gB 0 (gE ok11 fun a15 s9 ok12 D9 => ?_))))); have q92 := D9.k q83; have o65 := Own.k0 o59 D9.stp; have o66 := Own.k0 o60 D9.stp; have o67 := OwnP.k0 o61 D9.stp; have o68 := Own.k0 o62 D9.stp; have o69 := OwnM.k0 o63 D9.stp; have o70 := Own.k0 o64 D9.stp; have q96 := D9.m 3 rfl; refine tn (wp_seq ?_)
     refine gI a15 s9 ok12 (gM q92 (gT (Ty.val tv) rfl (fun A B I J O d0 => rP (y_nilp (OwnP.k0 o67 I) (ef d0 rfl))) (gT (Ty.val (ptrAt tv 3)) rfl (fun A B I J O d0 => rP (ownp_field Try.fld106_3 Try.inf100 (by decide) (OwnP.k0 o67 I) (ef d0 rfl))) (gS rfl (fun A B I J O d0 => rP (ownp_load Try.underlying100 rfl (OwnP.k0 o67 I) (ef d0 rfl) rfl)) (gM q96 (gT (Ty.tup2 (Ty.int ((f2 (nmP H ((byL ((R2.getD i [])) ((ltr G j)))))).getD 0)) (Ty.bool (Option.isSome (f2 (nmP H ((byL ((R2.getD i [])) ((ltr G j))))))))) rfl (fun A B I J O d0 d1 => rP (y_lookup2 (i := (nmP H ((byL ((R2.getD i [])) ((ltr G j)))))) (z := 0) Try.underlying100 (keyInt Try.underlying3) Try.inf3 (fun _ => rfl) (OwnM.k0 o69 I) (ef d0 rfl) (ef d1 rfl))) (gS rfl (fun A B I J O d0 => rP (y_move (ef d0 rfl))) (gT (Ty.int ((f2 (nmP H ((byL ((R2.getD i [])) ((ltr G j)))))).getD 0)) rfl (fun A B I J O d0 => rP (y_ext2_0 (ef d0 rfl))) (gT (Ty.bool (Option.isSome (f2 (nmP H ((byL ((R2.getD i [])) ((ltr G j)))))))) rfl (fun A B I J O d0 d1 => rP (y_ext2_1 (ef d0 rfl))) (gB 0 (gB 0 (gE ok12 fun a16 s10 ok13 D10 => ?_)))))))))))); have o71 := Own.k0 o65 D10.stp; have o72 := Own.k0 o66 D10.stp; have o73 := OwnP.k0 o67 D10.stp; have o74 := Own.k0 o68 D10.stp; have o75 := OwnM.k0 o69 D10.stp; have o76 := Own.k0 o70 D10.stp; refine tn (wp_seq (wp_seq ?_))
     refine gI a16 s10 ok13 (gM (D10.m 10 rfl) (gS rfl (fun A B I J O d0 => rP (y_not (ef d0 rfl))) (gE ok13 fun a17 s11 ok14 D11 => ?_))); have F14 := (((F10.step0 D8.stp).step0 D9.stp).step0 D10.stp).step0 D11.stp; have q110 := D11.k (D10.k (D9.k (D8.k q71))); have q111 := D11.k (D10.k (D9.k (D8.k q72))); have q112 := D11.k (D10.k (D9.k (D8.k q73))); have q113 := D11.k (D10.k (D9.k (D8.k q74))); have q114 := D11.k (D10.k q92); have q115 := D11.k (D10.k (D9.k (D8.k q76))); have q116 := D11.k (D10.k (D9.k (D8.k q77))); have o77 := Own.k0 o71 D11.stp; have o78 := Own.k0 o72 D11.stp; have o79 := OwnP.k0 o73 D11.stp; have o80 := Own.k0 o74 D11.stp; have o81 := OwnM.k0 o75 D11.stp; have o82 := Own.k0 o76 D11.stp; refine tn ?_
     refine cond_t (D11.m 1 rfl) (fun c3 => ?_) (fun c3 => ?_)
     ·
      have hfn := pmap_none hf2 hrj (by simpa using c3); have hwi := hwb2 i (by omega)
      refine wp_seq ?_
      refine gI a17 s11 ok14 (gM q112 (gT (Ty.nat (List.length R2)) rfl (fun A B I J O d0 => rP (own_len Try.underlying24 (al (R := (Pr.own 20 22 1 (List.length R2) (List.map Ty.ints R2))) (ef d0 rfl) (Own.k0 o78 I)))) (gB 0 (gE ok14 fun a18 s12 ok15 D12 => ?_)))); have q126 := D12.k q114; have o83 := Own.k0 o77 D12.stp; have o84 := Own.k0 o78 D12.stp; have o85 := OwnP.k0 o79 D12.stp; have o86 := Own.k0 o80 D12.stp; have o87 := OwnM.k0 o81 D12.stp; have o88 := Own.k0 o82 D12.stp; have q131 := D12.m 2 rfl; refine tn (wp_seq ?_)
      refine gI a18 s12 ok15 (gM q126 (gT (Ty.val tv) rfl (fun A B I J O d0 => rP (y_nilp (OwnP.k0 o85 I) (ef d0 rfl))) (gT (Ty.val (ptrAt tv 3)) rfl (fun A B I J O d0 => rP (ownp_field Try.fld106_3 Try.inf100 (by decide) (OwnP.k0 o85 I) (ef d0 rfl))) (gS rfl (fun A B I J O d0 => rP (ownp_load Try.underlying100 rfl (OwnP.k0 o85 I) (ef d0 rfl) rfl)) (gM (D12.k (D11.k (D10.k q96))) (gM q131 (gE2 ok15 fun a19 s13 ok16 D13 => ?_))))))); have o89 := Own.k0 o83 D13.stp; have o90 := Own.k0 o84 D13.stp; have o91 := OwnP.k0 o85 D13.stp; have o92 := Own.k0 o86 D13.stp; have o93 := OwnM.k0 o87 D13.stp; have o94 := Own.k0 o88 D13.stp
      refine tailL0 (L := [44]) (R := (fun _ τ => OwnM Ty.int kI τ 44 mv (fun x_ => if x_ = (nmP H ((byL ((R2.getD i [])) ((ltr G j))))) then some (((List.length R2) : Nat) : Int) else f2 x_))) rfl rfl (YldM.toL (m_mapset (i := (nmP H ((byL ((R2.getD i [])) ((ltr G j)))))) Try.underlying100 (keyInt Try.underlying3) (by decide) o93 (D13.m 3 rfl) (D13.m 4 rfl) (D13.m 5 rfl))) (fun v1 s14 hs1 r1 => ?_)
      have F17 := ((F14.step0 D12.stp).step0 D13.stp).sl hs1; have q145 := kpL hs1 (by decide) rfl (D13.k (D12.k (D11.k (D10.k (D9.k (D8.k q70)))))); have q146 := kpL hs1 (by decide) rfl (D13.k (D12.k q110)); have q147 := kpL hs1 (by decide) rfl (D13.k (D12.k q111)); have q148 := kpL hs1 (by decide) rfl (D13.k (D12.k q112)); have q149 := kpL hs1 (by decide) rfl (D13.k (D12.k q113)); have q150 := kpL hs1 (by decide) rfl (D13.k q126); have q151 := kpL hs1 (by decide) rfl (D13.k (D12.k q115)); have q152 := kpL hs1 (by decide) rfl (D13.k (D12.k q116)); have q153 := kpL hs1 (by decide) rfl (D13.k (D12.k (D11.k (D10.k (D9.k q86))))); have q154 := kpL hs1 (by decide) rfl (D13.k q131)
      have o95 : OwnM Ty.int kI s14 44 mv (fun x_ => if x_ = (nmP H ((byL ((R2.getD i [])) ((ltr G j))))) then some (((List.length R2) : Nat) : Int) else f2 x_) := r1
      clear r1; refine wpList_nil (tn (wp_seq ?_))
      refine gI a19 s14 ok16 (gM q148 (gM q153 (gT (Ty.sl 1 1 [(Ty.lst Ty.int (byL ((R2.getD i [])) ((ltr G j))))]) rfl (fun A B I J O d0 => rP (y_build1o Try.underlying24 Try.inf22 rfl (one_sl) (ef d0 rfl))) (gE2 ok16 fun a20 s15 ok17 D14 => ?_)))); have o101 := Own.k0 (Own.kl o89 hs1) D14.stp; have o102 := Own.k0 (Own.kl o90 hs1) D14.stp; have o103 := OwnP.k0 (OwnP.kl o91 hs1) D14.stp; have o104 := Own.k0 (Own.kl o92 hs1) D14.stp; have o105 := Own.k0 (Own.kl o94 hs1) D14.stp; have o106 := OwnM.k0 o95 D14.stp
      have q165 : At (Ty.val x8_0) s15 a20 (.tmp 85) := D14.done 0 (by decide)
      have q166 := D14.m 2 rfl
      have b2 := sl_le q166
      refine tL ok17 (YldM.toL (m_append Try.underlying24 Try.inf22 (by decide) rfl (by decide) (al (R := (Pr.own 20 22 1 (List.length R2) (List.map Ty.ints R2))) q165 o102) q166 (by intro U hU; simp at hU; subst hU; exact one_sl) (by omega) (by omega))) fun a21 s16 hs2 ok18 r2 sm1 => ?_
      have F19 := (F17.step0 D14.stp).sl hs2; have q170 := kq hs2 sm1 8 (D14.k q148)
      obtain ⟨x1, hx1⟩ : ∃ x, a21.eval (.tmp 88) = x := ⟨_, rfl⟩
      have q176 : At (Ty.val x1) s16 a21 (.tmp 88) := hx1
      have o107 := al2 (R := (Pr.own 20 22 1 (List.length (R2 ++ [(byL ((R2.getD i [])) ((ltr G j)))])) (List.map Ty.ints (R2 ++ [(byL ((R2.getD i [])) ((ltr G j)))])))) hx1 (cvo (by simp) (by first | (rw [List.map_append]; rfl) | simp) r2)
      clear r2
      refine tL ok18 (Yld.toL (y_as q176)) fun a22 s17 hs3 ok19 r3 sm2 => ?_
      have F20 := F19.sl hs3; have q180 := kq hs3 sm2 9 (kq hs2 sm1 9 (D14.k q149)); have q181 := kq hs3 sm2 0 (kq hs2 sm1 0 (D14.k q150)); have o114 := OwnP.kl (OwnP.kl o103 hs2) hs3; have o115 := Own.kl (Own.kl o104 hs2) hs3
      have q185 : At (Ty.val x1) s17 a22 (.tmp 8) := r3
      clear r3; refine wpList_nil (tn ?_)
      refine reg6 (a := a22) (σ := s17) rfl 19 16 13 18 17 5 102 107 94 [62] [43] (by decide) (by decide) (Pr.own0 62 3) (Pr.own 62 3 1 (List.length (W2.getD i [])) (List.map Ty.int (W2.getD i []))) (Pr.own 43 22 1 ((List.length W2) + 1) ((List.map Ty.ints W2) ++ [(Ty.lst Ty.int ((W2.getD i []) ++ [(ltrN j)]))])) (fun i_ => List.getD [(Ty.val tv), (Ty.val tv), (Ty.val tv), (Ty.val (ptrAt tv 1)), (Ty.val wd2), Ty.any, (Ty.val tv), (Ty.val tv), (Ty.val (ptrAt tv 1)), (Ty.val wd2), (Ty.nat i), (Ty.val (cellPtr wd2 i)), (Ty.lst Ty.int (W2.getD i [])), Ty.any, (Ty.int (ltrN j)), (Ty.sl 1 1 [(Ty.int (ltrN j))]), (Ty.lst Ty.int ((W2.getD i []) ++ [(ltrN j)])), (Ty.sl 1 1 [(Ty.lst Ty.int ((W2.getD i []) ++ [(ltrN j)]))]), Ty.any] i_ Ty.any) ok19 rfl (by decide) rfl (by decide) (by decide) (by decide) (by decide) (by decide) (by decide) (by decide) (by decide) (by decide) rfl rfl rfl (fun _ _ => trivial) (fun _ _ => trivial) (fun _ _ => trivial) rfl rfl rfl rfl ⟨?_, ?_, ?_, ?_, ?_, ?_, ?_, ?_, ?_, ?_, ?_, ?_, ?_, ?_, ?_, ?_, ?_, ?_, ?_, trivial⟩ ?_
      · refine obR6 (by decide) (by decide) (by decide) (by decide) (by rfl) ?_
        intro A B I J O
        exact rP (y_move (kpL I (by decide) (O 0 rfl) q181))
      · refine obR6e (by decide) (by decide) (by decide) (by decide) (by rfl) ?_
        intro A B I J O
        exact rP (y_move (kpL I (by decide) (O 0 rfl) q181))
      · refine obR6e (by decide) (by decide) (by decide) (by decide) (by rfl) ?_
        intro A B I J O d0
        have e1 : At (Ty.val tv) B A (.tmp 90) := d0 rfl
        exact rP (y_nilp (OwnP.keepL o114 I (by decide) (by decide)) e1)
      · refine obR6e (by decide) (by decide) (by decide) (by decide) (by rfl) ?_
        intro A B I J O d0
        have e2 : At (Ty.val tv) B A (.tmp 91) := d0 rfl
        exact rP (ownp_field Try.fld106_1 Try.inf24 (by decide) (OwnP.keepL o114 I (by decide) (by decide)) e2)
      · refine obR6e (by decide) (by decide) (by decide) (by decide) (by rfl) ?_
        intro A B I J O d0
        have e3 : At (Ty.val (ptrAt tv 1)) B A (.tmp 92) := d0 rfl
        exact rP (ownp_load Try.underlying24 rfl (OwnP.keepL o114 I (by decide) (by decide)) e3 rfl)
      · refine obR6z (by decide) (by decide) rfl ?_
        intro A B I J O
        exact rP (y_lit00 (k := 62) Try.underlying22 Try.inf3)
      · refine obR6e (by decide) (by decide) (by decide) (by decide) (by rfl) ?_
        intro A B I J O
        exact rP (y_move (kpL I (by decide) (O 0 rfl) q181))
      · refine obR6e (by decide) (by decide) (by decide) (by decide) (by rfl) ?_
        intro A B I J O d0
        have e6 : At (Ty.val tv) B A (.tmp 95) := d0 rfl
        exact rP (y_nilp (OwnP.keepL o114 I (by decide) (by decide)) e6)
      · refine obR6e (by decide) (by decide) (by decide) (by decide) (by rfl) ?_
        intro A B I J O d0
        have e7 : At (Ty.val tv) B A (.tmp 96) := d0 rfl
        exact rP (ownp_field Try.fld106_1 Try.inf24 (by decide) (OwnP.keepL o114 I (by decide) (by decide)) e7)
      · refine obR6e (by decide) (by decide) (by decide) (by decide) (by rfl) ?_
        intro A B I J O d0
        have e8 : At (Ty.val (ptrAt tv 1)) B A (.tmp 97) := d0 rfl
        exact rP (ownp_load Try.underlying24 rfl (OwnP.keepL o114 I (by decide) (by decide)) e8 rfl)
      · refine obR6e (by decide) (by decide) (by decide) (by decide) (by rfl) ?_
        intro A B I J O
        exact rP (y_move (kpL I (by decide) (O 9 rfl) q180))
      · refine obR6e (by decide) (by decide) (by decide) (by decide) (by rfl) ?_
        intro A B I J O d0 d1
        have e9 : At (Ty.val wd2) B A (.tmp 98) := d0 rfl
        have e10 : At (Ty.nat i) B A (.tmp 99) := d1 rfl
        exact rP (own_index1 (i := ((i : Nat) : Int)) Try.underlying24 Try.inf22 (Own.keepL o115 I (by decide) (by decide)) e9 e10 (by omega) (by omega))
      · refine obR6e (by decide) (by decide) (by decide) (by decide) (by rfl) ?_
        intro A B I J O d0
        have e11 : At (Ty.val (cellPtr wd2 i)) B A (.tmp 100) := d0 rfl
        exact rP (own_load Try.underlying22 rfl (Own.keepL o115 I (by decide) (by decide)) e11 (lst_get Ty.ints W2 [] i (by omega)))
      · refine obR6q (by decide) rfl ?_
        intro A B I J O hZ d0 d1
        have e12 : At (Ty.lst Ty.int (W2.getD i [])) B A (.tmp 101) := d1 rfl
        exact rP (y_append0 Try.underlying22 Try.inf3 (by decide) rfl hZ e12 (one_map (fun _ => one_val rfl)) (by omega) (by omega))
      · refine obR6e (by decide) (by decide) (by decide) (by decide) (by rfl) ?_
        intro A B I J O
        exact rP (y_move (kpL I (by decide) (O 13 rfl) (kq hs3 sm2 13 (kq hs2 sm1 13 (D14.k q145)))))
      · refine obR6e (by decide) (by decide) (by decide) (by decide) (by rfl) ?_
        intro A B I J O d0
        have e14 : At (Ty.int (ltrN j)) B A (.tmp 103) := d0 rfl
        exact rP (y_build1o Try.underlying22 Try.inf3 rfl (one_val rfl) e14)
      · refine obR6w rfl ?_
        intro A B I J O hA d0 d1 d2
        have e15 : At (Ty.sl 1 1 [(Ty.int (ltrN j))]) B A (.tmp 104) := d1 rfl
        exact YldL.sealR (n' := List.length ((W2.getD i []) ++ [(ltrN j)])) (ts' := (List.map Ty.int ((W2.getD i []) ++ [(ltrN j)]))) (by decide) (by decide) (YldM.toL (m_append Try.underlying22 Try.inf3 (by decide) rfl (by decide) (al (R := (Pr.own 62 3 1 (List.length (W2.getD i [])) (List.map Ty.int (W2.getD i [])))) rfl hA) e15 (by intro U hU; simp at hU; subst hU; exact one_val rfl) (by omega) (by omega))) (by first | (simp; done) | (simp; omega)) (by first | (rw [List.map_append]; rfl) | simp)
      · refine obR6e (by decide) (by decide) (by decide) (by decide) (by rfl) ?_
        intro A B I J O d0
        have e16 : At (Ty.lst Ty.int ((W2.getD i []) ++ [(ltrN j)])) B A (.tmp 105) := d0 rfl
        exact rP (y_build1o Try.underlying24 Try.inf22 rfl (one_sl) e16)
      · refine obR6r (by decide) (by decide) (by decide) rfl ?_
        intro A B I J O d0 d1 d2
        have e4 : At (Ty.val wd2) B A (.tmp 93) := d0 rfl
        have e17 : At (Ty.sl 1 1 [(Ty.lst Ty.int ((W2.getD i []) ++ [(ltrN j)]))]) B A (.tmp 106) := d1 rfl
        exact YldM.toL (m_append Try.underlying24 Try.inf22 (by decide) rfl (by decide) (al (R := (Pr.own 43 22 1 (List.length W2) (List.map Ty.ints W2))) e4 (Own.keepL o115 I (by decide) (by decide))) e17 (by intro U hU; simp at hU; subst hU; exact one_sl) (by omega) (by omega))
      intro a23 s18 D15; have ok20 := D15.ok; have F21 := F20.stepL D15.stp (by decide)
      have q186 : At (Ty.nat j) s18 a23 (.tmp 39) := D15.kt (by decide) (kq hs3 sm2 39 (kq hs2 sm1 39 (D14.k q146))) rfl
      have q187 : At (Ty.val x10_0) s18 a23 (.tmp 10) := D15.kt (by decide) (kq hs3 sm2 10 (kq hs2 sm1 10 (D14.k q147))) rfl
      have q188 : At (Ty.nat i) s18 a23 (.tmp 9) := D15.kt (by decide) q180 rfl
      have q189 : At (Ty.val tv) s18 a23 (.tmp 0) := D15.kt (by decide) q181 rfl
      have q190 : At (Ty.lst Ty.ints G) s18 a23 (.tmp 2) := D15.kt (by decide) (kq hs3 sm2 2 (kq hs2 sm1 2 (D14.k q151))) rfl
      have q191 : At (Ty.nat (2 * (List.length G))) s18 a23 (.tmp 38) := D15.kt (by decide) (kq hs3 sm2 38 (kq hs2 sm1 38 (D14.k q152))) rfl
      have q192 : At (Ty.nat (List.length R2)) s18 a23 (.tmp 16) := D15.kt (by decide) (kq hs3 sm2 16 (kq hs2 sm1 16 (D14.k q154))) rfl
      have q193 : At (Ty.val x1) s18 a23 (.tmp 8) := D15.kt (by decide) q185 rfl
      have o121 := Own.keepL (Own.kl (Own.kl o101 hs2) hs3) D15.stp (by decide) (by decide); have o122 := OwnP.keepL o114 D15.stp (by decide) (by decide); have o123 := Own.keepL (Own.kl (Own.kl o105 hs2) hs3) D15.stp (by decide) (by decide); have o124 := OwnM.keepL (OwnM.kl (OwnM.kl o106 hs2) hs3) D15.stp (by decide) (by decide); have o125 := Own.keepL (Own.kl o107 hs3) D15.stp (by decide) (by decide)
      have q194 : At (Ty.val tv) s18 a23 (.tmp 89) := D15.done 0 (by decide)
      obtain ⟨x3, hx3⟩ : ∃ x, a23.eval (.tmp 107) = x := ⟨_, rfl⟩
      have q195 : At (Ty.val x3) s18 a23 (.tmp 107) := hx3
      have o120 := al2 (R := (Pr.own 43 22 1 (List.length (W2 ++ [((W2.getD i []) ++ [(ltrN j)])])) (List.map Ty.ints (W2 ++ [((W2.getD i []) ++ [(ltrN j)])])))) hx3 (cvo (by simp) (by first | (rw [List.map_append]; rfl) | simp) D15.donep)
      refine tL (R := (fun v τ => Pr.has (Ty.pr (Ty.val tv)) τ v)) ok20 (Yld.toL (y_nilp o122 q194)) fun a24 s19 hs4 ok21 r4 sm3 => ?_
      have F22 := F21.sl hs4; have o127 := OwnP.kl o122 hs4
      have q205 : At (Ty.val tv) s19 a24 (.tmp 108) := r4
      clear r4
      refine tL (R := (fun v τ => Pr.has (Ty.pr (Ty.val (ptrAt tv 1))) τ v)) ok21 (Yld.toL (ownp_field Try.fld106_1 Try.inf24 (by decide) o127 q205)) fun a25 s20 hs5 ok22 r5 sm4 => ?_
      have F23 := F22.sl hs5
      have o137 := Own.kl (Own.kl o120 hs4) hs5
      have q215 : At (Ty.val (ptrAt tv 1)) s20 a25 (.tmp 109) := r5
      clear r5
      refine tailL0 (L := [41]) (R := (fun _ τ => OwnP τ 41 tv ([(Ty.val nx), (Ty.val wd2), (Ty.lst Ty.ints H), (Ty.val mv)].set 1 (Ty.val x3)))) rfl rfl (YldM.toL (m_storep Try.inf24 (by decide) (OwnP.kl o127 hs5) q215 (Nat.le_of_ble_eq_true rfl) (kq hs5 sm4 107 (kq hs4 sm3 107 q195)) (one_val (Own.one o137)))) (fun v2 s21 hs6 r6 => ?_)
      have F24 := F23.sl hs6; have q216 := kpL hs6 (by decide) rfl (kq hs5 sm4 39 (kq hs4 sm3 39 q186)); have q217 := kpL hs6 (by decide) rfl (kq hs5 sm4 10 (kq hs4 sm3 10 q187)); have q218 := kpL hs6 (by decide) rfl (kq hs5 sm4 9 (kq hs4 sm3 9 q188)); have q219 := kpL hs6 (by decide) rfl (kq hs5 sm4 0 (kq hs4 sm3 0 q189)); have q220 := kpL hs6 (by decide) rfl (kq hs5 sm4 2 (kq hs4 sm3 2 q190)); have q221 := kpL hs6 (by decide) rfl (kq hs5 sm4 38 (kq hs4 sm3 38 q191)); have q222 := kpL hs6 (by decide) rfl (kq hs5 sm4 16 (kq hs4 sm3 16 q192)); have q223 := kpL hs6 (by decide) rfl (kq hs5 sm4 8 (kq hs4 sm3 8 q193))
      have o138 : OwnP s21 41 tv [(Ty.val nx), (Ty.val x3), (Ty.lst Ty.ints H), (Ty.val mv)] := r6
      clear r6; refine wpList_nil (tn ?_)
      refine gI a25 s21 ok22 (gM q217 (gM q222 (gT (Ty.sl 1 1 [(Ty.nat (List.length R2))]) rfl (fun A B I J O d0 => rP (y_build1o Try.underlying22 Try.inf3 rfl (one_val rfl) (ef d0 rfl))) (gE2 ok22 fun a26 s22 ok23 D16 => ?_)))); have o144 := Own.k0 (Own.kl (Own.kl (Own.kl o121 hs4) hs5) hs6) D16.stp; have o145 := Own.k0 (Own.kl (Own.kl (Own.kl o123 hs4) hs5) hs6) D16.stp; have o146 := OwnM.k0 (OwnM.kl (OwnM.kl (OwnM.kl o124 hs4) hs5) hs6) D16.stp; have o147 := Own.k0 (Own.kl (Own.kl (Own.kl o125 hs4) hs5) hs6) D16.stp; have o148 := Own.k0 (Own.kl o137 hs6) D16.stp; have o149 := OwnP.k0 o138 D16.stp
      have q232 : At (Ty.val x10_0) s22 a26 (.tmp 110) := D16.done 0 (by decide)
      have q233 := D16.m 2 rfl
      have b3 := sl_le q233
      refine tL ok23 (YldM.toL (m_append Try.underlying22 Try.inf3 (by decide) rfl (by decide) (al (R := (Pr.own 21 3 1 (List.length l2) (List.map Ty.int l2))) q232 o144) q233 (by intro U hU; simp at hU; subst hU; exact one_val rfl) (by omega) (by omega))) fun a27 s23 hs7 ok24 r7 sm5 => ?_
      have F26 := (F24.step0 D16.stp).sl hs7; have q235 := kq hs7 sm5 10 (D16.k q217)
      obtain ⟨x4, hx4⟩ : ∃ x, a27.eval (.tmp 113) = x := ⟨_, rfl⟩
      have q241 : At (Ty.val x4) s23 a27 (.tmp 113) := hx4
      have o150 := al2 (R := (Pr.own 21 3 1 (List.length (l2 ++ [(((List.length R2) : Nat) : Int)])) (List.map Ty.int (l2 ++ [(((List.length R2) : Nat) : Int)])))) hx4 (cvo (by simp) (by first | (rw [List.map_append]; rfl) | simp) r7)
      clear r7
      refine tL ok24 (Yld.toL (y_as q241)) fun a28 s24 hs8 ok25 r8 sm6 => ?_
      have F27 := F26.sl hs8
      have q248 : At (Ty.val x4) s24 a28 (.tmp 10) := r8
      clear r8; refine wpList_nil (bn (tn ?_))
      refine gI a28 s24 ok25 (gT (Ty.nat (j + 1)) rfl (fun A B I J O => rP ((y_add (kp (O 39 rfl) I (kq hs8 sm6 39 (kq hs7 sm5 39 (D16.k q216)))) rfl (w64 (by omega) (by omega))).mono (fun τ _ h => cvi (σ := τ) (by first | omega | exact (Int.natCast_mul _ _).symm) h))) (gS rfl (fun A B I J O d0 => rP (y_move (ef d0 rfl))) (gE ok25 fun a29 s25 ok26 D17 => ?_))); have o162 := Own.k0 (Own.kl (Own.kl o145 hs7) hs8) D17.stp; have o163 := OwnM.k0 (OwnM.kl (OwnM.kl o146 hs7) hs8) D17.stp; have o164 := Own.k0 (Own.kl (Own.kl o147 hs7) hs8) D17.stp; have o165 := Own.k0 (Own.kl (Own.kl o148 hs7) hs8) D17.stp; have o166 := OwnP.k0 (OwnP.kl (OwnP.kl o149 hs7) hs8) D17.stp; have o167 := Own.k0 (Own.kl o150 hs8) D17.stp
      exact tn ⟨2 * G.length - ((j+1)), by omega, s25, (j+1), (fun p => if p = nmP H (byL (R2.getD i []) (ltr G j)) then some ((R2.length : Nat) : Int) else f2 p), (R2 ++ [(byL (R2.getD i []) (ltr G j))]), (W2 ++ [(W2.getD i [] ++ [ltrN j])]), (l2 ++ [((R2.length : Nat) : Int)]), x4, x1, x3, rfl, (F27.step0 D17.stp), ok26, (cvi (by (first | rfl | omega | (simp_all; done) | (simp_all; omega))) (D17.m 1 rfl)), (D17.k q248), (D17.k (kq hs8 sm6 8 (kq hs7 sm5 8 (D16.k q223)))), (D17.k (kq hs8 sm6 9 (kq hs7 sm5 9 (D16.k q218)))), (D17.k (kq hs8 sm6 0 (kq hs7 sm5 0 (D16.k q219)))), (D17.k (kq hs8 sm6 2 (kq hs7 sm5 2 (D16.k q220)))), (D17.k (kq hs8 sm6 38 (kq hs7 sm5 38 (D16.k q221)))), (cvo (by (first | rfl | simp)) (by (first | rfl | simp)) o167), (cvo (by (first | rfl | simp)) (by (first | rfl | simp)) o164), o166, (cvo (by (first | rfl | simp)) (by (first | rfl | simp)) o165), (cvm (by (rfl)) o163), o162, by omega, hT.new hfn, hf2.new hP hrj hfn hR2, hwb2.new (by omega), rfl⟩
     ·
      obtain ⟨kk, hfn, hk2, hkl⟩ := pmap_some hf2 hrj (by simpa using c3)
      refine wp_skip (tn ?_)
      refine gI a17 s11 ok14 (gM q111 (gM (D11.k (D10.m 9 rfl)) (gT (Ty.sl 1 1 [(Ty.int ((f2 (nmP H ((byL ((R2.getD i [])) ((ltr G j)))))).getD 0))]) rfl (fun A B I J O d0 => rP (y_build1o Try.underlying22 Try.inf3 rfl (one_val rfl) (ef d0 rfl))) (gE2 ok14 fun a30 s26 ok27 D18 => ?_)))); have o168 := Own.k0 o77 D18.stp; have o169 := Own.k0 o78 D18.stp; have o170 := OwnP.k0 o79 D18.stp; have o171 := Own.k0 o80 D18.stp; have o172 := OwnM.k0 o81 D18.stp; have o173 := Own.k0 o82 D18.stp
      have q263 : At (Ty.val x10_0) s26 a30 (.tmp 110) := D18.done 0 (by decide)
      have q264 := D18.m 2 rfl
      have b4 := sl_le q264
      refine tL ok27 (YldM.toL (m_append Try.underlying22 Try.inf3 (by decide) rfl (by decide) (al (R := (Pr.own 21 3 1 (List.length l2) (List.map Ty.int l2))) q263 o168) q264 (by intro U hU; simp at hU; subst hU; exact one_val rfl) (by omega) (by omega))) fun a31 s27 hs9 ok28 r9 sm7 => ?_
      have F30 := (F14.step0 D18.stp).sl hs9; have q266 := kq hs9 sm7 10 (D18.k q111)
      obtain ⟨x5, hx5⟩ : ∃ x, a31.eval (.tmp 113) = x := ⟨_, rfl⟩
      have q272 : At (Ty.val x5) s27 a31 (.tmp 113) := hx5
      have o174 := al2 (R := (Pr.own 21 3 1 (List.length (l2 ++ [((f2 (nmP H ((byL ((R2.getD i [])) ((ltr G j)))))).getD 0)])) (List.map Ty.int (l2 ++ [((f2 (nmP H ((byL ((R2.getD i [])) ((ltr G j)))))).getD 0)])))) hx5 (cvo (by simp) (by first | (rw [List.map_append]; rfl) | simp) r9)
      clear r9
      refine tL ok28 (Yld.toL (y_as q272)) fun a32 s28 hs10 ok29 r10 sm8 => ?_
      have F31 := F30.sl hs10
      have q279 : At (Ty.val x5) s28 a32 (.tmp 10) := r10
      clear r10; refine wpList_nil (bn (tn ?_))
      refine gI a32 s28 ok29 (gT (Ty.nat (j + 1)) rfl (fun A B I J O => rP ((y_add (kp (O 39 rfl) I (kq hs10 sm8 39 (kq hs9 sm7 39 (D18.k q110)))) rfl (w64 (by omega) (by omega))).mono (fun τ _ h => cvi (σ := τ) (by first | omega | exact (Int.natCast_mul _ _).symm) h))) (gS rfl (fun A B I J O d0 => rP (y_move (ef d0 rfl))) (gE ok29 fun a33 s29 ok30 D19 => ?_))); have o186 := Own.k0 (Own.kl (Own.kl o169 hs9) hs10) D19.stp; have o187 := OwnP.k0 (OwnP.kl (OwnP.kl o170 hs9) hs10) D19.stp; have o188 := Own.k0 (Own.kl (Own.kl o171 hs9) hs10) D19.stp; have o189 := OwnM.k0 (OwnM.kl (OwnM.kl o172 hs9) hs10) D19.stp; have o190 := Own.k0 (Own.kl (Own.kl o173 hs9) hs10) D19.stp; have o191 := Own.k0 (Own.kl o174 hs10) D19.stp
      exact tn ⟨2 * G.length - ((j+1)), by omega, s29, (j+1), f2, R2, W2, (l2 ++ [(kk : Int)]), x5, x8_0, wd2, rfl, (F31.step0 D19.stp), ok30, (cvi (by (first | rfl | omega | (simp_all; done) | (simp_all; omega))) (D19.m 1 rfl)), (D19.k q279), (D19.k (kq hs10 sm8 8 (kq hs9 sm7 8 (D18.k q112)))), (D19.k (kq hs10 sm8 9 (kq hs9 sm7 9 (D18.k q113)))), (D19.k (kq hs10 sm8 0 (kq hs9 sm7 0 (D18.k q114)))), (D19.k (kq hs10 sm8 2 (kq hs9 sm7 2 (D18.k q115)))), (D19.k (kq hs10 sm8 38 (kq hs9 sm7 38 (D18.k q116)))), (cvo (by (first | (rw [hk2]; done) | (simp; done) | (rw [hk2]; simp))) (by (first | (rw [hk2]; done) | (simp; done) | (rw [hk2]; simp))) o191), o186, o187, o188, o189, o190, by omega, hT.old hfn, hf2, hwb2, rfl⟩
   ·
    have ej : j = 2 * G.length := (by omega); have hS2 := hS.next hi (ej ▸ hT)
    refine wp_exit (tx (tx (bx (tn (wp_seq ?_)))))
    obtain ⟨t7, e1, h1, q287⟩ := Own.seal o23 (by decide)
    rw [← e1]
    have F33 := F5.step h1 (by decide); have o192 := Own.keepL o24 (h1.toL (L := [21]) (by simp)) (by decide) (by decide); have o193 := OwnP.keepL o25 (h1.toL (L := [21]) (by simp)) (by decide) (by decide); have o194 := Own.keepL o26 (h1.toL (L := [21]) (by simp)) (by decide) (by decide); have o195 := OwnM.keepL o27 (h1.toL (L := [21]) (by simp)) (by decide) (by decide); have o196 := Own.keepL o28 (h1.toL (L := [21]) (by simp)) (by decide) (by decide); have q288 := Ty.up (Ty.nat j) (h1.le (by decide)) q24
    have q289 : At (Ty.lst Ty.int l2) t7 a7 (.tmp 10) := by have e : a7.eval (.tmp 10) = x10_0 := q25; show Ty.has _ _ _; rw [e]; exact q287
    have q290 := Ty.up (Ty.val x8_0) (h1.le (by decide)) q26; have q291 := Ty.up (Ty.nat i) (h1.le (by decide)) q27; have q292 := Ty.up (Ty.val tv) (h1.le (by decide)) q28; have q293 := Ty.up (Ty.lst Ty.ints G) (h1.le (by decide)) q29; have q294 := Ty.up (Ty.nat (2 * (List.length G))) (h1.le (by decide)) q30; have q295 := Ty.up (Ty.bool (decide (((j : Nat) : Int) < (((2 * (List.length G)) : Nat) : Int)))) (h1.le (by decide)) q31
    refine gI a7 t7 ok5 (gM q292 (gM q292 (gT (Ty.val tv) rfl (fun A B I J O d0 => rP (y_nilp (OwnP.k0 o193 I) (ef d0 rfl))) (gT (Ty.val (ptrAt tv 0)) rfl (fun A B I J O d0 => rP (ownp_field Try.fld106_0 Try.inf24 (by decide) (OwnP.k0 o193 I) (ef d0 rfl))) (gS rfl (fun A B I J O d0 => rP (ownp_load Try.underlying24 rfl (OwnP.k0 o193 I) (ef d0 rfl) rfl)) (gM q289 (gT (Ty.sl 1 1 [(Ty.lst Ty.int l2)]) rfl (fun A B I J O d0 => rP (y_build1o Try.underlying24 Try.inf22 rfl (one_sl) (ef d0 rfl))) (gE2 ok5 fun a34 s30 ok31 D20 => ?_)))))))); have o197 := Own.k0 o192 D20.stp; have o198 := OwnP.k0 o193 D20.stp; have o199 := Own.k0 o194 D20.stp; have o200 := OwnM.k0 o195 D20.stp; have o201 := Own.k0 o196 D20.stp; have q302 := D20.m 6 rfl
    have b5 := sl_le q302
    refine tL ok31 (YldM.toL (m_append Try.underlying24 Try.inf22 (by decide) rfl (by decide) (al (R := (Pr.own 42 22 1 (List.length N) (List.map Ty.ints N))) (D20.m 4 rfl) o201) q302 (by intro U hU; simp at hU; subst hU; exact one_sl) (by omega) (by omega))) fun a35 s31 hs11 ok32 r11 sm9 => ?_
    have F35 := (F33.step0 D20.stp).sl hs11; have o204 := OwnP.kl o198 hs11
    obtain ⟨x6, hx6⟩ : ∃ x, a35.eval (.tmp 122) = x := ⟨_, rfl⟩
    have q308 : At (Ty.val x6) s31 a35 (.tmp 122) := hx6
    have o202 := al2 (R := (Pr.own 42 22 1 (List.length (N ++ [l2])) (List.map Ty.ints (N ++ [l2])))) hx6 (cvo (by simp) (by first | (rw [List.map_append]; rfl) | simp) r11)
    clear r11
    refine tL (R := (fun v τ => Pr.has (Ty.pr (Ty.val tv)) τ v)) ok32 (Yld.toL (y_nilp o204 (kq hs11 sm9 115 (D20.m 0 rfl)))) fun a36 s32 hs12 ok33 r12 sm10 => ?_
    have F36 := F35.sl hs12; have o208 := OwnP.kl o204 hs12
    have q314 : At (Ty.val tv) s32 a36 (.tmp 123) := r12
    clear r12
    refine tL (R := (fun v τ => Pr.has (Ty.pr (Ty.val (ptrAt tv 0))) τ v)) ok33 (Yld.toL (ownp_field Try.fld106_0 Try.inf24 (by decide) o208 q314)) fun a37 s33 hs13 ok34 r13 sm11 => ?_
    have F37 := F36.sl hs13; have o216 := Own.kl (Own.kl o202 hs12) hs13
    have q320 : At (Ty.val (ptrAt tv 0)) s33 a37 (.tmp 124) := r13
    clear r13
    refine tailL0 (L := [41]) (R := (fun _ τ => OwnP τ 41 tv ([(Ty.val nx), (Ty.val wd2), (Ty.lst Ty.ints H), (Ty.val mv)].set 0 (Ty.val x6)))) rfl rfl (YldM.toL (m_storep Try.inf24 (by decide) (OwnP.kl o208 hs13) q320 (Nat.le_of_ble_eq_true rfl) (kq hs13 sm11 122 (kq hs12 sm10 122 q308)) (one_val (Own.one o216)))) (fun v3 s34 hs14 r14 => ?_)
    have F38 := F37.sl hs14; have q321 := kpL hs14 (by decide) rfl (kq hs13 sm11 8 (kq hs12 sm10 8 (kq hs11 sm9 8 (D20.k q290)))); have q322 := kpL hs14 (by decide) rfl (kq hs13 sm11 9 (kq hs12 sm10 9 (kq hs11 sm9 9 (D20.k q291)))); have q323 := kpL hs14 (by decide) rfl (kq hs13 sm11 0 (kq hs12 sm10 0 (kq hs11 sm9 0 (D20.k q292)))); have q324 := kpL hs14 (by decide) rfl (kq hs13 sm11 2 (kq hs12 sm10 2 (kq hs11 sm9 2 (D20.k q293))))
    have o217 : OwnP s34 41 tv [(Ty.val x6), (Ty.val wd2), (Ty.lst Ty.ints H), (Ty.val mv)] := r14
    clear r14; refine wpList_nil (tn (wp_seq ?_))
    refine gI a37 s34 ok34 (gM q322 (gT (Ty.nat (i + 1)) rfl (fun A B I J O d0 => rP ((y_add (ef d0 rfl) rfl (w64 (by omega) (by omega))).mono (fun τ _ h => cvi (σ := τ) (by first | omega | exact (Int.natCast_mul _ _).symm) h))) (gB 0 (gE ok34 fun a38 s35 ok35 D21 => ?_)))); have q326 := D21.k q321; have o222 := Own.k0 (Own.kl (Own.kl (Own.kl (Own.kl o197 hs11) hs12) hs13) hs14) D21.stp; have o223 := Own.k0 (Own.kl (Own.kl (Own.kl (Own.kl o199 hs11) hs12) hs13) hs14) D21.stp; have o224 := OwnM.k0 (OwnM.kl (OwnM.kl (OwnM.kl (OwnM.kl o200 hs11) hs12) hs13) hs14) D21.stp; have o225 := Own.k0 (Own.kl o216 hs14) D21.stp; have o226 := OwnP.k0 o217 D21.stp; have q329 := D21.m 2 rfl; refine tn (wp_seq ?_)
    refine gI a38 s35 ok35 (gM q329 (gM q326 (gT (Ty.nat (List.length R2)) rfl (fun A B I J O d0 => rP (own_len Try.underlying24 (al (R := (Pr.own 20 22 1 (List.length R2) (List.map Ty.ints R2))) (ef d0 rfl) (Own.k0 o222 I)))) (gS rfl (fun A B I J O d0 d1 => rP (y_lss (ef d0 rfl) (ef d1 rfl))) (gE ok35 fun a39 s36 ok36 D22 => ?_))))); have F40 := (F38.step0 D21.stp).step0 D22.stp; have o227 := Own.k0 o222 D22.stp; have o228 := Own.k0 o223 D22.stp; have o229 := OwnM.k0 o224 D22.stp; have o230 := Own.k0 o225 D22.stp; have o231 := OwnP.k0 o226 D22.stp; refine tn ?_
    refine cond_p (p := ((((i + 1) : Nat) : Int) < (((List.length R2) : Nat) : Int))) (D22.m 3 rfl) (fun c4 => ?_) (fun c4 => ?_)
    ·
     refine wp_goto ?_
     exact jg ⟨1001 - ((i + 1)), by omega, s36, (i + 1), f2, R2, W2, (N ++ [l2]), x8_0, x6, wd2, rfl, F40, ok36, (cvi (by (first | rfl | omega | (simp_all; done) | (simp_all; omega))) (D22.k q329)), (D22.k q326), (D22.k (D21.k q323)), (D22.k (D21.k q324)), (cvo (by (first | rfl | simp)) (by (first | rfl | simp)) o227), o231, (cvo (by (first | rfl | simp)) (by (first | rfl | simp)) o230), (cvo (by (simp)) (by (simp)) o228), (cvm (by (rfl)) o229), hS2, by omega, hf2, hwb2, rfl⟩
    ·
     have hTT : R2.length = i + 1 := (by omega)
     refine wp_skip ?_
     refine jn ?_
     exact nL0 rfl ok36 F40 ⟨(i + 1), f2, R2, W2, (N ++ [l2]), x6, wd2, trivial, o231, (cvo (by (simp)) (by (simp)) o230), (cvo (by (simp)) (by (simp)) o228), (cvm (by (rfl)) o229), (by exact hS2), (by exact hTT), (by exact hf2)⟩
 ·
  intro hp1; refine wp_seq ?_
  refine gI a0 σ ok0 (gM p1 (gS rfl (fun A B I J O d0 => rP (y_call _ Try.func74 rfl rfl my1 (rounds_fn (n) _ _ (ef d0 rfl) (by omega)))) (gS rfl (fun A B I J O d0 => rP (y_move (ef d0 rfl))) (gT (Ty.lst Ty.int (roundsL n)) rfl (fun A B I J O d0 => rP (y_ext2_0 (ef d0 rfl))) (gT (Ty.int (0 : Int)) rfl (fun A B I J O d0 d1 => rP (y_ext2_1 (ef d0 rfl))) (gB 0 (gB 0 (gE ok0 fun a40 s37 ok37 D23 => ?_)))))))); have o232 := OwnP.k0 ho_tv D23.stp; have o233 := OwnM.k0 ho_mv D23.stp; have q337 := D23.m 5 rfl; refine tn (wp_seq ?_)
  refine gI a40 s37 ok37 (gM q337 (gR (Pr.own 20 22 1 1 (List.map Ty.ints [(roundsL n)])) rfl (by intro A B I J O d0; exact rP ((y_lit1 (k := 20) Try.underlying24 Try.inf22 rfl (one_sl) (ef d0 rfl)).mono (fun _ _ h => cvo (by simp) (by first | (simp; done) | rfl) h))) (gE2 ok37 fun a41 s38 ok38 D24 => ?_))); have o234 := OwnP.k0 o232 D24.stp; have o235 := OwnM.k0 o233 D24.stp
  obtain ⟨x7, hx7⟩ : ∃ x, a41.eval (.tmp 24) = x := ⟨_, rfl⟩
  have q341 : At (Ty.val x7) s38 a41 (.tmp 24) := hx7
  have o236 := al2 (R := (Pr.own 20 22 1 1 (List.map Ty.ints [(roundsL n)]))) hx7 (D24.done 1 (by decide))
  refine tL ok38 (Yld.toL (y_as q341)) fun a42 s39 hs15 ok39 r15 sm12 => ?_
  have F43 := ((F0.step0 D23.stp).step0 D24.stp).sl hs15; have q342 := kq hs15 sm12 0 (D24.k (D23.k p0)); have o237 := OwnP.kl o234 hs15
  have q345 : At (Ty.val x7) s39 a42 (.tmp 8) := r15
  clear r15; refine wpList_nil (tn (wp_seq ?_))
  refine gI a42 s39 ok39 (gM q342 (gT (Ty.val tv) rfl (fun A B I J O d0 => rP (y_nilp (OwnP.k0 o237 I) (ef d0 rfl))) (gT (Ty.val (ptrAt tv 3)) rfl (fun A B I J O d0 => rP (ownp_field Try.fld106_3 Try.inf100 (by decide) (OwnP.k0 o237 I) (ef d0 rfl))) (gS rfl (fun A B I J O d0 => rP (ownp_load Try.underlying100 rfl (OwnP.k0 o237 I) (ef d0 rfl) rfl)) (gM q342 (gM (kq hs15 sm12 6 (D24.k q337)) (gT (Ty.int (nmP H ((roundsL n)))) rfl (fun A B I J O d0 d1 => rP (y_callp (R := (Ty.int (nmP H ((roundsL n))))) #[A.eval (.tmp 29), A.eval (.tmp 30)] int_any (OwnP.seal (OwnP.k0 o237 I) (by decide)) (by decide) (ef d0 rfl) Try.func73 rfl rfl (by simp only [List.map_toArray, List.map_cons, List.map_nil]) (fun s_ hle_ hs_ => cName_fn ((Value.slice none 0 0)) ((Value.slice none 0 0)) (mv) (H) (n) ((roundsL n)) s_ _ _ hs_ (Ty.up (Ty.lst Ty.int (roundsL n)) hle_ (ef d1 rfl)) (by first | omega | assumption) (by first | omega | assumption) (by first | omega | assumption)))) (gE2 ok39 fun a43 s40 ok40 D25 => ?_)))))))); have o240 := OwnP.k0 o237 D25.stp; have o241 := OwnM.k0 (OwnM.kl o235 hs15) D25.stp; have o242 := Own.k0 (Own.kl o236 hs15) D25.stp
  refine tailL0 (L := [44]) (R := (fun _ τ => OwnM Ty.int kI τ 44 mv (fun x_ => if x_ = (nmP H ((roundsL n))) then some (0 : Int) else (fun _ => none) x_))) rfl rfl (YldM.toL (m_mapset (i := (nmP H ((roundsL n)))) Try.underlying100 (keyInt Try.underlying3) (by decide) o241 (D25.m 3 rfl) (D25.m 6 rfl) rfl)) (fun v4 s41 hs16 r16 => ?_)
  have F45 := (F43.step0 D25.stp).sl hs16; have q351 := kpL hs16 (by decide) rfl (D25.k q342); have q352 := kpL hs16 (by decide) rfl (D25.k (kq hs15 sm12 2 (D24.k (D23.k p2)))); have q353 := kpL hs16 (by decide) rfl (D25.k q345); have o244 := OwnP.kl o240 hs16
  have o243 : OwnM Ty.int kI s41 44 mv (fun x_ => if x_ = (nmP H ((roundsL n))) then some (0 : Int) else (fun _ => none) x_) := r16
  clear r16; refine wpList_nil (tn (wp_seq ?_))
  refine gI a43 s41 ok40 (gM q351 (gR (Pr.own 43 22 1 1 (List.map Ty.ints [([] : List Int)])) rfl (by intro A B I J O; exact rP ((y_lit1 (k := 43) Try.underlying24 Try.inf22 rfl (one_sl) (nil_lst (f := Ty.int) (xs := ([] : List Int)) rfl (show Ty.has (Ty.val (Value.slice none 0 0)) B (A.eval ((Operand.const (Value.slice none 0 0)))) from rfl))).mono (fun _ _ h => cvo (by simp) (by first | (simp; done) | rfl) h))) (gT (Ty.val tv) rfl (fun A B I J O d0 d1 d2 => rP (y_nilp (OwnP.k0 o244 I) (ef d0 rfl))) (gT (Ty.val (ptrAt tv 1)) rfl (fun A B I J O d0 d1 d2 => rP (ownp_field Try.fld106_1 Try.inf24 (by decide) (OwnP.k0 o244 I) (ef d0 rfl))) (gE2 ok40 fun a44 s42 ok41 D26 => ?_))))); have o246 := OwnP.k0 o244 D26.stp; have o247 := Own.k0 (Own.kl o242 hs16) D26.stp; have o248 := OwnM.k0 o243 D26.stp
  obtain ⟨x8, hx8⟩ : ∃ x, a44.eval (.tmp 33) = x := ⟨_, rfl⟩
  have q358 : At (Ty.val x8) s42 a44 (.tmp 33) := hx8
  have o249 := al2 (R := (Pr.own 43 22 1 1 (List.map Ty.ints [([] : List Int)]))) hx8 (D26.done 1 (by decide))
  refine tailL0 (L := [41]) (R := (fun _ τ => OwnP τ 41 tv ([(Ty.val (Value.slice none 0 0)), (Ty.val (Value.slice none 0 0)), (Ty.lst Ty.ints H), (Ty.val mv)].set 1 (Ty.val x8)))) rfl rfl (YldM.toL (m_storep Try.inf24 (by decide) o246 (D26.m 3 rfl) (Nat.le_of_ble_eq_true rfl) q358 (one_val (Own.one o249)))) (fun v5 s43 hs17 r17 => ?_)
  have F47 := (F45.step0 D26.stp).sl hs17; have q360 := kpL hs17 (by decide) rfl (D26.k q351); have q361 := kpL hs17 (by decide) rfl (D26.k q352); have q362 := kpL hs17 (by decide) rfl (D26.k q353)
  have o250 : OwnP s43 41 tv [(Ty.val (Value.slice none 0 0)), (Ty.val x8), (Ty.lst Ty.ints H), (Ty.val mv)] := r17
  clear r17; refine wpList_nil (tn (wp_seq ?_))
  refine gI a44 s43 ok41 (gC (Ty.int (0 : Int)) (gE ok41 fun a45 s44 ok42 D27 => ?_)); have o254 := Own.k0 (Own.kl o247 hs17) D27.stp; have o255 := OwnM.k0 (OwnM.kl o248 hs17) D27.stp; have o256 := Own.k0 (Own.kl o249 hs17) D27.stp; have o257 := OwnP.k0 o250 D27.stp; refine tn (wp_seq (wp_label (tn ?_)))
  have o258 : Own s44 42 22 1 (Value.slice none 0 0) 0 (List.map Ty.ints ([] : List (List Int))) := Own.nil _ _ _ _
  exact hp1 _ _ _ ⟨s44, 0, (fun p => if p = nmP H (roundsL n) then some (0 : Int) else none), [roundsL n], [[]], ([] : List (List Int)), x7, (Value.slice none 0 0), x8, rfl, (F47.step0 D27.stp), ok42, (cvi (by (first | rfl | omega | (simp_all; done) | (simp_all; omega))) (D27.m 0 rfl)), (D27.k q362), (D27.k q360), (D27.k q361), (cvo (by (first | rfl | simp)) (by (first | rfl | simp)) o254), o257, (cvo (by (first | rfl | simp)) (by (first | rfl | simp)) o258), (cvo (by (first | rfl | simp)) (by (first | rfl | simp)) o256), (cvm (by (rfl)) o255), PrS.start, by simp, PMap.start hP, wordsB_start, rfl⟩

theorem Try.inf106 : Info Try.prog 106 (.agg #[.slice none 0 0, .slice none 0 0, .slice none 0 0, .map none]) 4 80 := by unfold Info; kernel_rfl
set_option maxHeartbeats 4000000 in
set_option maxRecDepth 100000 in
theorem cMake_fn (n : Nat) (G : List (List Int)) (S : List (List Int)) (σ : GW) (hlow : Low [] σ) (v0 v1 v2 : Value) (hv0 : Ty.has (Ty.nat n) σ v0) (hv1 : Ty.has (Ty.lst Ty.ints G) σ v1) (hv2 : Ty.has (Ty.lst Ty.ints S) σ v2)  (hn : 1 ≤ n ∧ n ≤ 12) (hG : ∀ x ∈ G, RowN n x) (hGl : G.length ≤ 8) (hS : ∀ x ∈ S, RowN n x) (hSl : S.length ≤ 8) (hsub : ∀ x ∈ S, Cl n (fun y => y ∈ G) x) (hl1 : szTo n (fun y => y ∈ S) n ≤ 1000) (hl2 : szTo n (fun y => y ∈ G) n / szTo n (fun y => y ∈ S) n ≤ 1000) :
    FnL Try.prog 33 #[v0, v1, v2] σ [] (fun v τ => ∃ (H : (List (List Int))), ∃ (F : (List (List Int))), ∃ (T : Nat), ∃ (f : (Int → Option Int)), ∃ (R : (List (List Int))), ∃ (W : (List (List Int))), ∃ (NX : (List (List Int))), ∃ (tv : Value), ∃ (nx : Value), ∃ (wd : Value), ∃ (mv : Value), (Ty.has (Ty.tup2 (Ty.val tv) (Ty.int (0 : Int))) τ v) ∧ (OwnP τ 41 tv [(Ty.val nx), (Ty.val wd), (Ty.lst Ty.ints H), (Ty.val mv)]) ∧ (Own τ 42 22 1 nx (List.length NX) (List.map Ty.ints NX)) ∧ (Own τ 43 22 1 wd (List.length W) (List.map Ty.ints W)) ∧ (OwnM Ty.int kI τ 44 mv f) ∧ (EltsOk n S H) ∧ (EltsOk n G F) ∧ (F.length < 1001 * H.length) ∧ (PrS n G H T R W NX) ∧ (R.length = T) ∧ (PMap n H R f)) := by
 have hsb := fun S_ => szTo_bd (n := n) (S := S_) (k := n) hn.2
 have hsG := hsb (fun y => y ∈ G)
 have hsS := hsb (fun y => y ∈ S)
 have hpS : 0 < szTo n (fun y => y ∈ S) n := szTo_pos hn n (Nat.le_refl _)
 have hdv : szTo n (fun y => y ∈ G) n / szTo n (fun y => y ∈ S) n ≤ szTo n (fun y => y ∈ G) n := Nat.div_le_self _ _
 refine fn_introL hlow Try.func33 rfl Try.ntmps33 (Nat.le_of_ble_eq_true rfl) (fun a0 F0 ok0 hargs => ?_)
 have p0 := pB (hargs 0 _ rfl) hv0
 have p1 := pB (hargs 1 _ rfl) hv1
 have b1 := sl_le p1
 have p2 := pB (hargs 2 _ rfl) hv2
 have b2 := sl_le p2
 clear hargs; refine wp_seq ?_
 refine gI a0 σ ok0 (gC (Ty.val (Value.pointer none)) (gC (Ty.int (0 : Int)) (gE ok0 fun a1 s1 ok1 D1 => ?_))); have q1 := D1.k p0; have q2 := D1.k p1; refine tn (wp_seq ?_)
 refine gI a1 s1 ok1 (gM q1 (gM q2 (gE2 ok1 fun a2 s2 ok2 D2 => ?_)))
 refine tL ok2 (y_callL (L := []) [] [(41, 51), (42, 52), (43, 53)] _ rfl (by decide) Try.func17 rfl rfl my2 (gMake_fn (n) (G) _ (GW.low_lend _ (by decide)) _ _ (Ty.up _ (GW.le_lend _ _) (D2.m 0 rfl)) (Ty.up _ (GW.le_lend _ _) (D2.m 1 rfl))  (by first | omega | assumption) (by first | omega | assumption) (by first | omega | assumption))) fun a3 s3 hs1 ok3 r1 sm1 => ?_
 have F3 := ((F0.step0 D1.stp).step0 D2.stp).sl hs1
 obtain ⟨t1, ⟨g1, g2, x1, x2, x3, hT1, o1, o2, o3, hp1⟩, B1⟩ := r1
 have q12 : At (Ty.tup2 (Ty.val x1) (Ty.int (0 : Int))) s3 a3 (.tmp 19) := Ty.up _ B1.le hT1
 have o4 : OwnP s3 51 x1 [(Ty.nat n), (Ty.val x3), (Ty.val x2)] := OwnP.ren o1 (B1.ren (by decide) rfl)
 have o5 : ChnU s3 52 22 108 x2 n (g1) (g2) := ChnU.ren o2 (B1.ren (by decide) rfl)
 have o6 : Own s3 53 22 1 x3 (List.length (G)) (List.map Ty.ints (G)) := Own.ren o3 (B1.ren (by decide) rfl)
 refine tL ok3 (Yld.toL (y_mv q12)) fun a4 s4 hs2 ok4 r2 sm2 => ?_
 have F4 := F3.sl hs2; have o8 := ChnU.keepL o5 hs2 (by decide) (by decide)
 have q16 : At (Ty.tup2 (Ty.val x1) (Ty.int (0 : Int))) s4 a4 (.tmp 16) := r2
 clear r2
 refine tL (R := (fun v τ => Pr.has (Ty.pr (Ty.val x1)) τ v)) ok4 (Yld.toL (y_ext2_0 q16)) fun a5 s5 hs3 ok5 r3 sm3 => ?_
 have F5 := F4.sl hs3; have o11 := ChnU.keepL o8 hs3 (by decide) (by decide)
 have q21 : At (Ty.val x1) s5 a5 (.tmp 20) := r3
 clear r3
 refine tL (R := (fun v τ => Pr.has (Ty.pr (Ty.int (0 : Int))) τ v)) ok5 (Yld.toL (y_ext2_1 (kq hs3 sm3 16 q16))) fun a6 s6 hs4 ok6 r4 sm4 => ?_
 have F6 := F5.sl hs4; have o14 := ChnU.keepL o11 hs4 (by decide) (by decide)
 have q26 : At (Ty.int (0 : Int)) s6 a6 (.tmp 21) := r4
 clear r4
 refine tL ok6 (Yld.toL (y_as (kq hs4 sm4 20 q21))) fun a7 s7 hs5 ok7 r5 sm5 => ?_
 have F7 := F6.sl hs5; have o17 := ChnU.keepL o14 hs5 (by decide) (by decide)
 have q31 : At (Ty.val x1) s7 a7 (.tmp 8) := r5
 clear r5
 refine tL ok7 (Yld.toL (y_as (kq hs5 sm5 21 q26))) fun a8 s8 hs6 ok8 r6 sm6 => ?_
 have F8 := F7.sl hs6; have o20 := ChnU.keepL o17 hs6 (by decide) (by decide)
 have q36 : At (Ty.int (0 : Int)) s8 a8 (.tmp 9) := r6
 clear r6; refine wpList_nil (tn (wp_seq (wp_seq ?_)))
 refine gI a8 s8 ok8 (gM q36 (gT (Ty.bool false) rfl (fun A B I J O d0 => rP ((y_neq (ef d0 rfl) rfl).mono (fun τ _ h => cvb (σ := τ) (by decide) h))) (gE ok8 fun a9 s9 ok9 D3 => ?_))); have q37 := D3.k (kq hs6 sm6 0 (kq hs5 sm5 0 (kq hs4 sm4 0 (kq hs3 sm3 0 (kq hs2 sm2 0 (kq hs1 sm1 0 (D2.k q1))))))); have q39 := D3.k (kq hs6 sm6 2 (kq hs5 sm5 2 (kq hs4 sm4 2 (kq hs3 sm3 2 (kq hs2 sm2 2 (kq hs1 sm1 2 (D2.k (D1.k p2)))))))); have o22 := OwnP.k0 (OwnP.kl (OwnP.kl (OwnP.kl (OwnP.kl (OwnP.kl o4 hs2) hs3) hs4) hs5) hs6) D3.stp; have o23 := ChnU.k0 o20 D3.stp; have o24 := Own.k0 (Own.kl (Own.kl (Own.kl (Own.kl (Own.kl o6 hs2) hs3) hs4) hs5) hs6) D3.stp; refine tn ?_
 refine cond_t (D3.m 1 rfl) (fun c1 => (by cases c1)) (fun _ => ?_)
 refine wp_skip (tn (wp_seq ?_))
 refine gI a9 s9 ok9 (gM q37 (gM q39 (gE2 ok9 fun a10 s10 ok10 D4 => ?_))); have o25 := OwnP.k0 o22 D4.stp; have o26 := ChnU.k0 o23 D4.stp; have o27 := Own.k0 o24 D4.stp
 refine tL ok10 (y_callL (L := []) [] [(41, 54), (42, 55), (43, 56)] _ rfl (by decide) Try.func17 rfl rfl my2 (gMake_fn (n) (S) _ (GW.low_lend _ (by decide)) _ _ (Ty.up _ (GW.le_lend _ _) (D4.m 0 rfl)) (Ty.up _ (GW.le_lend _ _) (D4.m 1 rfl))  (by first | omega | assumption) (by first | omega | assumption) (by first | omega | assumption))) fun a11 s11 hs7 ok11 r7 sm7 => ?_
 have F11 := ((F8.step0 D3.stp).step0 D4.stp).sl hs7; have o35 := ChnU.keepL o26 hs7 (by decide) (by decide)
 obtain ⟨t2, ⟨g3, g4, x4, x5, x6, hT2, o28, o29, o30, hp2⟩, B2⟩ := r7
 have q55 : At (Ty.tup2 (Ty.val x4) (Ty.int (0 : Int))) s11 a11 (.tmp 28) := Ty.up _ B2.le hT2
 have o31 : OwnP s11 54 x4 [(Ty.nat n), (Ty.val x6), (Ty.val x5)] := OwnP.ren o28 (B2.ren (by decide) rfl)
 have o32 : ChnU s11 55 22 108 x5 n (g3) (g4) := ChnU.ren o29 (B2.ren (by decide) rfl)
 have o33 : Own s11 56 22 1 x6 (List.length (S)) (List.map Ty.ints (S)) := Own.ren o30 (B2.ren (by decide) rfl)
 refine tL ok11 (Yld.toL (y_mv q55)) fun a12 s12 hs8 ok12 r8 sm8 => ?_
 have F12 := F11.sl hs8; have o38 := ChnU.keepL o35 hs8 (by decide) (by decide); have o41 := ChnU.keepL o32 hs8 (by decide) (by decide)
 have q61 : At (Ty.tup2 (Ty.val x4) (Ty.int (0 : Int))) s12 a12 (.tmp 25) := r8
 clear r8
 refine tL (R := (fun v τ => Pr.has (Ty.pr (Ty.val x4)) τ v)) ok12 (Yld.toL (y_ext2_0 q61)) fun a13 s13 hs9 ok13 r9 sm9 => ?_
 have F13 := F12.sl hs9; have o44 := ChnU.keepL o38 hs9 (by decide) (by decide); have o47 := ChnU.keepL o41 hs9 (by decide) (by decide)
 have q68 : At (Ty.val x4) s13 a13 (.tmp 29) := r9
 clear r9
 refine tL (R := (fun v τ => Pr.has (Ty.pr (Ty.int (0 : Int))) τ v)) ok13 (Yld.toL (y_ext2_1 (kq hs9 sm9 25 q61))) fun a14 s14 hs10 ok14 r10 sm10 => ?_
 have F14 := F13.sl hs10; have o50 := ChnU.keepL o44 hs10 (by decide) (by decide); have o53 := ChnU.keepL o47 hs10 (by decide) (by decide)
 have q75 : At (Ty.int (0 : Int)) s14 a14 (.tmp 30) := r10
 clear r10
 refine tL ok14 (Yld.toL (y_as (kq hs10 sm10 29 q68))) fun a15 s15 hs11 ok15 r11 sm11 => ?_
 have F15 := F14.sl hs11; have q80 := kq hs11 sm11 9 (kq hs10 sm10 9 (kq hs9 sm9 9 (kq hs8 sm8 9 (kq hs7 sm7 9 (D4.k (D3.k q36)))))); have o56 := ChnU.keepL o50 hs11 (by decide) (by decide); have o59 := ChnU.keepL o53 hs11 (by decide) (by decide)
 have q82 : At (Ty.val x4) s15 a15 (.tmp 10) := r11
 clear r11
 refine tL ok15 (Yld.toL (y_as (kq hs11 sm11 30 q75))) fun a16 s16 hs12 ok16 r12 sm12 => ?_
 have F16 := F15.sl hs12; have o62 := ChnU.keepL o56 hs12 (by decide) (by decide); have o65 := ChnU.keepL o59 hs12 (by decide) (by decide)
 have q88 : At (Ty.int (0 : Int)) s16 a16 (.tmp 9) := r12
 clear r12; refine wpList_nil (tn (wp_seq (wp_seq ?_)))
 refine gI a16 s16 ok16 (gM q88 (gT (Ty.bool false) rfl (fun A B I J O d0 => rP ((y_neq (ef d0 rfl) rfl).mono (fun τ _ h => cvb (σ := τ) (by decide) h))) (gE ok16 fun a17 s17 ok17 D5 => ?_))); have o67 := OwnP.k0 (OwnP.kl (OwnP.kl (OwnP.kl (OwnP.kl (OwnP.kl (OwnP.kl o25 hs7) hs8) hs9) hs10) hs11) hs12) D5.stp; have o68 := ChnU.k0 o62 D5.stp; have o69 := Own.k0 (Own.kl (Own.kl (Own.kl (Own.kl (Own.kl (Own.kl o27 hs7) hs8) hs9) hs10) hs11) hs12) D5.stp; have o70 := OwnP.k0 (OwnP.kl (OwnP.kl (OwnP.kl (OwnP.kl (OwnP.kl o31 hs8) hs9) hs10) hs11) hs12) D5.stp; have o71 := ChnU.k0 o65 D5.stp; have o72 := Own.k0 (Own.kl (Own.kl (Own.kl (Own.kl (Own.kl o33 hs8) hs9) hs10) hs11) hs12) D5.stp; refine tn ?_
 refine cond_t (D5.m 1 rfl) (fun c2 => (by cases c2)) (fun _ => ?_)
 refine wp_skip (tn (wp_seq (wp_seq ?_)))
 refine gI a17 s17 ok17 (gM (D5.k (kq hs12 sm12 2 (kq hs11 sm11 2 (kq hs10 sm10 2 (kq hs9 sm9 2 (kq hs8 sm8 2 (kq hs7 sm7 2 (D4.k q39)))))))) (gS rfl (fun A B I J O d0 => rP (y_len Try.underlying24 (ef d0 rfl))) (gT (Ty.int (0 : Int)) rfl (fun A B I J O => rP (y_move rfl)) (gE ok17 fun a18 s18 ok18 D6 => ?_)))); have o73 := OwnP.k0 o67 D6.stp; have o74 := ChnU.k0 o68 D6.stp; have o75 := Own.k0 o69 D6.stp; have o76 := OwnP.k0 o70 D6.stp; have o77 := ChnU.k0 o71 D6.stp; have o78 := Own.k0 o72 D6.stp; refine tn (wp_block ?_)
 refine loop (fun n1 a19 w1 => ∃ (t3 : GW) (i : Nat), t3.w = w1 ∧ FromL [] σ t3 ∧ Ok 76 [] a19 ∧ At (Ty.nat i) t3 a19 (.tmp 36) ∧ At (Ty.nat n) t3 a19 (.tmp 0) ∧ At (Ty.lst Ty.ints G) t3 a19 (.tmp 1) ∧ At (Ty.val x1) t3 a19 (.tmp 8) ∧ At (Ty.val x4) t3 a19 (.tmp 10) ∧ At (Ty.lst Ty.ints S) t3 a19 (.tmp 34) ∧ At (Ty.nat (List.length S)) t3 a19 (.tmp 35) ∧ OwnP t3 51 x1 [(Ty.nat n), (Ty.val x3), (Ty.val x2)] ∧ ChnU t3 52 22 108 x2 n (g1) (g2) ∧ Own t3 53 22 1 x3 (List.length (G)) (List.map Ty.ints (G)) ∧ OwnP t3 54 x4 [(Ty.nat n), (Ty.val x6), (Ty.val x5)] ∧ ChnU t3 55 22 108 x5 n (g3) (g4) ∧ Own t3 56 22 1 x6 (List.length (S)) (List.map Ty.ints (S)) ∧ (i ≤ S.length) ∧ (∀ a, a < i → Cl n (fun y => y ∈ G) (S.getD a [])) ∧ n1 = S.length - i) (S.length - (0)) ?_ ?_
 ·
  exact ⟨s18, 0, rfl, ((F16.step0 D5.stp).step0 D6.stp), ok18, (cvi (by (first | rfl | omega | (simp_all; done) | (simp_all; omega))) (D6.m 2 rfl)), (D6.k (D5.k (kq hs12 sm12 0 (kq hs11 sm11 0 (kq hs10 sm10 0 (kq hs9 sm9 0 (kq hs8 sm8 0 (kq hs7 sm7 0 (D4.k q37))))))))), (D6.k (D5.k (kq hs12 sm12 1 (kq hs11 sm11 1 (kq hs10 sm10 1 (kq hs9 sm9 1 (kq hs8 sm8 1 (kq hs7 sm7 1 (D4.k (D3.k (kq hs6 sm6 1 (kq hs5 sm5 1 (kq hs4 sm4 1 (kq hs3 sm3 1 (kq hs2 sm2 1 (kq hs1 sm1 1 (D2.k q2))))))))))))))))), (D6.k (D5.k (kq hs12 sm12 8 (kq hs11 sm11 8 (kq hs10 sm10 8 (kq hs9 sm9 8 (kq hs8 sm8 8 (kq hs7 sm7 8 (D4.k (D3.k (kq hs6 sm6 8 q31))))))))))), (D6.k (D5.k (kq hs12 sm12 10 q82))), (D6.m 0 rfl), (D6.m 1 rfl), o73, o74, o75, o76, o77, o78, by omega, fun j hj => absurd hj (Nat.not_lt_zero j), rfl⟩
 ·
  rintro n2 a20 w2 ⟨t4, i, rfl, F19, ok19, q103, q104, q105, q106, q107, q108, q109, o79, o80, o81, o82, o83, o84, hi, hA, rfl⟩
  refine wp_seq ?_
  refine gI a20 t4 ok19 (gS rfl (fun A B I J O => rP (y_lss (kp (O 36 rfl) I q103) (kp (O 35 rfl) I q109))) (gE ok19 fun a21 s19 ok20 D7 => ?_)); have F20 := F19.step0 D7.stp; have q110 := D7.k q103; have q111 := D7.k q104; have q112 := D7.k q105; have q113 := D7.k q106; have q114 := D7.k q107; have q115 := D7.k q108; have o85 := OwnP.k0 o79 D7.stp; have o86 := ChnU.k0 o80 D7.stp; have o87 := Own.k0 o81 D7.stp; have o88 := OwnP.k0 o82 D7.stp; have o89 := ChnU.k0 o83 D7.stp; have o90 := Own.k0 o84 D7.stp; refine tn (wp_seq ?_)
  refine cond_p (p := (((i : Nat) : Int) < (((List.length S) : Nat) : Int))) (D7.m 0 rfl) (fun c3 => ?_) (fun c3 => ?_)
  ·
   have hir := hS _ (mem_atD [] (show i < S.length by omega)); have hw1 := hp1.wc
   refine wp_skip (tn (wp_seq (wp_block (wp_seq ?_))))
   refine gI a21 s19 ok20 (gT (Ty.ref [(Ty.lst Ty.int (S.getD i []))]) rfl (fun A B I J O => rP (y_index1 Try.underlying24 Try.inf22 (kp (O 34 rfl) I q115) (kp (O 36 rfl) I q110) (by omega) (lst_get Ty.ints S [] i (by omega)))) (gS rfl (fun A B I J O d0 => rP (y_load Try.underlying22 rfl (ef d0 rfl) rfl)) (gB 0 (gE ok20 fun a22 s20 ok21 D8 => ?_)))); have q121 := D8.k q113; have o91 := OwnP.k0 o85 D8.stp; have o92 := ChnU.k0 o86 D8.stp; have o93 := Own.k0 o87 D8.stp; have o94 := OwnP.k0 o88 D8.stp; have o95 := ChnU.k0 o89 D8.stp; have o96 := Own.k0 o90 D8.stp; refine tn (wp_seq ?_)
   refine gI a22 s20 ok21 (gM q121 (gM (D8.m 2 rfl) (gE2 ok21 fun a23 s21 ok22 D9 => ?_))); have o97 := OwnP.k0 o91 D9.stp; have o98 := ChnU.k0 o92 D9.stp; have o99 := Own.k0 o93 D9.stp; have o100 := OwnP.k0 o94 D9.stp; have o101 := ChnU.k0 o95 D9.stp; have o102 := Own.k0 o96 D9.stp
   have q133 : At (Ty.val x1) s21 a23 (.tmp 41) := D9.done 0 (by decide)
   refine tL ok22 (y_callL (L := [41, 42]) [(51, 41), (52, 42)] [(41, 51), (42, 52)] #[a23.eval (.tmp 41), a23.eval (.tmp 42)] rfl (by decide) Try.func46 rfl rfl my2 (gHas_fn (x1) (x3) (x2) ((g2)) (n) ((g1)) ((S.getD i [])) _ (GW.low_lend _ (by decide)) _ _ (Ty.up _ (GW.le_lend _ _) q133) (Ty.up _ (GW.le_lend _ _) (D9.m 1 rfl)) (OwnP.ren o97 (GW.ren_lend _ _ (by decide) rfl)) (ChnU.ren (cvch (by (rfl)) o98) (GW.ren_lend _ _ (by decide) rfl)) (by first | omega | assumption))) fun a24 s22 hs13 ok23 r13 sm13 => ?_
   have F23 := ((F20.step0 D8.stp).step0 D9.stp).sl hs13; have o109 := ChnU.keepL o101 hs13 (by decide) (by decide)
   obtain ⟨t5, ⟨hT3, o103, o104⟩, B3⟩ := r13
   have q142 : At (Ty.tup2 (Ty.bool (hasB n ((g1)) ((S.getD i [])))) (Ty.int (fitsE n ((S.getD i []))))) s22 a24 (.tmp 43) := Ty.up _ B3.le hT3
   have o105 : OwnP s22 51 x1 [(Ty.nat n), (Ty.val x3), (Ty.val x2)] := OwnP.ren o103 (B3.ren (by decide) rfl)
   have o106 : ChnU s22 52 22 108 x2 n ((g1)) ((g2)) := ChnU.ren o104 (B3.ren (by decide) rfl)
   refine tL ok23 (Yld.toL (y_mv q142)) fun a25 s23 hs14 ok24 r14 sm14 => ?_
   have F24 := F23.sl hs14; have o113 := ChnU.keepL o109 hs14 (by decide) (by decide); have o116 := ChnU.keepL o106 hs14 (by decide) (by decide)
   have q150 : At (Ty.tup2 (Ty.bool (hasB n ((g1)) ((S.getD i [])))) (Ty.int (fitsE n ((S.getD i []))))) s23 a25 (.tmp 40) := r14
   clear r14
   refine tL (R := (fun v τ => Pr.has (Ty.pr (Ty.bool (hasB n ((g1)) ((S.getD i []))))) τ v)) ok24 (Yld.toL (y_ext2_0 q150)) fun a26 s24 hs15 ok25 r15 sm15 => ?_
   have F25 := F24.sl hs15; have o119 := ChnU.keepL o113 hs15 (by decide) (by decide); have o122 := ChnU.keepL o116 hs15 (by decide) (by decide)
   have q159 : At (Ty.bool (hasB n ((g1)) ((S.getD i [])))) s24 a26 (.tmp 44) := r15
   clear r15
   refine tL (R := (fun v τ => Pr.has (Ty.pr (Ty.int (fitsE n ((S.getD i []))))) τ v)) ok25 (Yld.toL (y_ext2_1 (kq hs15 sm15 40 q150))) fun a27 s25 hs16 ok26 r16 sm16 => ?_
   have F26 := F25.sl hs16; have o125 := ChnU.keepL o119 hs16 (by decide) (by decide); have o128 := ChnU.keepL o122 hs16 (by decide) (by decide)
   have q168 : At (Ty.int (fitsE n ((S.getD i [])))) s25 a27 (.tmp 45) := r16
   clear r16
   refine tL ok26 (Yld.toL (y_as (kq hs16 sm16 44 q159))) fun a28 s26 hs17 ok27 r17 sm17 => ?_
   have F27 := F26.sl hs17; have o131 := ChnU.keepL o125 hs17 (by decide) (by decide); have o134 := ChnU.keepL o128 hs17 (by decide) (by decide)
   have q177 : At (Ty.bool (hasB n ((g1)) ((S.getD i [])))) s26 a28 (.tmp 13) := r17
   clear r17
   refine tL ok27 (Yld.toL (y_as (kq hs17 sm17 45 q168))) fun a29 s27 hs18 ok28 r18 sm18 => ?_
   have F28 := F27.sl hs18; have o137 := ChnU.keepL o131 hs18 (by decide) (by decide); have o140 := ChnU.keepL o134 hs18 (by decide) (by decide)
   have q186 : At (Ty.int (fitsE n ((S.getD i [])))) s27 a29 (.tmp 14) := r18
   clear r18; refine wpList_nil (tn (wp_seq ?_))
   refine gI a29 s27 ok28 (gM (kq hs18 sm18 13 q177) (gS rfl (fun A B I J O d0 => rP (y_not (ef d0 rfl))) (gE ok28 fun a30 s28 ok29 D10 => ?_))); have o141 := Own.k0 (Own.kl (Own.kl (Own.kl (Own.kl (Own.kl (Own.kl o99 hs13) hs14) hs15) hs16) hs17) hs18) D10.stp; have o142 := OwnP.k0 (OwnP.kl (OwnP.kl (OwnP.kl (OwnP.kl (OwnP.kl (OwnP.kl o100 hs13) hs14) hs15) hs16) hs17) hs18) D10.stp; have o143 := ChnU.k0 o137 D10.stp; have o144 := Own.k0 (Own.kl (Own.kl (Own.kl (Own.kl (Own.kl (Own.kl o102 hs13) hs14) hs15) hs16) hs17) hs18) D10.stp; have o145 := OwnP.k0 (OwnP.kl (OwnP.kl (OwnP.kl (OwnP.kl (OwnP.kl o105 hs14) hs15) hs16) hs17) hs18) D10.stp; have o146 := ChnU.k0 o140 D10.stp; refine tn ?_
   refine cond_t (D10.m 1 rfl) (fun c4 => ?_) (fun c4 => ?_)
   ·
    exfalso
    have hci : ¬ Cl n (fun y => y ∈ G) (S.getD i []) := (fun h_ => by have h2_ := (has_iff hp1 hir).2 h_; rw [h2_] at c4; cases c4); exact hci (hsub _ (mem_atD [] (show i < S.length by omega)))
   ·
    have hci : Cl n (fun y => y ∈ G) (S.getD i []) := (has_iff hp1 hir).1 (by simpa using c4)
    refine wp_skip (bn (tn ?_))
    refine gI a30 s28 ok29 (gT (Ty.nat (i + 1)) rfl (fun A B I J O => rP ((y_add (kp (O 36 rfl) I (D10.k (kq hs18 sm18 36 (kq hs17 sm17 36 (kq hs16 sm16 36 (kq hs15 sm15 36 (kq hs14 sm14 36 (kq hs13 sm13 36 (D9.k (D8.k q110)))))))))) rfl (w64 (by omega) (by omega))).mono (fun τ _ h => cvi (σ := τ) (by first | omega | exact (Int.natCast_mul _ _).symm) h))) (gS rfl (fun A B I J O d0 => rP (y_move (ef d0 rfl))) (gE ok29 fun a31 s29 ok30 D11 => ?_))); have o147 := Own.k0 o141 D11.stp; have o148 := OwnP.k0 o142 D11.stp; have o149 := ChnU.k0 o143 D11.stp; have o150 := Own.k0 o144 D11.stp; have o151 := OwnP.k0 o145 D11.stp; have o152 := ChnU.k0 o146 D11.stp
    exact tn ⟨S.length - ((i+1)), by omega, s29, (i+1), rfl, ((F28.step0 D10.stp).step0 D11.stp), ok30, (cvi (by (first | rfl | omega | (simp_all; done) | (simp_all; omega))) (D11.m 1 rfl)), (D11.k (D10.k (kq hs18 sm18 0 (kq hs17 sm17 0 (kq hs16 sm16 0 (kq hs15 sm15 0 (kq hs14 sm14 0 (kq hs13 sm13 0 (D9.k (D8.k q111)))))))))), (D11.k (D10.k (kq hs18 sm18 1 (kq hs17 sm17 1 (kq hs16 sm16 1 (kq hs15 sm15 1 (kq hs14 sm14 1 (kq hs13 sm13 1 (D9.k (D8.k q112)))))))))), (D11.k (D10.k (kq hs18 sm18 8 (kq hs17 sm17 8 (kq hs16 sm16 8 (kq hs15 sm15 8 (kq hs14 sm14 8 (kq hs13 sm13 8 (D9.k q121))))))))), (D11.k (D10.k (kq hs18 sm18 10 (kq hs17 sm17 10 (kq hs16 sm16 10 (kq hs15 sm15 10 (kq hs14 sm14 10 (kq hs13 sm13 10 (D9.k (D8.k q114)))))))))), (D11.k (D10.k (kq hs18 sm18 34 (kq hs17 sm17 34 (kq hs16 sm16 34 (kq hs15 sm15 34 (kq hs14 sm14 34 (kq hs13 sm13 34 (D9.k (D8.k q115)))))))))), (D11.k (D10.k (kq hs18 sm18 35 (kq hs17 sm17 35 (kq hs16 sm16 35 (kq hs15 sm15 35 (kq hs14 sm14 35 (kq hs13 sm13 35 (D9.k (D8.k (D7.k q109))))))))))), o151, o152, o147, o148, o149, o150, by omega, fun a ha => by (by_cases e : a = i; (subst e; exact hci); exact hA a (by omega)), rfl⟩
  ·
   have ei : i = S.length := (by omega)
   refine wp_exit (tx (tx (bx (tn (wp_seq (wp_seq ?_))))))
   refine gI a21 s19 ok20 (gE2 ok20 fun a32 s30 ok31 D12 => ?_); have q205 := D12.k q114; have o153 := OwnP.k0 o85 D12.stp; have o154 := ChnU.k0 o86 D12.stp; have o155 := Own.k0 o87 D12.stp; have o156 := OwnP.k0 o88 D12.stp; have o157 := ChnU.k0 o89 D12.stp; have o158 := Own.k0 o90 D12.stp
   refine tL ok31 (Yld.toL (y_mv q205)) fun a33 s31 hs19 ok32 r19 sm19 => ?_
   have F32 := (F20.step0 D12.stp).sl hs19; have o160 := ChnU.keepL o154 hs19 (by decide) (by decide); have o163 := ChnU.keepL o157 hs19 (by decide) (by decide)
   have q210 : At (Ty.val x4) s31 a33 (.tmp 49) := r19
   clear r19
   refine tL ok32 (y_callL (L := [41, 42, 43]) [(54, 41), (55, 42), (56, 43)] [(41, 54), (42, 55), (43, 56)] #[a33.eval (.tmp 49)] rfl (by decide) Try.func42 rfl rfl my1 (gSize_fn (x4) (x6) (x5) ((g4)) (n) ((g3)) ((S)) _ (GW.low_lend _ (by decide)) _ (Ty.up _ (GW.le_lend _ _) q210) (OwnP.ren (OwnP.kl o156 hs19) (GW.ren_lend _ _ (by decide) rfl)) (ChnU.ren (cvch (by (rfl)) o163) (GW.ren_lend _ _ (by decide) rfl)) (Own.ren (cvo (by (simp)) (by (simp)) (Own.kl o158 hs19)) (GW.ren_lend _ _ (by decide) rfl)) (by first | omega | assumption) (by first | omega | assumption))) fun a34 s32 hs20 ok33 r20 sm20 => ?_
   have F33 := F32.sl hs20; have o172 := ChnU.keepL o160 hs20 (by decide) (by decide)
   obtain ⟨t6, ⟨hT4, o165, o166, o167⟩, B4⟩ := r20
   have q215 : At (Ty.nat (szTo n (fun y => y ∈ ((S))) n)) s32 a34 (.tmp 50) := Ty.up _ B4.le hT4
   have o168 : OwnP s32 54 x4 [(Ty.nat n), (Ty.val x6), (Ty.val x5)] := OwnP.ren o165 (B4.ren (by decide) rfl)
   have o169 : ChnU s32 55 22 108 x5 n ((g3)) ((g4)) := ChnU.ren o166 (B4.ren (by decide) rfl)
   have o170 : Own s32 56 22 1 x6 (List.length ((S))) (List.map Ty.ints ((S))) := Own.ren o167 (B4.ren (by decide) rfl)
   refine tL (R := (fun v τ => Pr.has (Ty.pr (Ty.bool (decide ((1000 : Int) < (((szTo n (fun y => y ∈ ((S))) n) : Nat) : Int))))) τ v)) ok33 (Yld.toL (y_gtr q215 rfl)) fun a35 s33 hs21 ok34 r21 sm21 => ?_
   have F34 := F33.sl hs21; have o175 := ChnU.keepL o172 hs21 (by decide) (by decide); have o178 := ChnU.keepL o169 hs21 (by decide) (by decide)
   have q220 : At (Ty.bool (decide ((1000 : Int) < (((szTo n (fun y => y ∈ ((S))) n) : Nat) : Int)))) s33 a35 (.tmp 51) := r21
   clear r21
   refine tL ok34 (Yld.toL (y_mv q220)) fun a36 s34 hs22 ok35 r22 sm22 => ?_
   have F35 := F34.sl hs22; have o181 := ChnU.keepL o175 hs22 (by decide) (by decide); have o184 := ChnU.keepL o178 hs22 (by decide) (by decide)
   have q225 : At (Ty.bool (decide ((1000 : Int) < (((szTo n (fun y => y ∈ ((S))) n) : Nat) : Int)))) s34 a36 (.tmp 52) := r22
   clear r22
   rcases Bool.eq_false_or_eq_true (decide ((1000 : Int) < (((szTo n (fun y => y ∈ ((S))) n) : Nat) : Int))) with hg1 | hg1
   · (have h_ := of_decide_eq_true hg1; omega)
   ·
    have q226 : At (Ty.bool false) s34 a36 (.tmp 52) := cvb hg1 q225
    refine tailDo (L := []) (R := (fun v τ => Pr.has (Ty.pr (Ty.val x1)) τ v)) ok35 rfl rfl (by decide) q226 rfl rfl (by decide) (Yld.toL (y_move (kq hs22 sm22 8 (kq hs21 sm21 8 (kq hs20 sm20 8 (kq hs19 sm19 8 (D12.k q113))))))) (fun a37 s35 hs23 ok36 r23 sm23 => ?_)
    have F36 := F35.sl hs23; have q230 := kq hs23 sm23 52 q226; have o187 := ChnU.keepL o181 hs23 (by decide) (by decide); have o190 := ChnU.keepL o184 hs23 (by decide) (by decide)
    have q231 : At (Ty.val x1) s35 a37 (.tmp 53) := r23
    clear r23
    refine tailDo (L := [51, 52, 53]) (R := (fun v τ' => ∃ τ, (fun v τ => (Ty.has (Ty.nat (szTo n (fun y => y ∈ ((G))) n)) τ v) ∧ (OwnP τ 41 x1 [(Ty.nat n), (Ty.val x3), (Ty.val x2)]) ∧ (ChnU τ 42 22 108 x2 n ((g1)) ((g2))) ∧ (Own τ 43 22 1 x3 (List.length ((G))) (List.map Ty.ints ((G))))) v τ ∧ Back [(41, 51), (42, 52), (43, 53)] τ τ')) ok36 rfl rfl (by decide) q230 rfl rfl (by decide) (y_callL (L := [41, 42, 43]) [(51, 41), (52, 42), (53, 43)] [(41, 51), (42, 52), (43, 53)] #[a37.eval (.tmp 53)] rfl (by decide) Try.func42 rfl rfl my1 (gSize_fn (x1) (x3) (x2) ((g2)) (n) ((g1)) ((G)) _ (GW.low_lend _ (by decide)) _ (Ty.up _ (GW.le_lend _ _) q231) (OwnP.ren (OwnP.kl (OwnP.kl (OwnP.kl (OwnP.kl (OwnP.kl o153 hs19) hs20) hs21) hs22) hs23) (GW.ren_lend _ _ (by decide) rfl)) (ChnU.ren (cvch (by (rfl)) o187) (GW.ren_lend _ _ (by decide) rfl)) (Own.ren (cvo (by (simp)) (by (simp)) (Own.kl (Own.kl (Own.kl (Own.kl (Own.kl o155 hs19) hs20) hs21) hs22) hs23)) (GW.ren_lend _ _ (by decide) rfl)) (by first | omega | assumption) (by first | omega | assumption))) (fun a38 s36 hs24 ok37 r24 sm24 => ?_)
    have F37 := F36.sl hs24; have q234 := kq hs24 sm24 10 (kq hs23 sm23 10 (kq hs22 sm22 10 (kq hs21 sm21 10 (kq hs20 sm20 10 (kq hs19 sm19 10 q205))))); have q235 := kq hs24 sm24 52 q230; have o199 := ChnU.keepL o190 hs24 (by decide) (by decide)
    obtain ⟨t7, ⟨hT5, o192, o193, o194⟩, B5⟩ := r24
    have q236 : At (Ty.nat (szTo n (fun y => y ∈ ((G))) n)) s36 a38 (.tmp 54) := Ty.up _ B5.le hT5
    have o195 : OwnP s36 51 x1 [(Ty.nat n), (Ty.val x3), (Ty.val x2)] := OwnP.ren o192 (B5.ren (by decide) rfl)
    have o196 : ChnU s36 52 22 108 x2 n ((g1)) ((g2)) := ChnU.ren o193 (B5.ren (by decide) rfl)
    have o197 : Own s36 53 22 1 x3 (List.length ((G))) (List.map Ty.ints ((G))) := Own.ren o194 (B5.ren (by decide) rfl)
    refine tailDo (L := []) (R := (fun v τ => Pr.has (Ty.pr (Ty.val x4)) τ v)) ok37 rfl rfl (by decide) q235 rfl rfl (by decide) (Yld.toL (y_move q234)) (fun a39 s37 hs25 ok38 r25 sm25 => ?_)
    have F38 := F37.sl hs25; have q240 := kq hs25 sm25 52 q235; have o202 := ChnU.keepL o199 hs25 (by decide) (by decide); have o205 := ChnU.keepL o196 hs25 (by decide) (by decide)
    have q242 : At (Ty.val x4) s37 a39 (.tmp 55) := r25
    clear r25
    refine tailDo (L := [54, 55, 56]) (R := (fun v τ' => ∃ τ, (fun v τ => (Ty.has (Ty.nat (szTo n (fun y => y ∈ (((S)))) n)) τ v) ∧ (OwnP τ 41 x4 [(Ty.nat n), (Ty.val x6), (Ty.val x5)]) ∧ (ChnU τ 42 22 108 x5 n (((g3))) (((g4)))) ∧ (Own τ 43 22 1 x6 (List.length (((S)))) (List.map Ty.ints (((S)))))) v τ ∧ Back [(41, 54), (42, 55), (43, 56)] τ τ')) ok38 rfl rfl (by decide) q240 rfl rfl (by decide) (y_callL (L := [41, 42, 43]) [(54, 41), (55, 42), (56, 43)] [(41, 54), (42, 55), (43, 56)] #[a39.eval (.tmp 55)] rfl (by decide) Try.func42 rfl rfl my1 (gSize_fn (x4) (x6) (x5) (((g4))) (n) (((g3))) (((S))) _ (GW.low_lend _ (by decide)) _ (Ty.up _ (GW.le_lend _ _) q242) (OwnP.ren (OwnP.kl (OwnP.kl (OwnP.kl (OwnP.kl (OwnP.kl o168 hs21) hs22) hs23) hs24) hs25) (GW.ren_lend _ _ (by decide) rfl)) (ChnU.ren (cvch (by (rfl)) o202) (GW.ren_lend _ _ (by decide) rfl)) (Own.ren (cvo (by (simp)) (by (simp)) (Own.kl (Own.kl (Own.kl (Own.kl (Own.kl o170 hs21) hs22) hs23) hs24) hs25)) (GW.ren_lend _ _ (by decide) rfl)) (by first | omega | assumption) (by first | omega | assumption))) (fun a40 s38 hs26 ok39 r26 sm26 => ?_)
    have F39 := F38.sl hs26; have q246 := kq hs26 sm26 52 q240; have o214 := ChnU.keepL o205 hs26 (by decide) (by decide)
    obtain ⟨t8, ⟨hT6, o207, o208, o209⟩, B6⟩ := r26
    have q248 : At (Ty.nat (szTo n (fun y => y ∈ (((S)))) n)) s38 a40 (.tmp 56) := Ty.up _ B6.le hT6
    have o210 : OwnP s38 54 x4 [(Ty.nat n), (Ty.val x6), (Ty.val x5)] := OwnP.ren o207 (B6.ren (by decide) rfl)
    have o211 : ChnU s38 55 22 108 x5 n (((g3))) (((g4))) := ChnU.ren o208 (B6.ren (by decide) rfl)
    have o212 : Own s38 56 22 1 x6 (List.length (((S)))) (List.map Ty.ints (((S)))) := Own.ren o209 (B6.ren (by decide) rfl)
    refine tailDo (L := []) (R := (fun v τ => Pr.has (Ty.pr (Ty.nat ((szTo n (fun y => y ∈ ((G))) n) / (szTo n (fun y => y ∈ (((S)))) n)))) τ v)) ok39 rfl rfl (by decide) q246 rfl rfl (by decide) (Yld.toL (y_quoN (kq hs26 sm26 54 (kq hs25 sm25 54 q236)) q248 (by omega) (by omega))) (fun a41 s39 hs27 ok40 r27 sm27 => ?_)
    have F40 := F39.sl hs27; have q252 := kq hs27 sm27 52 q246; have o217 := ChnU.keepL o214 hs27 (by decide) (by decide); have o220 := ChnU.keepL o211 hs27 (by decide) (by decide)
    have q253 : At (Ty.nat ((szTo n (fun y => y ∈ ((G))) n) / (szTo n (fun y => y ∈ (((S)))) n))) s39 a41 (.tmp 57) := r27
    clear r27
    refine tailDo (L := []) (R := (fun v τ => Pr.has (Ty.pr (Ty.bool (decide ((1000 : Int) < ((((szTo n (fun y => y ∈ ((G))) n) / (szTo n (fun y => y ∈ (((S)))) n)) : Nat) : Int))))) τ v)) ok40 rfl rfl (by decide) q252 rfl rfl (by decide) (Yld.toL (y_gtr q253 rfl)) (fun a42 s40 hs28 ok41 r28 sm28 => ?_)
    have F41 := F40.sl hs28; have o223 := ChnU.keepL o217 hs28 (by decide) (by decide); have o226 := ChnU.keepL o220 hs28 (by decide) (by decide)
    have q258 : At (Ty.bool (decide ((1000 : Int) < ((((szTo n (fun y => y ∈ ((G))) n) / (szTo n (fun y => y ∈ (((S)))) n)) : Nat) : Int)))) s40 a42 (.tmp 58) := r28
    clear r28
    refine tL (R := (fun v τ => Pr.has (Ty.pr (Ty.bool (decide ((1000 : Int) < ((((szTo n (fun y => y ∈ ((G))) n) / (szTo n (fun y => y ∈ (((S)))) n)) : Nat) : Int))))) τ v)) ok41 (Yld.toL (y_pickF (kq hs28 sm28 52 q252) q258)) fun a43 s41 hs29 ok42 r29 sm29 => ?_
    have F42 := F41.sl hs29; have o229 := ChnU.keepL o223 hs29 (by decide) (by decide); have o232 := ChnU.keepL o226 hs29 (by decide) (by decide)
    have q262 : At (Ty.bool (decide ((1000 : Int) < ((((szTo n (fun y => y ∈ ((G))) n) / (szTo n (fun y => y ∈ (((S)))) n)) : Nat) : Int)))) s41 a43 (.tmp 59) := r29
    clear r29; refine wpList_nil (tn ?_)
    refine cond_p (p := ((1000 : Int) < ((((szTo n (fun y => y ∈ ((G))) n) / (szTo n (fun y => y ∈ (((S)))) n)) : Nat) : Int))) q262 (fun c5 => ?_) (fun c5 => ?_)
    ·
     exfalso
     omega
    ·
     refine wp_skip (tn (wp_seq ?_))
     refine gI a43 s41 ok42 (gR (Pr.ownm Ty.int kI 44 (fun _ => none : Int → Option Int)) rfl (by intro A B I J O; exact rP (y_makemap 44)) (gE2 ok42 fun a44 s42 ok43 D13 => ?_)); have o234 := OwnP.k0 (OwnP.kl (OwnP.kl (OwnP.kl (OwnP.kl (OwnP.kl o195 hs25) hs26) hs27) hs28) hs29) D13.stp; have o235 := ChnU.k0 o229 D13.stp; have o236 := Own.k0 (Own.kl (Own.kl (Own.kl (Own.kl (Own.kl o197 hs25) hs26) hs27) hs28) hs29) D13.stp; have o237 := OwnP.k0 (OwnP.kl (OwnP.kl (OwnP.kl o210 hs27) hs28) hs29) D13.stp; have o238 := ChnU.k0 o232 D13.stp; have o239 := Own.k0 (Own.kl (Own.kl (Own.kl o212 hs27) hs28) hs29) D13.stp
     obtain ⟨x7, hx1⟩ : ∃ x, a44.eval (.tmp 60) = x := ⟨_, rfl⟩
     have q266 : At (Ty.val x7) s42 a44 (.tmp 60) := hx1
     have o240 := al2 (R := (Pr.ownm Ty.int kI 44 (fun _ => none : Int → Option Int))) hx1 (D13.done 0 (by decide))
     refine tL (R := (fun v τ => Pr.has (Ty.pr (Ty.agg [(Ty.val (Value.slice none 0 0)), (Ty.val (Value.slice none 0 0)), (Ty.val (Value.slice none 0 0)), (Ty.val x7)])) τ v)) ok43 (Yld.toL (y_bld [(3, (.tmp 60), (Ty.val x7))] [(Ty.val (Value.slice none 0 0)), (Ty.val (Value.slice none 0 0)), (Ty.val (Value.slice none 0 0)), (Ty.val (Value.map none))] (l := [(0, 1), (1, 1), (2, 1), (3, 1)]) rfl Try.inf106 rfl (alloc_vals (vs := [.slice none 0 0, .slice none 0 0, .slice none 0 0, .map none]) rfl) rfl (by intro p hp; simp only [List.mem_cons, List.not_mem_nil, or_false] at hp; rcases hp with rfl; exact ⟨one_val (OwnM.one o240), q266⟩))) fun a45 s43 hs30 ok44 r30 sm30 => ?_
     have F44 := (F42.step0 D13.stp).sl hs30; have o242 := ChnU.keepL o235 hs30 (by decide) (by decide); have o245 := ChnU.keepL o238 hs30 (by decide) (by decide)
     have q270 : At (Ty.agg [(Ty.val (Value.slice none 0 0)), (Ty.val (Value.slice none 0 0)), (Ty.val (Value.slice none 0 0)), (Ty.val x7)]) s43 a45 (.tmp 61) := r30
     clear r30
     refine tL (R := (fun v τ => Pr.has (Pr.ownp 41 [(Ty.val (Value.slice none 0 0)), (Ty.val (Value.slice none 0 0)), (Ty.val (Value.slice none 0 0)), (Ty.val x7)]) τ v)) ok44 (Yld.toL (y_boxo 41 q270)) fun a46 s44 hs31 ok45 r31 sm31 => ?_
     have F45 := F44.sl hs31; have o250 := ChnU.keepL o242 hs31 (by decide) (by decide); have o253 := ChnU.keepL o245 hs31 (by decide) (by decide)
     obtain ⟨x8, hx2⟩ : ∃ x, a46.eval (.tmp 62) = x := ⟨_, rfl⟩
     have q274 : At (Ty.val x8) s44 a46 (.tmp 62) := hx2
     have o248 := al2 (R := (Pr.ownp 41 [(Ty.val (Value.slice none 0 0)), (Ty.val (Value.slice none 0 0)), (Ty.val (Value.slice none 0 0)), (Ty.val x7)])) hx2 r31
     clear r31
     refine tL ok45 (Yld.toL (y_as q274)) fun a47 s45 hs32 ok46 r32 sm32 => ?_
     have F46 := F45.sl hs32; have o257 := ChnU.keepL o250 hs32 (by decide) (by decide); have o260 := ChnU.keepL o253 hs32 (by decide) (by decide)
     have q278 : At (Ty.val x8) s45 a47 (.tmp 15) := r32
     clear r32; refine wpList_nil (tn (wp_seq ?_))
     refine gI a47 s45 ok46 (gM q278 (gM (kq hs32 sm32 10 (kq hs31 sm31 10 (kq hs30 sm30 10 (D13.k (kq hs29 sm29 10 (kq hs28 sm28 10 (kq hs27 sm27 10 (kq hs26 sm26 10 (kq hs25 sm25 10 q234))))))))) (gE2 ok46 fun a48 s46 ok47 D14 => ?_))); have o264 := OwnP.k0 (OwnP.kl (OwnP.kl (OwnP.kl o234 hs30) hs31) hs32) D14.stp; have o265 := ChnU.k0 o257 D14.stp; have o266 := Own.k0 (Own.kl (Own.kl (Own.kl o236 hs30) hs31) hs32) D14.stp; have o267 := OwnP.k0 (OwnP.kl (OwnP.kl (OwnP.kl o237 hs30) hs31) hs32) D14.stp; have o268 := ChnU.k0 o260 D14.stp; have o269 := Own.k0 (Own.kl (Own.kl (Own.kl o239 hs30) hs31) hs32) D14.stp; have o270 := OwnM.k0 (OwnM.kl (OwnM.kl (OwnM.kl o240 hs30) hs31) hs32) D14.stp; have o271 := OwnP.k0 (OwnP.kl o248 hs32) D14.stp
     have q282 : At (Ty.val x8) s46 a48 (.tmp 64) := D14.done 0 (by decide)
     have q283 : At (Ty.val x4) s46 a48 (.tmp 65) := D14.done 1 (by decide)
     refine tL ok47 (y_callL (L := [41, 42, 43]) [(54, 41), (55, 42), (56, 43)] [(41, 54), (42, 55), (43, 56)] #[a48.eval (.tmp 65)] rfl (by decide) Try.func60 rfl rfl my1 (gElts_fn (x4) (x6) (x5) ((((g4)))) (n) ((((g3)))) ((((S)))) _ (GW.low_lend _ (by decide)) _ (Ty.up _ (GW.le_lend _ _) q283) (OwnP.ren o267 (GW.ren_lend _ _ (by decide) rfl)) (ChnU.ren (cvch (by (rfl)) o268) (GW.ren_lend _ _ (by decide) rfl)) (Own.ren (cvo (by (simp)) (by (simp)) o269) (GW.ren_lend _ _ (by decide) rfl)) (by first | omega | assumption) (by first | omega | assumption))) fun a49 s47 hs33 ok48 r33 sm33 => ?_
     have F48 := (F46.step0 D14.stp).sl hs33; have o279 := ChnU.keepL o265 hs33 (by decide) (by decide)
     obtain ⟨t9, ⟨g5, hT7, o272, o273, o274, hp3⟩, B7⟩ := r33
     have q288 : At (Ty.tup2 (Ty.lst Ty.ints (g5)) (Ty.int (eltE n ((((S))))))) s47 a49 (.tmp 66) := Ty.up _ B7.le hT7
     have o275 : OwnP s47 54 x4 [(Ty.nat n), (Ty.val x6), (Ty.val x5)] := OwnP.ren o272 (B7.ren (by decide) rfl)
     have o276 : ChnU s47 55 22 108 x5 n ((((g3)))) ((((g4)))) := ChnU.ren o273 (B7.ren (by decide) rfl)
     have o277 : Own s47 56 22 1 x6 (List.length ((((S))))) (List.map Ty.ints ((((S))))) := Own.ren o274 (B7.ren (by decide) rfl)
     refine tL ok48 (Yld.toL (y_mv q288)) fun a50 s48 hs34 ok49 r34 sm34 => ?_
     have F49 := F48.sl hs34; have o284 := ChnU.keepL o279 hs34 (by decide) (by decide); have o289 := ChnU.keepL o276 hs34 (by decide) (by decide)
     have q293 : At (Ty.tup2 (Ty.lst Ty.ints (g5)) (Ty.int (eltE n ((((S))))))) s48 a50 (.tmp 63) := r34
     clear r34
     refine tL (R := (fun v τ => Pr.has (Ty.pr (Ty.lst Ty.ints (g5))) τ v)) ok49 (Yld.toL (y_ext2_0 q293)) fun a51 s49 hs35 ok50 r35 sm35 => ?_
     have F50 := F49.sl hs35; have o292 := ChnU.keepL o284 hs35 (by decide) (by decide); have o297 := ChnU.keepL o289 hs35 (by decide) (by decide)
     have q299 : At (Ty.lst Ty.ints (g5)) s49 a51 (.tmp 67) := r35
     clear r35
     refine tL (R := (fun v τ => Pr.has (Ty.pr (Ty.int (eltE n ((((S))))))) τ v)) ok50 (Yld.toL (y_ext2_1 (kq hs35 sm35 63 q293))) fun a52 s50 hs36 ok51 r36 sm36 => ?_
     have F51 := F50.sl hs36; have o300 := ChnU.keepL o292 hs36 (by decide) (by decide); have o303 := OwnP.kl (OwnP.kl (OwnP.kl (OwnP.kl o271 hs33) hs34) hs35) hs36; have o305 := ChnU.keepL o297 hs36 (by decide) (by decide)
     have q305 : At (Ty.int (eltE n ((((S)))))) s50 a52 (.tmp 68) := r36
     clear r36
     refine tL (R := (fun v τ => Pr.has (Ty.pr (Ty.val x8)) τ v)) ok51 (Yld.toL (y_nilp o303 (kq hs36 sm36 64 (kq hs35 sm35 64 (kq hs34 sm34 64 (kq hs33 sm33 64 q282)))))) fun a53 s51 hs37 ok52 r37 sm37 => ?_
     have F52 := F51.sl hs37; have o308 := ChnU.keepL o300 hs37 (by decide) (by decide); have o311 := OwnP.kl o303 hs37; have o313 := ChnU.keepL o305 hs37 (by decide) (by decide)
     have q310 : At (Ty.val x8) s51 a53 (.tmp 69) := r37
     clear r37
     refine tL (R := (fun v τ => Pr.has (Ty.pr (Ty.val (ptrAt x8 2))) τ v)) ok52 (Yld.toL (ownp_field Try.fld106_2 Try.inf24 (by decide) o311 q310)) fun a54 s52 hs38 ok53 r38 sm38 => ?_
     have F53 := F52.sl hs38; have o316 := ChnU.keepL o308 hs38 (by decide) (by decide); have o321 := ChnU.keepL o313 hs38 (by decide) (by decide)
     have q315 : At (Ty.val (ptrAt x8 2)) s52 a54 (.tmp 70) := r38
     clear r38
     refine tailL0 (L := [41]) (R := (fun _ τ => OwnP τ 41 x8 ([(Ty.val (Value.slice none 0 0)), (Ty.val (Value.slice none 0 0)), (Ty.val (Value.slice none 0 0)), (Ty.val x7)].set 2 (Ty.lst Ty.ints (g5))))) rfl rfl (YldM.toL (m_storep Try.inf24 (by decide) (OwnP.kl o311 hs38) q315 (Nat.le_of_ble_eq_true rfl) (kq hs38 sm38 67 (kq hs37 sm37 67 (kq hs36 sm36 67 q299))) (one_sl))) (fun v1 s53 hs39 r39 => ?_)
     have F54 := F53.sl hs39; have q316 := kpL hs39 (by decide) rfl (kq hs38 sm38 0 (kq hs37 sm37 0 (kq hs36 sm36 0 (kq hs35 sm35 0 (kq hs34 sm34 0 (kq hs33 sm33 0 (D14.k (kq hs32 sm32 0 (kq hs31 sm31 0 (kq hs30 sm30 0 (D13.k (kq hs29 sm29 0 (kq hs28 sm28 0 (kq hs27 sm27 0 (kq hs26 sm26 0 (kq hs25 sm25 0 (kq hs24 sm24 0 (kq hs23 sm23 0 (kq hs22 sm22 0 (kq hs21 sm21 0 (kq hs20 sm20 0 (kq hs19 sm19 0 (D12.k q111))))))))))))))))))))))); have q317 := kpL hs39 (by decide) rfl (kq hs38 sm38 1 (kq hs37 sm37 1 (kq hs36 sm36 1 (kq hs35 sm35 1 (kq hs34 sm34 1 (kq hs33 sm33 1 (D14.k (kq hs32 sm32 1 (kq hs31 sm31 1 (kq hs30 sm30 1 (D13.k (kq hs29 sm29 1 (kq hs28 sm28 1 (kq hs27 sm27 1 (kq hs26 sm26 1 (kq hs25 sm25 1 (kq hs24 sm24 1 (kq hs23 sm23 1 (kq hs22 sm22 1 (kq hs21 sm21 1 (kq hs20 sm20 1 (kq hs19 sm19 1 (D12.k q112))))))))))))))))))))))); have q318 := kpL hs39 (by decide) rfl (kq hs38 sm38 15 (kq hs37 sm37 15 (kq hs36 sm36 15 (kq hs35 sm35 15 (kq hs34 sm34 15 (kq hs33 sm33 15 (D14.k q278))))))); have o325 := ChnU.keepL o316 hs39 (by decide) (by decide); have o329 := ChnU.keepL o321 hs39 (by decide) (by decide)
     have o323 : OwnP s53 41 x8 [(Ty.val (Value.slice none 0 0)), (Ty.val (Value.slice none 0 0)), (Ty.lst Ty.ints (g5)), (Ty.val x7)] := r39
     clear r39; refine wpList_nil (tn (wp_seq ?_))
     have hE := hp3.ok (by omega)
     obtain ⟨F, hF⟩ := hp1.elts hG
     have hP := PrtP.of hn hG hS hsub hE
     have hnd := hE.nd
     have hlm : F.length < 1001 * g5.length := (by rw [hF.len, hE.len]; exact lim_of hpS hl2)
     have hGl2 : G.length ≤ 1000 := (by omega)
     refine gI a54 s53 ok53 (gM q318 (gM q316 (gM q317 (gE2 ok53 fun a55 s54 ok54 D15 => ?_)))); have o331 := OwnP.k0 (OwnP.kl (OwnP.kl (OwnP.kl (OwnP.kl (OwnP.kl (OwnP.kl (OwnP.kl o264 hs33) hs34) hs35) hs36) hs37) hs38) hs39) D15.stp; have o332 := ChnU.k0 o325 D15.stp; have o333 := Own.k0 (Own.kl (Own.kl (Own.kl (Own.kl (Own.kl (Own.kl (Own.kl o266 hs33) hs34) hs35) hs36) hs37) hs38) hs39) D15.stp; have o334 := OwnM.k0 (OwnM.kl (OwnM.kl (OwnM.kl (OwnM.kl (OwnM.kl (OwnM.kl (OwnM.kl o270 hs33) hs34) hs35) hs36) hs37) hs38) hs39) D15.stp; have o335 := OwnP.k0 (OwnP.kl (OwnP.kl (OwnP.kl (OwnP.kl (OwnP.kl (OwnP.kl o275 hs34) hs35) hs36) hs37) hs38) hs39) D15.stp; have o336 := ChnU.k0 o329 D15.stp; have o337 := Own.k0 (Own.kl (Own.kl (Own.kl (Own.kl (Own.kl (Own.kl o277 hs34) hs35) hs36) hs37) hs38) hs39) D15.stp; have o338 := OwnP.k0 o323 D15.stp
     have q321 : At (Ty.val x8) s54 a55 (.tmp 71) := D15.done 0 (by decide)
     refine tL ok54 (y_callL (L := [41, 44]) [(41, 41), (44, 44)] [(41, 41), (44, 44), (42, 61), (43, 62)] #[a55.eval (.tmp 71), a55.eval (.tmp 72), a55.eval (.tmp 73)] rfl (by decide) Try.func71 rfl rfl my3 (cFill_fn (x8) (x7) ((g5)) (n) (G) (F) _ (GW.low_lend _ (by decide)) _ _ _ (Ty.up _ (GW.le_lend _ _) q321) (Ty.up _ (GW.le_lend _ _) (D15.m 1 rfl)) (Ty.up _ (GW.le_lend _ _) (D15.m 2 rfl)) (OwnP.ren (ownp_cell 2 (Ty.lst Ty.ints ((g5))) o338 rfl (fun _ _ h => (cvt (by (first | rfl | omega | (simp_all; done) | (simp_all; omega))) h))) (GW.ren_lend _ _ (by decide) rfl)) (OwnM.ren (cvm (by (rfl)) o334) (GW.ren_lend _ _ (by decide) rfl)) (by first | omega | assumption) (by first | omega | assumption) (by first | omega | assumption) (by first | omega | assumption) (by first | omega | assumption))) fun a56 s55 hs40 ok55 r40 sm39 => ?_
     have F56 := (F54.step0 D15.stp).sl hs40; have o348 := ChnU.keepL o332 hs40 (by decide) (by decide); have o351 := ChnU.keepL o336 hs40 (by decide) (by decide)
     obtain ⟨t10, ⟨g6, g7, g8, g9, g10, x9, x10, hT8, o339, o340, o341, o342, hp4, hp5, hp6⟩, B8⟩ := r40
     have o343 : OwnP s55 41 x8 [(Ty.val x9), (Ty.val x10), (Ty.lst Ty.ints ((g5))), (Ty.val x7)] := OwnP.ren o339 (B8.ren (by decide) rfl)
     have o344 : Own s55 61 22 1 x9 (List.length (g10)) (List.map Ty.ints (g10)) := Own.ren o340 (B8.ren (by decide) rfl)
     have o345 : Own s55 62 22 1 x10 (List.length (g9)) (List.map Ty.ints (g9)) := Own.ren o341 (B8.ren (by decide) rfl)
     have o346 : OwnM Ty.int kI s55 44 x7 (g7) := OwnM.ren o342 (B8.ren (by decide) rfl)
     refine wpList_nil (tn (wp_seq ?_))
     refine gI a56 s55 ok55 (gM (kq hs40 sm39 15 (D15.k q318)) (gB 0 (gC (Ty.int (0 : Int)) (gE ok55 fun a57 s56 ok56 D16 => ?_)))); have o353 := OwnP.k0 (OwnP.kl o331 hs40) D16.stp; have o354 := ChnU.k0 o348 D16.stp; have o355 := Own.k0 (Own.kl o333 hs40) D16.stp; have o356 := OwnP.k0 (OwnP.kl o335 hs40) D16.stp; have o357 := ChnU.k0 o351 D16.stp; have o358 := Own.k0 (Own.kl o337 hs40) D16.stp; have o359 := OwnP.k0 o343 D16.stp; have o360 := Own.k0 o344 D16.stp; have o361 := Own.k0 o345 D16.stp; have o362 := OwnM.k0 o346 D16.stp
     have q326 : At (Ty.val x8) s56 a57 (.tmp 6) := D16.done 1
     refine tn (wp_ret ?_)
     obtain ⟨t11, e1, h1, o363⟩ := Own.retag (k' := 42) o360 (by decide) (by decide)
     rw [← e1]
     have F58 := (F56.step0 D16.stp).step h1 (by decide); have o364 := OwnP.keepL o353 (h1.toL (L := [61]) (by simp)) (by decide) (by decide); have o365 := ChnU.keepL o354 (h1.toL (L := [61]) (by simp)) (by decide) (by decide); have o366 := Own.keepL o355 (h1.toL (L := [61]) (by simp)) (by decide) (by decide); have o367 := OwnP.keepL o356 (h1.toL (L := [61]) (by simp)) (by decide) (by decide); have o368 := ChnU.keepL o357 (h1.toL (L := [61]) (by simp)) (by decide) (by decide); have o369 := Own.keepL o358 (h1.toL (L := [61]) (by simp)) (by decide) (by decide); have o370 := OwnP.keepL o359 (h1.toL (L := [61]) (by simp)) (by decide) (by decide); have o371 := Own.keepL o361 (h1.toL (L := [61]) (by simp)) (by decide) (by decide); have o372 := OwnM.keepL o362 (h1.toL (L := [61]) (by simp)) (by decide) (by decide); have q328 := Ty.up (Ty.val x8) (h1.le (by decide)) q326
     have q329 := Ty.up (Ty.int (0 : Int)) (h1.le (by decide)) (D16.m 2 rfl)
     obtain ⟨t12, e2, h2, o373⟩ := Own.retag (k' := 43) o371 (by decide) (by decide)
     rw [← e2]
     have F59 := F58.step h2 (by decide); have o374 := OwnP.keepL o364 (h2.toL (L := [62]) (by simp)) (by decide) (by decide); have o375 := ChnU.keepL o365 (h2.toL (L := [62]) (by simp)) (by decide) (by decide); have o376 := Own.keepL o366 (h2.toL (L := [62]) (by simp)) (by decide) (by decide); have o377 := OwnP.keepL o367 (h2.toL (L := [62]) (by simp)) (by decide) (by decide); have o378 := ChnU.keepL o368 (h2.toL (L := [62]) (by simp)) (by decide) (by decide); have o379 := Own.keepL o369 (h2.toL (L := [62]) (by simp)) (by decide) (by decide); have o380 := OwnP.keepL o370 (h2.toL (L := [62]) (by simp)) (by decide) (by decide); have o381 := OwnM.keepL o372 (h2.toL (L := [62]) (by simp)) (by decide) (by decide); have o382 := Own.keepL o363 (h2.toL (L := [62]) (by simp)) (by decide) (by decide); have q330 := Ty.up (Ty.val x8) (h2.le (by decide)) q328
     have q331 := Ty.up (Ty.int (0 : Int)) (h2.le (by decide)) q329
     exact retL2 rfl ok56 F59 ⟨g5, F, g6, g7, g8, g9, g10, x8, x9, x10, x7, (hasT2 q330 q331), (ownp_cell 2 (Ty.lst Ty.ints (g5)) o380 rfl (fun _ _ h => (cvt (by (first | rfl | omega | (simp_all; done) | (simp_all; omega))) h))), o382, o373, o381, (by exact hE), (by exact hF), (by exact hlm), (by exact hp4), (by exact hp5), (by exact hp6)⟩


end Go.Proofs.Ytkjifbgofckfeaa
