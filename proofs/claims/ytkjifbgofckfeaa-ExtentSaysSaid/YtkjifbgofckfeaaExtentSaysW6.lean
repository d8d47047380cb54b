/- The functions that the law ExtentSays reaches, each by its contract. Part 6. -/
import Derived.Test.YtkjifbgofckfeaaExtentSaysW5
namespace Go.Proofs.Ytkjifbgofckfeaa
open Go.KL

set_option maxHeartbeats 4000000 in
set_option maxRecDepth 100000 in
theorem wSets_fn (E : List (List Int)) (pm : Value) (X : List Int) (Y : List Int) (p : Nat → Nat) (σ : GW) (hlow : Low [] σ) (v0 : Value) (hv0 : Ty.has (Ty.ref [(Ty.lst Ty.ints E), (Ty.val pm), (Ty.lst Ty.int X), (Ty.lst Ty.int Y)]) σ v0)  (hp : PermN E.length p) (hXl : X.length = E.length) (hX : ∀ i, i < E.length → 0 ≤ X.getD i 0 ∧ X.getD i 0 < E.length) (hYl : Y.length = E.length) (hY : ∀ i, i < E.length → 0 ≤ Y.getD i 0 ∧ Y.getD i 0 < E.length) (hpX : ∀ i, i < E.length → (backL Y E.length E.length).getD (X.getD i 0).toNat 0 = (p i : Int)) (hE : E.length ≤ 5040) :
    FnL Try.prog 69 #[v0] σ [] (fun v τ => ∃ (Q : (List (List Int))), (Ty.has (Ty.lst Ty.ints Q) τ v) ∧ (QsP p E.length Q)) := by
 refine fn_introL hlow Try.func69 rfl Try.ntmps69 (Nat.le_of_ble_eq_true rfl) (fun a0 F0 ok0 hargs => ?_)
 have p0 := pB (hargs 0 _ rfl) hv0
 clear hargs; refine wp_seq ?_
 refine gI a0 σ ok0 (gC (Ty.val (Value.slice none 0 0)) (gE ok0 fun a1 s1 ok1 D1 => ?_)); have q1 := D1.kt p0 rfl; refine tn (wp_seq ?_)
 refine gI a1 s1 ok1 (gM q1 (gS rfl (fun A B G H I d0 => rP (y_nilr (ed d0 rfl rfl rfl))) (gS rfl (fun A B G H I d0 => rP (y_field Try.fld103_0 Try.inf24 (by decide) (ed d0 rfl rfl rfl) rfl)) (gS rfl (fun A B G H I d0 => rP (y_load Try.underlying24 rfl (ed d0 rfl rfl rfl) rfl)) (gS rfl (fun A B G H I d0 => rP (y_len Try.underlying24 (ed d0 rfl rfl rfl))) (gR (Pr.own 5 3 1 (List.length E) (List.map Ty.int (List.replicate (List.length E) 0))) rfl (by intro A B G H I d0 d1; have e4 := ed d0 rfl rfl rfl; exact rP ((y_make (k := 5) (T := Ty.int 0) (n := (List.length E)) Try.underlying22 Try.inf3 rfl (fun _ => rfl) e4 e4 (by omega) (by omega)).mono (fun _ _ h => cvo (by simp) (by simp) h))) (gE2 ok1 fun a2 s2 ok2 D2 => ?_)))))))
 obtain ⟨x1, hx1⟩ : ∃ x, a2.eval (.tmp 17) = x := ⟨_, rfl⟩
 have q3 : At (Ty.val x1) s2 a2 (.tmp 17) := hx1
 have o1 := al2 (R := (Pr.own 5 3 1 (List.length E) (List.map Ty.int (List.replicate (List.length E) 0)))) hx1 (D2.done 5 (by decide))
 refine tL ok2 (Yld.toL (y_as q3)) fun a3 s3 hs1 ok3 r1 sm1 => ?_
 have F3 := ((F0.step0 D1.stp).step0 D2.stp).stepL hs1 (by decide); have q4 := kpL hs1 (by decide) (sm1 0 (by decide)) (D2.kt q1 rfl); have o2 := Own.keepL o1 hs1 (by decide) (by decide)
 have q5 : At (Ty.val x1) s3 a3 (.tmp 3) := r1
 clear r1; refine wpList_nil (tn (wp_seq (wp_seq ?_)))
 refine gI a3 s3 ok3 (gM q4 (gS rfl (fun A B G H I d0 => rP (y_nilr (ed d0 rfl rfl rfl))) (gS rfl (fun A B G H I d0 => rP (y_field Try.fld103_2 Try.inf101 (by decide) (ed d0 rfl rfl rfl) rfl)) (gT (Ty.ref [(Ty.lst Ty.int Y)]) rfl (fun A B G H I d0 => rP (y_idxR (T := (Ty.lst Ty.int Y)) Try.underlying101 Try.inf22 (ed d0 rfl rfl rfl) rfl (by decide) (by decide) rfl)) (gS rfl (fun A B G H I d0 => rP (y_load Try.underlying22 rfl (ed d0 rfl rfl rfl) rfl)) (gS rfl (fun A B G H I d0 => rP (y_len Try.underlying22 (ed d0 rfl rfl rfl))) (gT (Ty.int (0 : Int)) rfl (fun A B G H I => rP (y_move rfl)) (gE ok3 fun a4 s4 ok4 D3 => ?_)))))))); have o3 := Own.k0 o2 D3.stp; have q8 := D3.dn 4 rfl rfl
 have b1 := sl_le q8
 refine tn (wp_block ?_)
 refine loop (fun n1 a5 w1 => ∃ (t1 : GW) (a : Nat) (x3_0 : Value), t1.w = w1 ∧ FromL [] σ t1 ∧ Ok 101 [] a5 ∧ At (Ty.nat a) t1 a5 (.tmp 24) ∧ At (Ty.val x3_0) t1 a5 (.tmp 3) ∧ At (Ty.ref [(Ty.lst Ty.ints E), (Ty.val pm), (Ty.lst Ty.int X), (Ty.lst Ty.int Y)]) t1 a5 (.tmp 0) ∧ At (Ty.lst Ty.int Y) t1 a5 (.tmp 22) ∧ At (Ty.nat (List.length Y)) t1 a5 (.tmp 23) ∧ Own t1 5 3 1 x3_0 (List.length (backL Y E.length a)) (List.map Ty.int (backL Y E.length a)) ∧ (a ≤ Y.length) ∧ n1 = Y.length - a) (Y.length - (0)) ?_ ?_
 ·
  exact ⟨s4, 0, x1, rfl, (F3.step0 D3.stp), ok4, (cvi (by (first | rfl | omega | (simp_all; done) | (simp_all; omega))) (D3.dn 6 rfl rfl)), (D3.kt q5 rfl), (D3.kt q4 rfl), q8, (D3.dn 5 rfl rfl), (cvo (by (first | rfl | simp [backL])) (by (first | rfl | simp [backL])) o3), by omega, rfl⟩
 ·
  rintro n2 a6 w2 ⟨t2, a, x3_0, rfl, F5, ok5, q11, q12, q13, q14, q15, o4, ha, rfl⟩
  have hbl := backL_len Y E.length a
  have hYa := hY a
  refine wp_seq ?_
  refine gI a6 t2 ok5 (gS rfl (fun A B G H I => rP (y_lss (kp (I 24 rfl) G q11) (kp (I 23 rfl) G q15))) (gE ok5 fun a7 s5 ok6 D4 => ?_)); have F6 := F5.step0 D4.stp; have q16 := D4.kt q11 rfl; have q17 := D4.kt q12 rfl; have q18 := D4.kt q13 rfl; have q19 := D4.kt q14 rfl; have o5 := Own.k0 o4 D4.stp; refine tn (wp_seq ?_)
  refine cond_p (p := (((a : Nat) : Int) < (((List.length Y) : Nat) : Int))) (D4.dn 0 rfl rfl) (fun c1 => ?_) (fun c1 => ?_)
  ·
   refine wp_skip (tn (wp_seq (wp_block (wp_seq ?_))))
   refine gI a7 s5 ok6 (gM q16 (gT (Ty.ref [(Ty.int (Y.getD a 0))]) rfl (fun A B G H I => rP (y_index1 Try.underlying22 Try.inf3 (kp (I 22 rfl) G q19) (kp (I 24 rfl) G q16) (by omega) (lst_get Ty.int Y 0 a (by omega)))) (gS rfl (fun A B G H I d0 => rP (y_load Try.underlying3 rfl (ed d0 rfl rfl rfl) rfl)) (gB 0 (gB 0 (gE ok6 fun a8 s6 ok7 D5 => ?_)))))); have q23 := D5.kt q17 rfl; have o6 := Own.k0 o5 D5.stp; refine tn ?_
   refine gI a8 s6 ok7 (gM q23 (gM (D5.dn 4 rfl rfl) (gM (D5.dn 3 rfl rfl) (gT (Ty.val (cellPtr x3_0 ((Y.getD a 0)).toNat)) rfl (fun A B G H I d0 d1 d2 d3 d4 => rP (own_index1 (i := (Y.getD a 0)) Try.underlying22 Try.inf3 (Own.k0 o6 G) (ed d0 rfl rfl rfl) (ed d1 rfl rfl rfl) (by omega) (by omega))) (gE2 ok7 fun a9 s7 ok8 D6 => ?_))))); have o7 := Own.k0 o6 D6.stp
   refine tailL0 (L := [5]) (R := (fun _ τ => Own τ 5 3 1 x3_0 (List.length (backL Y E.length a)) ((List.map Ty.int (backL Y E.length a)).set ((Y.getD a 0)).toNat (Ty.nat a)))) rfl rfl (YldM.toL (m_store Try.inf3 (by decide) o7 (D6.dn 3 (by decide) rfl rfl) (by simp only [List.length_map, List.length_set]; omega) (D6.dn 2 (by decide) rfl rfl) (one_val rfl))) (fun v1 s8 hs2 r2 => ?_)
   have F9 := ((F6.step0 D5.stp).step0 D6.stp).stepL hs2 (by decide); have q36 := kpL hs2 (by decide) rfl (D6.kt (D5.kt q16 rfl) rfl); have q37 := kpL hs2 (by decide) rfl (D6.kt q23 rfl); have q38 := kpL hs2 (by decide) rfl (D6.kt (D5.kt q18 rfl) rfl); have q39 := kpL hs2 (by decide) rfl (D6.kt (D5.kt q19 rfl) rfl); have q40 := kpL hs2 (by decide) rfl (D6.kt (D5.kt (D4.kt q15 rfl) rfl) rfl)
   have o8 : Own s8 5 3 1 x3_0 (List.length ((backL Y E.length a).set ((Y.getD a 0)).toNat ((a : Nat) : Int))) (List.map Ty.int ((backL Y E.length a).set ((Y.getD a 0)).toNat ((a : Nat) : Int))) := (cvo (by simp) (by first | (simp; done) | (rw [List.map_set]; done) | (rw [List.map_set]; rfl)) r2)
   clear r2; refine wpList_nil (bn (tn ?_))
   refine gI a9 s8 ok8 (gT (Ty.nat (a + 1)) rfl (fun A B G H I => rP ((y_add (kp (I 24 rfl) G q36) rfl (w64 (by omega) (by omega))).mono (fun τ _ h => cvi (σ := τ) (by first | omega | exact (Int.natCast_mul _ _).symm) h))) (gS rfl (fun A B G H I d0 => rP (y_move (ed d0 rfl rfl rfl))) (gE ok8 fun a10 s9 ok9 D7 => ?_))); have o9 := Own.k0 o8 D7.stp
   exact tn ⟨Y.length - ((a+1)), by omega, s9, (a+1), x3_0, rfl, (F9.step0 D7.stp), ok9, (cvi (by (first | rfl | omega | (simp_all; done) | (simp_all; omega))) (D7.dn 1 rfl rfl)), (D7.kt q37 rfl), (D7.kt q38 rfl), (D7.kt q39 rfl), (D7.kt q40 rfl), (cvo (by (first | rfl | simp)) (by (first | rfl | simp)) o9), by omega, rfl⟩
  ·
   have ea : a = E.length := (by omega); have hbl2 := backL_len Y E.length E.length
   refine wp_exit (tx (tx (bx (tn (wp_seq ?_)))))
   refine gI a7 s5 ok6 (gM q18 (gS rfl (fun A B G H I d0 => rP (y_nilr (ed d0 rfl rfl rfl))) (gS rfl (fun A B G H I d0 => rP (y_field Try.fld103_0 Try.inf24 (by decide) (ed d0 rfl rfl rfl) rfl)) (gS rfl (fun A B G H I d0 => rP (y_load Try.underlying24 rfl (ed d0 rfl rfl rfl) rfl)) (gS rfl (fun A B G H I d0 => rP (y_len Try.underlying24 (ed d0 rfl rfl rfl))) (gR (Pr.own 6 3 1 (List.length E) (List.map Ty.int (List.replicate (List.length E) 0))) rfl (by intro A B G H I d0 d1; have e4 := ed d0 rfl rfl rfl; exact rP ((y_make (k := 6) (T := Ty.int 0) (n := (List.length E)) Try.underlying22 Try.inf3 rfl (fun _ => rfl) e4 e4 (by omega) (by omega)).mono (fun _ _ h => cvo (by simp) (by simp) h))) (gE2 ok6 fun a11 s10 ok10 D8 => ?_))))))); have o10 := Own.k0 o5 D8.stp
   obtain ⟨x2, hx2⟩ : ∃ x, a11.eval (.tmp 39) = x := ⟨_, rfl⟩
   have q49 : At (Ty.val x2) s10 a11 (.tmp 39) := hx2
   have o11 := al2 (R := (Pr.own 6 3 1 (List.length E) (List.map Ty.int (List.replicate (List.length E) 0)))) hx2 (D8.done 5 (by decide))
   refine tL ok10 (Yld.toL (y_as q49)) fun a12 s11 hs3 ok11 r3 sm2 => ?_
   have F12 := (F6.step0 D8.stp).stepL hs3 (by decide); have q50 := kpL hs3 (by decide) (sm2 3 (by decide)) (D8.kt q17 rfl); have q51 := kpL hs3 (by decide) (sm2 0 (by decide)) (D8.kt q18 rfl); have o12 := Own.keepL o10 hs3 (by decide) (by decide); have o13 := Own.keepL o11 hs3 (by decide) (by decide)
   have q52 : At (Ty.val x2) s11 a12 (.tmp 6) := r3
   clear r3; refine wpList_nil (tn (wp_seq ?_))
   refine gI a12 s11 ok11 (gC (Ty.val (Value.slice none 0 0)) (gE ok11 fun a13 s12 ok12 D9 => ?_)); have q54 := D9.kt q51 rfl; have o14 := Own.k0 o12 D9.stp; have o15 := Own.k0 o13 D9.stp; refine tn (wp_seq (wp_seq ?_))
   refine gI a13 s12 ok12 (gM q54 (gS rfl (fun A B G H I d0 => rP (y_nilr (ed d0 rfl rfl rfl))) (gS rfl (fun A B G H I d0 => rP (y_field Try.fld103_0 Try.inf24 (by decide) (ed d0 rfl rfl rfl) rfl)) (gS rfl (fun A B G H I d0 => rP (y_load Try.underlying24 rfl (ed d0 rfl rfl rfl) rfl)) (gS rfl (fun A B G H I d0 => rP (y_len Try.underlying24 (ed d0 rfl rfl rfl))) (gT (Ty.int (0 : Int)) rfl (fun A B G H I => rP (y_move rfl)) (gE ok12 fun a14 s13 ok13 D10 => ?_))))))); have o16 := Own.k0 o14 D10.stp; have o17 := Own.k0 o15 D10.stp; refine tn (wp_block ?_)
   have o18 : Own s13 7 22 1 (Value.slice none 0 0) 0 (List.map Ty.val ([] : List Value)) := Own.nil _ _ _ _
   refine loop (fun n3 a15 w3 => ∃ (t3 : GW) (i : Nat) (l : (List Int)) (m : Nat) (x6_1 x7_1 : Value), t3.w = w3 ∧ FromL [] σ t3 ∧ Ok 101 [] a15 ∧ At (Ty.nat i) t3 a15 (.tmp 45) ∧ At (Ty.val x6_1) t3 a15 (.tmp 6) ∧ At (Ty.val x7_1) t3 a15 (.tmp 7) ∧ At (Ty.val x3_0) t3 a15 (.tmp 3) ∧ At (Ty.ref [(Ty.lst Ty.ints E), (Ty.val pm), (Ty.lst Ty.int X), (Ty.lst Ty.int Y)]) t3 a15 (.tmp 0) ∧ At (Ty.nat (List.length E)) t3 a15 (.tmp 44) ∧ Own t3 6 3 1 x6_1 (List.length l) (List.map Ty.int l) ∧ Own t3 7 22 1 x7_1 m (List.map Ty.val (List.replicate m (Value.slice none 0 0))) ∧ Own t3 5 3 1 x3_0 (List.length (backL Y E.length a)) (List.map Ty.int (backL Y E.length a)) ∧ (i ≤ E.length) ∧ (MkI p E.length l i m) ∧ n3 = E.length - i) (E.length - (0)) ?_ ?_
   ·
    exact ⟨s13, 0, (List.replicate E.length 0), 0, x2, (Value.slice none 0 0), rfl, ((F12.step0 D9.stp).step0 D10.stp), ok13, (cvi (by (first | rfl | omega | (simp_all; done) | (simp_all; omega))) (D10.dn 5 rfl rfl)), (D10.kt (D9.kt q52 rfl) rfl), (D10.kt (D9.dn 0 rfl rfl) rfl), (D10.kt (D9.kt q50 rfl) rfl), (D10.kt q54 rfl), (D10.dn 4 rfl rfl), (cvo (by (first | rfl | simp)) (by (first | rfl | simp)) o17), (cvo (by (first | rfl | simp)) (by (first | rfl | simp)) o18), o16, by omega, MkI.start, rfl⟩
   ·
    rintro n4 a16 w4 ⟨t4, i, l, m, x6_1, x7_1, rfl, F15, ok14, q63, q64, q65, q66, q67, q68, o19, o20, o21, hi, hM, rfl⟩
    have hll := hM.len
    have hmi := hM.mi
    refine wp_seq ?_
    refine gI a16 t4 ok14 (gS rfl (fun A B G H I => rP (y_lss (kp (I 45 rfl) G q63) (kp (I 44 rfl) G q68))) (gE ok14 fun a17 s14 ok15 D11 => ?_)); have F16 := F15.step0 D11.stp; have q69 := D11.kt q63 rfl; have q70 := D11.kt q64 rfl; have q71 := D11.kt q65 rfl; have o22 := Own.k0 o19 D11.stp; have o23 := Own.k0 o20 D11.stp; have o24 := Own.k0 o21 D11.stp; refine tn (wp_seq ?_)
    refine cond_p (p := (((i : Nat) : Int) < (((List.length E) : Nat) : Int))) (D11.dn 0 rfl rfl) (fun c2 => ?_) (fun c2 => ?_)
    ·
     refine wp_skip (tn (wp_seq (wp_block (wp_seq ?_))))
     refine gI a17 s14 ok15 (gM q69 (gB 0 (gE ok15 fun a18 s15 ok16 D12 => ?_))); have q77 := D12.kt q70 rfl; have o25 := Own.k0 o22 D12.stp; have o26 := Own.k0 o23 D12.stp; have o27 := Own.k0 o24 D12.stp; have q82 := D12.dn 1 rfl rfl; refine tn (wp_seq (wp_seq ?_))
     refine gI a18 s15 ok16 (gM q77 (gM q82 (gT (Ty.val (cellPtr x6_1 i)) rfl (fun A B G H I d0 d1 => rP (own_index1 (i := ((i : Nat) : Int)) Try.underlying22 Try.inf3 (Own.k0 o25 G) (ed d0 rfl rfl rfl) (ed d1 rfl rfl rfl) (by omega) (by omega))) (gS rfl (fun A B G H I d0 => rP (own_load Try.underlying3 rfl (Own.k0 o25 G) (ed d0 rfl rfl rfl) (lst_get Ty.int l 0 i (by omega)))) (gS rfl (fun A B G H I d0 => rP (y_gtr (ed d0 rfl rfl rfl) rfl)) (gE ok16 fun a19 s16 ok17 D13 => ?_)))))); have F18 := (F16.step0 D12.stp).step0 D13.stp; have q83 := D13.kt (D12.kt q69 rfl) rfl; have q84 := D13.kt q77 rfl; have q85 := D13.kt (D12.kt q71 rfl) rfl; have q86 := D13.kt (D12.kt (D11.kt q66 rfl) rfl) rfl; have q87 := D13.kt (D12.kt (D11.kt q67 rfl) rfl) rfl; have q88 := D13.kt (D12.kt (D11.kt q68 rfl) rfl) rfl; have o28 := Own.k0 o25 D13.stp; have o29 := Own.k0 o26 D13.stp; have o30 := Own.k0 o27 D13.stp; refine tn ?_
     refine cond_p (p := ((0 : Int) < (l.getD i 0))) (D13.dn 4 rfl rfl) (fun c3 => ?_) (fun c3 => ?_)
     ·
      refine wp_exit (tx (bx (tn ?_)))
      refine gI a19 s16 ok17 (gT (Ty.nat (i + 1)) rfl (fun A B G H I => rP ((y_add (kp (I 45 rfl) G q83) rfl (w64 (by omega) (by omega))).mono (fun τ _ h => cvi (σ := τ) (by first | omega | exact (Int.natCast_mul _ _).symm) h))) (gS rfl (fun A B G H I d0 => rP (y_move (ed d0 rfl rfl rfl))) (gE ok17 fun a20 s17 ok18 D14 => ?_))); have o31 := Own.k0 o28 D14.stp; have o32 := Own.k0 o29 D14.stp; have o33 := Own.k0 o30 D14.stp
      exact tn ⟨E.length - ((i+1)), by omega, s17, (i+1), l, m, x6_1, x7_1, rfl, (F18.step0 D14.stp), ok18, (cvi (by (first | rfl | omega | (simp_all; done) | (simp_all; omega))) (D14.dn 1 rfl rfl)), (D14.kt q84 rfl), (D14.kt q85 rfl), (D14.kt q86 rfl), (D14.kt q87 rfl), (D14.kt q88 rfl), o31, o32, o33, by omega, hM.skip (by omega) c3, rfl⟩
     ·
      refine wp_skip (tn (wp_seq (wp_seq ?_)))
      refine gI a19 s16 ok17 (gM (D13.kt q82 rfl) (gB 0 (gE ok17 fun a21 s18 ok19 D15 => ?_))); have o34 := Own.k0 o28 D15.stp; have o35 := Own.k0 o29 D15.stp; have o36 := Own.k0 o30 D15.stp; refine tn (wp_block ?_)
      refine loop (fun n5 a22 w5 => ∃ (t5 : GW) (t : Nat) (k : Nat) (l2 : (List Int)) (x6_2 : Value), t5.w = w5 ∧ FromL [] σ t5 ∧ Ok 101 [] a22 ∧ At (Ty.nat k) t5 a22 (.tmp 9) ∧ At (Ty.val x6_2) t5 a22 (.tmp 6) ∧ At (Ty.nat i) t5 a22 (.tmp 45) ∧ At (Ty.val x7_1) t5 a22 (.tmp 7) ∧ At (Ty.val x3_0) t5 a22 (.tmp 3) ∧ At (Ty.ref [(Ty.lst Ty.ints E), (Ty.val pm), (Ty.lst Ty.int X), (Ty.lst Ty.int Y)]) t5 a22 (.tmp 0) ∧ At (Ty.nat (List.length E)) t5 a22 (.tmp 44) ∧ Own t5 6 3 1 x6_2 (List.length l2) (List.map Ty.int l2) ∧ Own t5 7 22 1 x7_1 m (List.map Ty.val (List.replicate m (Value.slice none 0 0))) ∧ Own t5 5 3 1 x3_0 (List.length (backL Y E.length a)) (List.map Ty.int (backL Y E.length a)) ∧ (MkP p E.length l i m t k l2) ∧ n5 = E.length - t) (E.length - (0)) ?_ ?_
      ·
       exact ⟨s18, 0, i, l, x6_1, rfl, (F18.step0 D15.stp), ok19, (cvi (by (first | rfl | omega | (simp_all; done) | (simp_all; omega))) (D15.dn 1 rfl rfl)), (D15.kt q84 rfl), (D15.kt q83 rfl), (D15.kt q85 rfl), (D15.kt q86 rfl), (D15.kt q87 rfl), (D15.kt q88 rfl), (cvo (by (simp)) (by (simp)) o34), o35, o36, MkP.start hll, rfl⟩
      ·
       rintro n6 a23 w6 ⟨t6, t, k, l2, x6_2, rfl, F21, ok20, q104, q105, q106, q107, q108, q109, q110, o37, o38, o39, hP, rfl⟩
       have hl2 := hP.len
       have hkN := hP.kN hp (by omega)
       have hXk := hX k hkN
       refine wp_seq (wp_seq ?_)
       refine gI a23 t6 ok20 (gM q105 (gM q104 (gT (Ty.val (cellPtr x6_2 k)) rfl (fun A B G H I d0 d1 => rP (own_index1 (i := ((k : Nat) : Int)) Try.underlying22 Try.inf3 (Own.k0 o37 G) (ed d0 rfl rfl rfl) (ed d1 rfl rfl rfl) (by omega) (by omega))) (gS rfl (fun A B G H I d0 => rP (own_load Try.underlying3 rfl (Own.k0 o37 G) (ed d0 rfl rfl rfl) (lst_get Ty.int l2 0 k (by omega)))) (gS rfl (fun A B G H I d0 => rP (y_eql (ed d0 rfl rfl rfl) rfl)) (gE ok20 fun a24 s19 ok21 D16 => ?_)))))); have F22 := F21.step0 D16.stp; have q111 := D16.kt q104 rfl; have q112 := D16.kt q105 rfl; have q113 := D16.kt q106 rfl; have q114 := D16.kt q107 rfl; have q115 := D16.kt q108 rfl; have q116 := D16.kt q109 rfl; have q117 := D16.kt q110 rfl; have o40 := Own.k0 o37 D16.stp; have o41 := Own.k0 o38 D16.stp; have o42 := Own.k0 o39 D16.stp; refine tn ?_
       refine cond_p (p := ((l2.getD k 0) = (0 : Int))) (D16.dn 4 rfl rfl) (fun c4 => ?_) (fun c4 => ?_)
       ·
        have hP2 := hP.step hp (by omega) c4; have hft := hP2.few hp (by omega)
        refine wp_skip (tn (wp_seq (wp_block ?_)))
        refine gI a24 s19 ok21 (gM q112 (gM q111 (gM q114 (gT (Ty.nat m) rfl (fun A B G H I d0 => rP (own_len Try.underlying24 (al (R := (Pr.own 7 22 1 m (List.map Ty.val (List.replicate m (Value.slice none 0 0))))) (ed d0 rfl rfl rfl) (Own.k0 o41 G)))) (gT (Ty.nat (m + 1)) rfl (fun A B G H I d0 => rP ((y_add (ed d0 rfl rfl rfl) rfl (w64 (by omega) (by omega))).mono (fun τ _ h => cvi (σ := τ) (by first | omega | exact (Int.natCast_mul _ _).symm) h))) (gT (Ty.val (cellPtr x6_2 k)) rfl (fun A B G H I d0 d1 d2 d3 d4 d5 d6 => rP (own_index1 (i := ((k : Nat) : Int)) Try.underlying22 Try.inf3 (Own.k0 o40 G) (ed d0 rfl rfl rfl) (ed d1 rfl rfl rfl) (by omega) (by omega))) (gE2 ok21 fun a25 s20 ok22 D17 => ?_))))))); have o43 := Own.k0 o40 D17.stp; have o44 := Own.k0 o41 D17.stp; have o45 := Own.k0 o42 D17.stp
        refine tailL0 (L := [6]) (R := (fun _ τ => Own τ 6 3 1 x6_2 (List.length l2) ((List.map Ty.int l2).set k (Ty.nat (m + 1))))) rfl rfl (YldM.toL (m_store Try.inf3 (by decide) o43 (D17.dn 5 (by decide) rfl rfl) (by simp only [List.length_map, List.length_set]; omega) (D17.dn 4 (by decide) rfl rfl) (one_val rfl))) (fun v2 s21 hs4 r4 => ?_)
        have F24 := (F22.step0 D17.stp).stepL hs4 (by decide); have q128 := kpL hs4 (by decide) rfl (D17.kt q111 rfl); have q129 := kpL hs4 (by decide) rfl (D17.kt q112 rfl); have q130 := kpL hs4 (by decide) rfl (D17.kt q113 rfl); have q131 := kpL hs4 (by decide) rfl (D17.kt q114 rfl); have q132 := kpL hs4 (by decide) rfl (D17.kt q115 rfl); have q133 := kpL hs4 (by decide) rfl (D17.kt q116 rfl); have q134 := kpL hs4 (by decide) rfl (D17.kt q117 rfl); have o47 := Own.keepL o44 hs4 (by decide) (by decide); have o48 := Own.keepL o45 hs4 (by decide) (by decide)
        have o46 : Own s21 6 3 1 x6_2 (List.length (l2.set k (((m + 1) : Nat) : Int))) (List.map Ty.int (l2.set k (((m + 1) : Nat) : Int))) := (cvo (by simp) (by first | (simp; done) | (rw [List.map_set]; done) | (rw [List.map_set]; rfl)) r4)
        clear r4; refine wpList_nil (bn (tn ?_))
        refine gI a25 s21 ok22 (gM q132 (gM q133 (gS rfl (fun A B G H I d0 => rP (y_nilr (ed d0 rfl rfl rfl))) (gS rfl (fun A B G H I d0 => rP (y_field Try.fld103_2 Try.inf101 (by decide) (ed d0 rfl rfl rfl) rfl)) (gT (Ty.ref [(Ty.lst Ty.int X)]) rfl (fun A B G H I d0 => rP (y_idxR (T := (Ty.lst Ty.int X)) Try.underlying101 Try.inf22 (ed d0 rfl rfl rfl) rfl (by decide) (by decide) rfl)) (gS rfl (fun A B G H I d0 => rP (y_load Try.underlying22 rfl (ed d0 rfl rfl rfl) rfl)) (gM q128 (gT (Ty.ref [(Ty.int (X.getD k 0))]) rfl (fun A B G H I d0 d1 => rP (y_index1 Try.underlying22 Try.inf3 (ed d0 rfl rfl rfl) (ed d1 rfl rfl rfl) (by omega) (lst_get Ty.int X 0 k (by omega)))) (gS rfl (fun A B G H I d0 => rP (y_load Try.underlying3 rfl (ed d0 rfl rfl rfl) rfl)) (gT (Ty.val (cellPtr x3_0 ((X.getD k 0)).toNat)) rfl (fun A B G H I d0 d1 => rP (own_index1 (i := (X.getD k 0)) Try.underlying22 Try.inf3 (Own.k0 o48 G) (ed d0 rfl rfl rfl) (ed d1 rfl rfl rfl) (by omega) (by omega))) (gS rfl (fun A B G H I d0 => rP (own_load Try.underlying3 rfl (Own.k0 o48 G) (ed d0 rfl rfl rfl) (lst_get Ty.int (backL Y E.length a) 0 ((X.getD k 0)).toNat (by omega)))) (gB 0 (gE ok22 fun a26 s22 ok23 D18 => ?_))))))))))))); have o49 := Own.k0 o47 D18.stp; have o50 := Own.k0 o48 D18.stp; have o51 := Own.k0 o46 D18.stp
        have q143 : At (Ty.nat (p k)) s22 a26 (.tmp 9) := (cvi (by (rw [ea, hpX k hkN])) (D18.dn 11 rfl rfl))
        exact tn ⟨E.length - ((t + 1)), by omega, s22, (t + 1), (p k), (l2.set k ((m : Int) + 1)), x6_2, rfl, (F24.step0 D18.stp), ok23, (cvi (by (first | rfl | omega | (simp_all; done) | (simp_all; omega))) q143), (D18.kt q129 rfl), (D18.kt q130 rfl), (D18.kt q131 rfl), (D18.kt q132 rfl), (D18.kt q133 rfl), (D18.kt q134 rfl), (cvo (by (first | rfl | simp)) (by (first | rfl | simp)) o51), o49, o50, hP2, rfl⟩
       ·
        have hM2 := hP.done hp (by omega) hM (by have h_ := (hM.lo i (by omega)).1; omega) c4
        refine wp_exit (tx (tx (bx (tn ?_))))
        refine gI a24 s19 ok21 (gM q114 (gT (Ty.sl 1 1 [(Ty.val (Value.slice none 0 0))]) rfl (fun A B G H I => rP (y_build1o Try.underlying24 Try.inf22 rfl (one_val rfl) rfl)) (gE2 ok21 fun a27 s23 ok24 D19 => ?_))); have o52 := Own.k0 o40 D19.stp; have o53 := Own.k0 o41 D19.stp; have o54 := Own.k0 o42 D19.stp
        have q150 : At (Ty.val x7_1) s23 a27 (.tmp 76) := D19.done 0 (by decide)
        have q151 := D19.dn 1 (by decide) rfl rfl
        have b2 := sl_le q151
        refine tL ok24 (YldM.toL (m_append Try.underlying24 Try.inf22 (by decide) rfl (by decide) (al (R := (Pr.own 7 22 1 m (List.map Ty.val (List.replicate m (Value.slice none 0 0))))) q150 o53) q151 (by intro U hU; simp at hU; subst hU; exact one_val rfl) (by omega) (by omega))) fun a28 s24 hs5 ok25 r5 sm3 => ?_
        have F27 := (F22.step0 D19.stp).stepL hs5 (by decide); have q152 := kpL hs5 (by decide) (sm3 6 (by decide)) (D19.kt q112 rfl); have q153 := kpL hs5 (by decide) (sm3 45 (by decide)) (D19.kt q113 rfl); have q154 := kpL hs5 (by decide) (sm3 7 (by decide)) (D19.kt q114 rfl); have q155 := kpL hs5 (by decide) (sm3 3 (by decide)) (D19.kt q115 rfl); have q156 := kpL hs5 (by decide) (sm3 0 (by decide)) (D19.kt q116 rfl); have q157 := kpL hs5 (by decide) (sm3 44 (by decide)) (D19.kt q117 rfl); have o56 := Own.keepL o52 hs5 (by decide) (by decide); have o57 := Own.keepL o54 hs5 (by decide) (by decide)
        obtain ⟨x3, hx3⟩ : ∃ x, a28.eval (.tmp 78) = x := ⟨_, rfl⟩
        have q158 : At (Ty.val x3) s24 a28 (.tmp 78) := hx3
        have o55 := al2 (R := (Pr.own 7 22 1 (List.length ((List.replicate m (Value.slice none 0 0)) ++ [(Value.slice none 0 0)])) (List.map Ty.val ((List.replicate m (Value.slice none 0 0)) ++ [(Value.slice none 0 0)])))) hx3 (cvo (by first | (simp; done) | (simp; omega)) (by first | (rw [List.map_append]; rfl) | simp) r5)
        clear r5
        refine tL ok25 (Yld.toL (y_as q158)) fun a29 s25 hs6 ok26 r6 sm4 => ?_
        have F28 := F27.stepL hs6 (by decide); have q159 := kpL hs6 (by decide) (sm4 6 (by decide)) q152; have q160 := kpL hs6 (by decide) (sm4 45 (by decide)) q153; have q161 := kpL hs6 (by decide) (sm4 3 (by decide)) q155; have q162 := kpL hs6 (by decide) (sm4 0 (by decide)) q156; have q163 := kpL hs6 (by decide) (sm4 44 (by decide)) q157; have o58 := Own.keepL o56 hs6 (by decide) (by decide); have o59 := Own.keepL o57 hs6 (by decide) (by decide); have o60 := Own.keepL o55 hs6 (by decide) (by decide)
        have q164 : At (Ty.val x3) s25 a29 (.tmp 7) := r6
        clear r6; refine wpList_nil (bn (tn ?_))
        refine gI a29 s25 ok26 (gT (Ty.nat (i + 1)) rfl (fun A B G H I => rP ((y_add (kp (I 45 rfl) G q160) rfl (w64 (by omega) (by omega))).mono (fun τ _ h => cvi (σ := τ) (by first | omega | exact (Int.natCast_mul _ _).symm) h))) (gS rfl (fun A B G H I d0 => rP (y_move (ed d0 rfl rfl rfl))) (gE ok26 fun a30 s26 ok27 D20 => ?_))); have o61 := Own.k0 o58 D20.stp; have o62 := Own.k0 o59 D20.stp; have o63 := Own.k0 o60 D20.stp
        exact tn ⟨E.length - ((i+1)), by omega, s26, (i+1), l2, (m + 1), x6_2, x3, rfl, (F28.step0 D20.stp), ok27, (cvi (by (first | rfl | omega | (simp_all; done) | (simp_all; omega))) (D20.dn 1 rfl rfl)), (D20.kt q159 rfl), (D20.kt q164 rfl), (D20.kt q161 rfl), (D20.kt q162 rfl), (D20.kt q163 rfl), (cvo (by (simp)) (by (simp)) o61), (cvo (by (first | (simp; done) | (simp [List.replicate_succ']))) (by (first | (simp; done) | (simp [List.replicate_succ']))) o63), o62, by omega, hM2, rfl⟩
    ·
     have ei : i = E.length := (by omega); have hMe : MkI p E.length l E.length m := (ei ▸ hM)
     refine wp_exit (tx (tx (bx (tn (wp_seq (wp_seq ?_))))))
     refine gI a17 s14 ok15 (gM q70 (gT (Ty.nat (List.length l)) rfl (fun A B G H I d0 => rP (own_len Try.underlying22 (al (R := (Pr.own 6 3 1 (List.length l) (List.map Ty.int l))) (ed d0 rfl rfl rfl) (Own.k0 o22 G)))) (gT (Ty.int (0 : Int)) rfl (fun A B G H I => rP (y_move rfl)) (gE ok15 fun a31 s27 ok28 D21 => ?_)))); have o64 := Own.k0 o22 D21.stp; have o65 := Own.k0 o23 D21.stp; have o66 := Own.k0 o24 D21.stp
     have q172 : At (Ty.val x6_1) s27 a31 (.tmp 80) := D21.done 0
     have o67 : RowsI s27 8 3 (List.replicate m (Value.slice none 0 0)) (List.replicate m []) := grid_0I _ _ _ _
     refine tn (wp_block ?_)
     refine loop (fun n7 a32 w7 => ∃ (t7 : GW) (e : Nat) (us : (List Value)) (x7_3 : Value), t7.w = w7 ∧ FromL [] σ t7 ∧ Ok 101 [] a32 ∧ At (Ty.nat e) t7 a32 (.tmp 82) ∧ At (Ty.val x7_3) t7 a32 (.tmp 7) ∧ At (Ty.val x6_1) t7 a32 (.tmp 80) ∧ At (Ty.nat (List.length l)) t7 a32 (.tmp 81) ∧ Own t7 7 22 1 x7_3 m (List.map Ty.val us) ∧ RowsI t7 8 3 us (grpTo l m e) ∧ Own t7 6 3 1 x6_1 (List.length l) (List.map Ty.int l) ∧ (e ≤ l.length) ∧ n7 = l.length - e) (l.length - (0)) ?_ ?_
     ·
      exact ⟨s27, 0, (List.replicate m (Value.slice none 0 0)), x7_1, rfl, (F16.step0 D21.stp), ok28, (cvi (by (first | rfl | omega | (simp_all; done) | (simp_all; omega))) (D21.dn 2 rfl rfl)), (D21.kt q71 rfl), q172, (D21.dn 1 rfl rfl), (cvo (by (first | rfl | simp)) (by (first | rfl | simp)) o65), (cvgI (by (first | rfl | rw [grpTo_zero])) (by (first | rfl | rw [grpTo_zero])) o67), o64, by omega, rfl⟩
     ·
      rintro n8 a33 w8 ⟨t8, e, us, x7_3, rfl, F31, ok29, q175, q176, q177, q178, o68, o69, o70, he, rfl⟩
      have hgl := grpTo_len (l := l) (m := m) (i := e)
      refine wp_seq ?_
      refine gI a33 t8 ok29 (gS rfl (fun A B G H I => rP (y_lss (kp (I 82 rfl) G q175) (kp (I 81 rfl) G q178))) (gE ok29 fun a34 s28 ok30 D22 => ?_)); have F32 := F31.step0 D22.stp; have q179 := D22.kt q175 rfl; have q180 := D22.kt q176 rfl; have q181 := D22.kt q177 rfl; have q182 := D22.kt q178 rfl; have o71 := Own.k0 o68 D22.stp; have o72 := RowsI.k0 o69 D22.stp; have o73 := Own.k0 o70 D22.stp; have q183 := D22.dn 0 rfl rfl; refine tn (wp_seq ?_)
      refine cond_p (p := (((e : Nat) : Int) < (((List.length l) : Nat) : Int))) q183 (fun c5 => ?_) (fun c5 => ?_)
      ·
       have hlb1 := hMe.r1 e (by omega); have hlb2 := (hMe.lo e (by omega)).2; have hgs := grpTo_set (l := l) (m := m) (i := e) (c := (l.getD e 0 - 1).toNat) hlb1 (by omega); have hge := grpTo_get (l := l) (m := m) (i := e) (c := (l.getD e 0 - 1).toNat) (by omega); have hgl2 : ((grpTo l m e).getD (l.getD e 0 - 1).toNat []).length ≤ e := (by rw [hge]; exact idxs_len)
       refine wp_skip (tn (wp_seq (wp_block (wp_seq ?_))))
       refine gI a34 s28 ok30 (gM q179 (gT (Ty.val (cellPtr x6_1 e)) rfl (fun A B G H I => rP (own_index1 (i := ((e : Nat) : Int)) Try.underlying22 Try.inf3 (Own.k0 o73 G) (kp (I 80 rfl) G q181) (kp (I 82 rfl) G q179) (by omega) (by omega))) (gS rfl (fun A B G H I d0 => rP (own_load Try.underlying3 rfl (Own.k0 o73 G) (ed d0 rfl rfl rfl) (lst_get Ty.int l 0 e (by omega)))) (gB 0 (gB 0 (gE ok30 fun a35 s29 ok31 D23 => ?_)))))); have o74 := Own.k0 o71 D23.stp; have o75 := RowsI.k0 o72 D23.stp; have o76 := Own.k0 o73 D23.stp; refine tn ?_
       have hul1 := o75.1
       obtain ⟨t9, e1, h1, o77, o78⟩ := RowsI.focus o75 (i := (((l.getD e 0) - (1 : Int))).toNat) (by have h_ := o75.1; omega) (by decide) 9 (by decide)
       rw [← e1]
       have F34 := (F32.step0 D23.stp).step h1 (by decide)
       have q190 : At (Ty.nat e) t9 a35 (.tmp 82) := Ty.up _ (h1.le (by decide)) (D23.kt q179 rfl)
       have q191 : At (Ty.val x7_3) t9 a35 (.tmp 7) := Ty.up _ (h1.le (by decide)) (D23.kt q180 rfl)
       have q192 : At (Ty.val x6_1) t9 a35 (.tmp 80) := Ty.up _ (h1.le (by decide)) (D23.kt q181 rfl)
       have q193 : At (Ty.nat (List.length l)) t9 a35 (.tmp 81) := Ty.up _ (h1.le (by decide)) (D23.kt q182 rfl)
       have q194 : At (Ty.nat e) t9 a35 (.tmp 10) := Ty.up _ (h1.le (by decide)) (D23.dn 3 rfl rfl)
       have q195 : At (Ty.int (l.getD e 0)) t9 a35 (.tmp 11) := Ty.up _ (h1.le (by decide)) (D23.dn 4 rfl rfl)
       have o79 := Own.keepL o74 (h1.toL (L := [8]) (by simp)) (by decide) (by decide); have o80 := Own.keepL o76 (h1.toL (L := [8]) (by simp)) (by decide) (by decide)
       refine gI a35 t9 ok31 (gM q191 (gM q195 (gT (Ty.int ((l.getD e 0) - (1 : Int))) rfl (fun A B G H I d0 => rP (y_sub (ed d0 rfl rfl rfl) rfl (w64 (by omega) (by omega)))) (gM q191 (gM q195 (gT (Ty.int ((l.getD e 0) - (1 : Int))) rfl (fun A B G H I d0 => rP (y_sub (ed d0 rfl rfl rfl) rfl (w64 (by omega) (by omega)))) (gT (Ty.val (cellPtr x7_3 (((l.getD e 0) - (1 : Int))).toNat)) rfl (fun A B G H I d0 d1 => rP (own_index1 (i := ((l.getD e 0) - (1 : Int))) Try.underlying24 Try.inf22 (Own.k0 o79 G) (ed d0 rfl rfl rfl) (ed d1 rfl rfl rfl) (by omega) (by omega))) (gS rfl (fun A B G H I d0 => rP (own_load Try.underlying22 rfl (Own.k0 o79 G) (ed d0 rfl rfl rfl) (lst_get Ty.val us undef (((l.getD e 0) - (1 : Int))).toNat (by omega)))) (gM q194 (gT (Ty.sl 1 1 [(Ty.nat e)]) rfl (fun A B G H I d0 => rP (y_build1o Try.underlying22 Try.inf3 rfl (one_val rfl) (ed d0 rfl rfl rfl))) (gE2 ok31 fun a36 s30 ok32 D24 => ?_))))))))))); have o81 := Own.k0 o79 D24.stp; have o82 := Own.k0 o80 D24.stp; have o83 := Own.k0 o77 D24.stp; have o84 := RestI.k0 o78 D24.stp
       have q200 : At (Ty.val x7_3) s30 a36 (.tmp 87) := D24.done 0 (by decide)
       have q203 := D24.dn 9 (by decide) rfl rfl
       have b3 := sl_le q203
       refine tL ok32 (YldM.toL (m_append Try.underlying22 Try.inf3 (by decide) rfl (by decide) (al (R := (Pr.own 9 3 1 (List.length ((grpTo l m e).getD (((l.getD e 0) - (1 : Int))).toNat [])) (List.map Ty.int ((grpTo l m e).getD (((l.getD e 0) - (1 : Int))).toNat [])))) (D24.dn 7 (by decide) rfl rfl) o83) q203 (by intro U hU; simp at hU; subst hU; exact one_val rfl) (by omega) (by omega))) fun a37 s31 hs7 ok33 r7 sm5 => ?_
       have F36 := (F34.step0 D24.stp).stepL hs7 (by decide); have q204 := kpL hs7 (by decide) (sm5 82 (by decide)) (D24.kt q190 rfl); have q205 := kpL hs7 (by decide) (sm5 7 (by decide)) (D24.kt q191 rfl); have q206 := kpL hs7 (by decide) (sm5 80 (by decide)) (D24.kt q192 rfl); have q207 := kpL hs7 (by decide) (sm5 81 (by decide)) (D24.kt q193 rfl); have q208 := kpL hs7 (by decide) (sm5 87 (by decide)) q200; have q209 := kpL hs7 (by decide) (sm5 89 (by decide)) (D24.dn 2 (by decide) rfl rfl); have o86 := Own.keepL o81 hs7 (by decide) (by decide); have o87 := Own.keepL o82 hs7 (by decide) (by decide); have o88 := RestI.keepL o84 hs7 (by decide) (by decide)
       obtain ⟨x4, hx4⟩ : ∃ x, a37.eval (.tmp 97) = x := ⟨_, rfl⟩
       have q210 : At (Ty.val x4) s31 a37 (.tmp 97) := hx4
       have o85 := al2 (R := (Pr.own 9 3 1 (List.length (((grpTo l m e).getD (((l.getD e 0) - (1 : Int))).toNat []) ++ [((e : Nat) : Int)])) (List.map Ty.int (((grpTo l m e).getD (((l.getD e 0) - (1 : Int))).toNat []) ++ [((e : Nat) : Int)])))) hx4 (cvo (by simp) (by first | (rw [List.map_append]; rfl) | simp) r7)
       clear r7
       refine tL (R := (fun v τ => Pr.has (Ty.pr (Ty.val (cellPtr x7_3 (((l.getD e 0) - (1 : Int))).toNat))) τ v)) ok33 (Yld.toL (own_index1 (i := ((l.getD e 0) - (1 : Int))) Try.underlying24 Try.inf22 o86 q208 q209 (by omega) (by omega))) fun a38 s32 hs8 ok34 r8 sm6 => ?_
       have F37 := F36.stepL hs8 (by decide); have q211 := kpL hs8 (by decide) (sm6 82 (by decide)) q204; have q212 := kpL hs8 (by decide) (sm6 7 (by decide)) q205; have q213 := kpL hs8 (by decide) (sm6 80 (by decide)) q206; have q214 := kpL hs8 (by decide) (sm6 81 (by decide)) q207; have q215 := kpL hs8 (by decide) (sm6 97 (by decide)) q210; have o89 := Own.keepL o86 hs8 (by decide) (by decide); have o90 := Own.keepL o87 hs8 (by decide) (by decide); have o91 := RestI.keepL o88 hs8 (by decide) (by decide); have o92 := Own.keepL o85 hs8 (by decide) (by decide)
       have q216 : At (Ty.val (cellPtr x7_3 (((l.getD e 0) - (1 : Int))).toNat)) s32 a38 (.tmp 98) := r8
       clear r8
       refine tailL0 (L := [7]) (R := (fun _ τ => Own τ 7 22 1 x7_3 m ((List.map Ty.val us).set (((l.getD e 0) - (1 : Int))).toNat (Ty.val x4)))) rfl rfl (YldM.toL (m_store Try.inf22 (by decide) o89 q216 (by simp only [List.length_map, List.length_set]; omega) q215 (one_val (Own.one o92)))) (fun v3 s33 hs9 r9 => ?_)
       have F38 := F37.stepL hs9 (by decide); have q217 := kpL hs9 (by decide) rfl q211; have q218 := kpL hs9 (by decide) rfl q212; have q219 := kpL hs9 (by decide) rfl q213; have q220 := kpL hs9 (by decide) rfl q214; have o94 := Own.keepL o90 hs9 (by decide) (by decide); have o95 := RestI.keepL o91 hs9 (by decide) (by decide); have o96 := Own.keepL o92 hs9 (by decide) (by decide)
       have o93 : Own s33 7 22 1 x7_3 m (List.map Ty.val (us.set (((l.getD e 0) - (1 : Int))).toNat x4)) := (cvo (by simp) (by first | (simp; done) | (rw [List.map_set]; done) | (rw [List.map_set]; rfl)) r9)
       clear r9; refine wpList_nil ?_
       obtain ⟨t10, e2, h2, o97⟩ := RestI.unfocus (ys := (((grpTo l m e).getD (((l.getD e 0) - (1 : Int))).toNat []) ++ [((e : Nat) : Int)])) o95 o96 (by first | rfl | simp) (by first | rfl | simp) (by decide) (by decide) (by decide)
       rw [← e2]
       have F39 := F38.step h2 (by decide)
       have q222 : At (Ty.nat e) t10 a38 (.tmp 82) := Ty.up _ (h2.le (by decide)) q217
       have q223 : At (Ty.val x7_3) t10 a38 (.tmp 7) := Ty.up _ (h2.le (by decide)) q218
       have q224 : At (Ty.val x6_1) t10 a38 (.tmp 80) := Ty.up _ (h2.le (by decide)) q219
       have q225 : At (Ty.nat (List.length l)) t10 a38 (.tmp 81) := Ty.up _ (h2.le (by decide)) q220
       have o98 := Own.keepL o94 (h2.toL (L := [9]) (by simp)) (by decide) (by decide); have o99 := Own.keepL o93 (h2.toL (L := [9]) (by simp)) (by decide) (by decide); refine bn (tn ?_)
       refine gI a38 t10 ok34 (gT (Ty.nat (e + 1)) rfl (fun A B G H I => rP ((y_add (kp (I 82 rfl) G q222) rfl (w64 (by omega) (by omega))).mono (fun τ _ h => cvi (σ := τ) (by first | omega | exact (Int.natCast_mul _ _).symm) h))) (gS rfl (fun A B G H I d0 => rP (y_move (ed d0 rfl rfl rfl))) (gE ok34 fun a39 s34 ok35 D25 => ?_))); have o100 := Own.k0 o98 D25.stp; have o101 := Own.k0 o99 D25.stp; have o102 := RowsI.k0 o97 D25.stp
       exact tn ⟨l.length - ((e+1)), by omega, s34, (e+1), (us.set (((l.getD e 0) - (1 : Int))).toNat x4), x7_3, rfl, (F39.step0 D25.stp), ok35, (cvi (by (first | rfl | omega | (simp_all; done) | (simp_all; omega))) (D25.dn 1 rfl rfl)), (D25.kt q223 rfl), (D25.kt q224 rfl), (D25.kt q225 rfl), (cvo (by (first | rfl | simp)) (by (first | rfl | simp)) o101), (cvgI (by (first | rfl | (rw [hge]; exact hgs))) (by (first | rfl | (rw [hge]; exact hgs))) o102), o100, by omega, rfl⟩
      ·
       have ee : e = E.length := (by omega)
       refine wp_exit (tx (tx (bx (tn (wp_seq ?_)))))
       obtain ⟨t11, e3, h3, o103⟩ := RowsI.seal o72 (by decide) o71 (by decide)
       rw [← e3]
       have F41 := F32.step h3 (by decide)
       have q230 : At (Ty.nat e) t11 a34 (.tmp 82) := Ty.up _ (h3.le (by decide)) q179
       have q231 : At (Ty.val x7_3) t11 a34 (.tmp 7) := Ty.up _ (h3.le (by decide)) q180
       have q232 : At (Ty.val x6_1) t11 a34 (.tmp 80) := Ty.up _ (h3.le (by decide)) q181
       have q233 : At (Ty.nat (List.length l)) t11 a34 (.tmp 81) := Ty.up _ (h3.le (by decide)) q182
       have q234 : At (Ty.bool (decide (((e : Nat) : Int) < (((List.length l) : Nat) : Int)))) t11 a34 (.tmp 83) := Ty.up _ (h3.le (by decide)) q183
       have o104 := Own.keepL o73 (h3.toL (L := [8]) (by simp)) (by decide) (by decide)
       refine gI a34 t11 ok30 (gM q231 (gB 0 (gE ok30 fun a40 s35 ok36 D26 => ?_))); have o105 := Own.k0 o104 D26.stp; have o106 := Own.k0 o103 D26.stp
       have q235 : At (Ty.val x7_3) s35 a40 (.tmp 2) := D26.done 1
       refine tn (wp_ret ?_)
       obtain ⟨t12, e4, h4, q236⟩ := Own.seal o106 (by decide)
       rw [← e4]
       have F43 := (F41.step0 D26.stp).step h4 (by decide)
       have q237 : At (Ty.sl 1 m (List.map Ty.ints (grpTo l m e))) t12 a40 (.tmp 2) := by have e : a40.eval (.tmp 2) = x7_3 := q235; show Ty.has _ _ _; rw [e]; exact q236
       exact retL1 rfl ok36 F43 ⟨(grpTo l m e), (cvt (by (show Ty.sl 1 m _ = Ty.sl 1 (grpTo l m e).length _; rw [hgl])) q237), (by rw [ee]; exact hMe.qs hp)⟩


set_option maxHeartbeats 4000000 in
set_option maxRecDepth 100000 in
theorem xQsets_fn (ra : List Int) (rb : List Int) (σ : GW) (hlow : Low [] σ) (v0 v1 : Value) (hv0 : Ty.has (Ty.lst Ty.int ra) σ v0) (hv1 : Ty.has (Ty.lst Ty.int rb) σ v1)  (hM : gensMay ((ra.length : Nat) : Int) [ra, rb] = 0) (hS : szTo ra.length (fun z => z ∈ [ra, rb]) ra.length ≤ 5040) :
    FnL Try.prog 26 #[v0, v1] σ [] (fun v τ => ∃ (E : (List (List Int))), ∃ (Q : (List (List Int))), (Ty.has (Ty.tup2 (Ty.lst Ty.ints Q) (Ty.int (0 : Int))) τ v) ∧ (EltsOk ra.length [ra, rb] E) ∧ (QsP (qN E ra rb) E.length Q)) := by
 have hT2 := TwoP.of hM
 have hn := hT2.hn
 have hG := hT2.g
 have hra := hT2.cx
 have hrb := hT2.cy
 have hl8 : [ra, rb].length ≤ 8 := (by simp)
 refine fn_introL hlow Try.func26 rfl Try.ntmps26 (Nat.le_of_ble_eq_true rfl) (fun a0 F0 ok0 hargs => ?_)
 have p0 := pB (hargs 0 _ rfl) hv0
 have b1 := sl_le p0
 have p1 := pB (hargs 1 _ rfl) hv1
 have b2 := sl_le p1
 clear hargs; refine wp_seq ?_
 refine gI a0 σ ok0 (gC (Ty.val (Value.slice none 0 0)) (gC (Ty.int (0 : Int)) (gE ok0 fun a1 s1 ok1 D1 => ?_))); refine tn (wp_seq ?_)
 refine gI a1 s1 ok1 (gM (D1.kt p0 rfl) (gM (D1.kt p1 rfl) (gE2 ok1 fun a2 s2 ok2 D2 => ?_)))
 refine tL ok2 (y_callL (L := []) [] [] _ rfl (by decide) Try.func68 rfl rfl my2 (mk2_fn (ra) (rb) _ (GW.low_lend _ (by decide)) _ _ (Ty.up _ (GW.le_lend _ _) (D2.dn 0 (by decide) rfl rfl)) (Ty.up _ (GW.le_lend _ _) (D2.dn 1 (by decide) rfl rfl))  (by first | omega | assumption | (simp; done) | decide) (by first | omega | assumption | (simp; done) | decide))) fun a3 s3 hs1 ok3 r1 sm1 => ?_
 have F3 := ((F0.step0 D1.stp).step0 D2.stp).stepL hs1 (by decide)
 obtain ⟨t1, ⟨g1, g2, hT1, hp1⟩, B1⟩ := r1
 have q5 : At (Ty.tup2 (Ty.ref [(Ty.lst Ty.ints (g1)), (Ty.val g2), (Ty.lst Ty.int (actL (g1) ra (g1).length)), (Ty.lst Ty.int (actL (g1) rb (g1).length))]) (Ty.int (0 : Int))) s3 a3 (.tmp 11) := Ty.up _ B1.le hT1
 refine tL ok3 (Yld.toL (y_mv q5)) fun a4 s4 hs2 ok4 r2 sm2 => ?_
 have F4 := F3.stepL hs2 (by decide)
 have q6 : At (Ty.tup2 (Ty.ref [(Ty.lst Ty.ints (g1)), (Ty.val g2), (Ty.lst Ty.int (actL (g1) ra (g1).length)), (Ty.lst Ty.int (actL (g1) rb (g1).length))]) (Ty.int (0 : Int))) s4 a4 (.tmp 8) := r2
 clear r2
 refine tL (R := (fun v τ => Pr.has (Ty.pr (Ty.ref [(Ty.lst Ty.ints (g1)), (Ty.val g2), (Ty.lst Ty.int (actL (g1) ra (g1).length)), (Ty.lst Ty.int (actL (g1) rb (g1).length))])) τ v)) ok4 (Yld.toL (y_ext2_0 q6)) fun a5 s5 hs3 ok5 r3 sm3 => ?_
 have F5 := F4.stepL hs3 (by decide); have q7 := kpL hs3 (by decide) (sm3 8 (by decide)) q6
 have q8 : At (Ty.ref [(Ty.lst Ty.ints (g1)), (Ty.val g2), (Ty.lst Ty.int (actL (g1) ra (g1).length)), (Ty.lst Ty.int (actL (g1) rb (g1).length))]) s5 a5 (.tmp 12) := r3
 clear r3
 refine tL (R := (fun v τ => Pr.has (Ty.pr (Ty.int (0 : Int))) τ v)) ok5 (Yld.toL (y_ext2_1 q7)) fun a6 s6 hs4 ok6 r4 sm4 => ?_
 have F6 := F5.stepL hs4 (by decide); have q9 := kpL hs4 (by decide) (sm4 12 (by decide)) q8
 have q10 : At (Ty.int (0 : Int)) s6 a6 (.tmp 13) := r4
 clear r4
 refine tL ok6 (Yld.toL (y_as q9)) fun a7 s7 hs5 ok7 r5 sm5 => ?_
 have F7 := F6.stepL hs5 (by decide); have q11 := kpL hs5 (by decide) (sm5 13 (by decide)) q10
 have q12 : At (Ty.ref [(Ty.lst Ty.ints (g1)), (Ty.val g2), (Ty.lst Ty.int (actL (g1) ra (g1).length)), (Ty.lst Ty.int (actL (g1) rb (g1).length))]) s7 a7 (.tmp 6) := r5
 clear r5
 refine tL ok7 (Yld.toL (y_as q11)) fun a8 s8 hs6 ok8 r6 sm6 => ?_
 have F8 := F7.stepL hs6 (by decide); have q13 := kpL hs6 (by decide) (sm6 6 (by decide)) q12
 have q14 : At (Ty.int (0 : Int)) s8 a8 (.tmp 7) := r6
 clear r6; refine wpList_nil (tn (wp_seq (wp_seq ?_)))
 refine gI a8 s8 ok8 (gM q14 (gT (Ty.bool false) rfl (fun A B G H I d0 => rP ((y_neq (ed d0 rfl rfl rfl) rfl).mono (fun τ _ h => cvb (σ := τ) (by decide) h))) (gE ok8 fun a9 s9 ok9 D3 => ?_))); refine tn ?_
 refine cond_t (D3.dn 1 rfl rfl) (fun c1 => (by cases c1)) (fun _ => ?_)
 refine wp_skip (tn (wp_seq ?_))
 have hro := hp1.rows hn hG; have hqp := hp1.qPerm hn hG hra hrb; have hXl : (actL g1 ra g1.length).length = g1.length := actL_len (Nat.le_refl _); have hYl : (actL g1 rb g1.length).length = g1.length := actL_len (Nat.le_refl _); have hXb := fun i (hi : i < g1.length) => actL_bd hn hG hp1 hra hi; have hYb := fun i (hi : i < g1.length) => actL_bd hn hG hp1 hrb hi; have hqb := fun i (hi : i < g1.length) => hp1.qBack hn hG hra hrb hi; have hEl := hp1.len; have hE5 : g1.length ≤ 5040 := (by rw [hEl]; exact hS)
 refine gI a9 s9 ok9 (gM (D3.kt q13 rfl) (gE2 ok9 fun a10 s10 ok10 D4 => ?_))
 refine tL ok10 (y_callL (L := []) [] [] _ rfl (by decide) Try.func69 rfl rfl my1 (wSets_fn ((g1)) (g2) ((actL (g1) ra (g1).length)) ((actL (g1) rb (g1).length)) ((qN g1 ra rb)) _ (GW.low_lend _ (by decide)) _ (Ty.up _ (GW.le_lend _ _) (D4.dn 0 (by decide) rfl rfl))  (by first | omega | assumption) (by first | omega | assumption) (by first | omega | assumption) (by first | omega | assumption) (by first | omega | assumption) (by first | omega | assumption) (by first | omega | assumption))) fun a11 s11 hs7 ok11 r7 sm7 => ?_
 have F11 := ((F8.step0 D3.stp).step0 D4.stp).stepL hs7 (by decide)
 obtain ⟨t2, ⟨g3, hT2, hp2⟩, B2⟩ := r7
 have q19 : At (Ty.lst Ty.ints (g3)) s11 a11 (.tmp 18) := Ty.up _ B2.le hT2
 refine tL ok11 (Yld.toL (y_as q19)) fun a12 s12 hs8 ok12 r8 sm8 => ?_
 have F12 := F11.stepL hs8 (by decide)
 have q20 : At (Ty.lst Ty.ints (g3)) s12 a12 (.tmp 4) := r8
 clear r8
 refine tL (R := (fun v τ => Pr.has (Ty.pr (Ty.int (0 : Int))) τ v)) ok12 (Yld.toL (y_assign rfl)) fun a13 s13 hs9 ok13 r9 sm9 => ?_
 have F13 := F12.stepL hs9 (by decide); have q21 := kpL hs9 (by decide) (sm9 4 (by decide)) q20
 have q22 : At (Ty.int (0 : Int)) s13 a13 (.tmp 5) := r9
 clear r9; refine wpList_nil (tn (wp_ret ?_))
 exact retL2 rfl ok13 F13 ⟨g1, g3, (hasT2 q21 q22), (by exact hp1), (by exact hp2)⟩


set_option maxHeartbeats 4000000 in
set_option maxRecDepth 100000 in
theorem xRounds_fn (ra : List Int) (rb : List Int) (ch : List Int) (σ : GW) (hlow : Low [] σ) (v0 v1 v2 : Value) (hv0 : Ty.has (Ty.lst Ty.int ra) σ v0) (hv1 : Ty.has (Ty.lst Ty.int rb) σ v1) (hv2 : Ty.has (Ty.lst Ty.int ch) σ v2)  (hM : gensMay ((ra.length : Nat) : Int) [ra, rb] = 0) (hS : szTo ra.length (fun z => z ∈ [ra, rb]) ra.length ≤ 5040) :
    FnL Try.prog 27 #[v0, v1, v2] σ [] (fun v τ => ∃ (E : (List (List Int))), ∃ (Q : (List (List Int))), (Ty.has (Ty.tup2 (Ty.nat (rndN E ra rb Q ch)) (Ty.int (rndE Q ch))) τ v) ∧ (EltsOk ra.length [ra, rb] E) ∧ (QsP (qN E ra rb) E.length Q)) := by
 have hT2 := TwoP.of hM
 have hn := hT2.hn
 have hG := hT2.g
 have hra := hT2.cx
 have hrb := hT2.cy
 have hl8 : [ra, rb].length ≤ 8 := (by simp)
 refine fn_introL hlow Try.func27 rfl Try.ntmps27 (Nat.le_of_ble_eq_true rfl) (fun a0 F0 ok0 hargs => ?_)
 have p0 := pB (hargs 0 _ rfl) hv0
 have b1 := sl_le p0
 have p1 := pB (hargs 1 _ rfl) hv1
 have b2 := sl_le p1
 have p2 := pB (hargs 2 _ rfl) hv2
 have b3 := sl_le p2
 clear hargs; refine wp_seq ?_
 refine gI a0 σ ok0 (gC (Ty.int (0 : Int)) (gC (Ty.int (0 : Int)) (gE ok0 fun a1 s1 ok1 D1 => ?_))); refine tn (wp_seq ?_)
 refine gI a1 s1 ok1 (gM (D1.kt p0 rfl) (gM (D1.kt p1 rfl) (gE2 ok1 fun a2 s2 ok2 D2 => ?_)))
 refine tL ok2 (y_callL (L := []) [] [] _ rfl (by decide) Try.func68 rfl rfl my2 (mk2_fn (ra) (rb) _ (GW.low_lend _ (by decide)) _ _ (Ty.up _ (GW.le_lend _ _) (D2.dn 0 (by decide) rfl rfl)) (Ty.up _ (GW.le_lend _ _) (D2.dn 1 (by decide) rfl rfl))  (by first | omega | assumption | (simp; done) | decide) (by first | omega | assumption | (simp; done) | decide))) fun a3 s3 hs1 ok3 r1 sm1 => ?_
 have F3 := ((F0.step0 D1.stp).step0 D2.stp).stepL hs1 (by decide); have q7 := kpL hs1 (by decide) (sm1 2 (by decide)) (D2.kt (D1.kt p2 rfl) rfl)
 obtain ⟨t1, ⟨g1, g2, hT1, hp1⟩, B1⟩ := r1
 have q8 : At (Ty.tup2 (Ty.ref [(Ty.lst Ty.ints (g1)), (Ty.val g2), (Ty.lst Ty.int (actL (g1) ra (g1).length)), (Ty.lst Ty.int (actL (g1) rb (g1).length))]) (Ty.int (0 : Int))) s3 a3 (.tmp 22) := Ty.up _ B1.le hT1
 refine tL ok3 (Yld.toL (y_mv q8)) fun a4 s4 hs2 ok4 r2 sm2 => ?_
 have F4 := F3.stepL hs2 (by decide); have q9 := kpL hs2 (by decide) (sm2 2 (by decide)) q7
 have q10 : At (Ty.tup2 (Ty.ref [(Ty.lst Ty.ints (g1)), (Ty.val g2), (Ty.lst Ty.int (actL (g1) ra (g1).length)), (Ty.lst Ty.int (actL (g1) rb (g1).length))]) (Ty.int (0 : Int))) s4 a4 (.tmp 19) := r2
 clear r2
 refine tL (R := (fun v τ => Pr.has (Ty.pr (Ty.ref [(Ty.lst Ty.ints (g1)), (Ty.val g2), (Ty.lst Ty.int (actL (g1) ra (g1).length)), (Ty.lst Ty.int (actL (g1) rb (g1).length))])) τ v)) ok4 (Yld.toL (y_ext2_0 q10)) fun a5 s5 hs3 ok5 r3 sm3 => ?_
 have F5 := F4.stepL hs3 (by decide); have q11 := kpL hs3 (by decide) (sm3 2 (by decide)) q9; have q12 := kpL hs3 (by decide) (sm3 19 (by decide)) q10
 have q13 : At (Ty.ref [(Ty.lst Ty.ints (g1)), (Ty.val g2), (Ty.lst Ty.int (actL (g1) ra (g1).length)), (Ty.lst Ty.int (actL (g1) rb (g1).length))]) s5 a5 (.tmp 23) := r3
 clear r3
 refine tL (R := (fun v τ => Pr.has (Ty.pr (Ty.int (0 : Int))) τ v)) ok5 (Yld.toL (y_ext2_1 q12)) fun a6 s6 hs4 ok6 r4 sm4 => ?_
 have F6 := F5.stepL hs4 (by decide); have q14 := kpL hs4 (by decide) (sm4 2 (by decide)) q11; have q15 := kpL hs4 (by decide) (sm4 23 (by decide)) q13
 have q16 : At (Ty.int (0 : Int)) s6 a6 (.tmp 24) := r4
 clear r4
 refine tL ok6 (Yld.toL (y_as q15)) fun a7 s7 hs5 ok7 r5 sm5 => ?_
 have F7 := F6.stepL hs5 (by decide); have q17 := kpL hs5 (by decide) (sm5 2 (by decide)) q14; have q18 := kpL hs5 (by decide) (sm5 24 (by decide)) q16
 have q19 : At (Ty.ref [(Ty.lst Ty.ints (g1)), (Ty.val g2), (Ty.lst Ty.int (actL (g1) ra (g1).length)), (Ty.lst Ty.int (actL (g1) rb (g1).length))]) s7 a7 (.tmp 8) := r5
 clear r5
 refine tL ok7 (Yld.toL (y_as q18)) fun a8 s8 hs6 ok8 r6 sm6 => ?_
 have F8 := F7.stepL hs6 (by decide); have q20 := kpL hs6 (by decide) (sm6 2 (by decide)) q17; have q21 := kpL hs6 (by decide) (sm6 8 (by decide)) q19
 have q22 : At (Ty.int (0 : Int)) s8 a8 (.tmp 9) := r6
 clear r6; refine wpList_nil (tn (wp_seq (wp_seq ?_)))
 refine gI a8 s8 ok8 (gM q22 (gT (Ty.bool false) rfl (fun A B G H I d0 => rP ((y_neq (ed d0 rfl rfl rfl) rfl).mono (fun τ _ h => cvb (σ := τ) (by decide) h))) (gE ok8 fun a9 s9 ok9 D3 => ?_))); have q24 := D3.kt q21 rfl; refine tn ?_
 refine cond_t (D3.dn 1 rfl rfl) (fun c1 => (by cases c1)) (fun _ => ?_)
 refine wp_skip (tn (wp_seq ?_))
 have hro := hp1.rows hn hG; have hqp := hp1.qPerm hn hG hra hrb; have hXl : (actL g1 ra g1.length).length = g1.length := actL_len (Nat.le_refl _); have hYl : (actL g1 rb g1.length).length = g1.length := actL_len (Nat.le_refl _); have hXb := fun i (hi : i < g1.length) => actL_bd hn hG hp1 hra hi; have hYb := fun i (hi : i < g1.length) => actL_bd hn hG hp1 hrb hi; have hqb := fun i (hi : i < g1.length) => hp1.qBack hn hG hra hrb hi; have hEl := hp1.len; have hE5 : g1.length ≤ 5040 := (by rw [hEl]; exact hS)
 refine gI a9 s9 ok9 (gM q24 (gE2 ok9 fun a10 s10 ok10 D4 => ?_))
 refine tL ok10 (y_callL (L := []) [] [] _ rfl (by decide) Try.func69 rfl rfl my1 (wSets_fn ((g1)) (g2) ((actL (g1) ra (g1).length)) ((actL (g1) rb (g1).length)) ((qN g1 ra rb)) _ (GW.low_lend _ (by decide)) _ (Ty.up _ (GW.le_lend _ _) (D4.dn 0 (by decide) rfl rfl))  (by first | omega | assumption) (by first | omega | assumption) (by first | omega | assumption) (by first | omega | assumption) (by first | omega | assumption) (by first | omega | assumption) (by first | omega | assumption))) fun a11 s11 hs7 ok11 r7 sm7 => ?_
 have F11 := ((F8.step0 D3.stp).step0 D4.stp).stepL hs7 (by decide); have q30 := kpL hs7 (by decide) (sm7 2 (by decide)) (D4.kt (D3.kt q20 rfl) rfl); have q31 := kpL hs7 (by decide) (sm7 8 (by decide)) (D4.kt q24 rfl)
 obtain ⟨t2, ⟨g3, hT2, hp2⟩, B2⟩ := r7
 have q32 : At (Ty.lst Ty.ints (g3)) s11 a11 (.tmp 29) := Ty.up _ B2.le hT2
 refine tL ok11 (Yld.toL (y_as q32)) fun a12 s12 hs8 ok12 r8 sm8 => ?_
 have F12 := F11.stepL hs8 (by decide); have q33 := kpL hs8 (by decide) (sm8 2 (by decide)) q30; have q34 := kpL hs8 (by decide) (sm8 8 (by decide)) q31
 have q35 : At (Ty.lst Ty.ints (g3)) s12 a12 (.tmp 10) := r8
 clear r8; refine wpList_nil (tn (wp_seq (wp_seq ?_)))
 refine gI a12 s12 ok12 (gM q33 (gS rfl (fun A B G H I d0 => rP (y_len Try.underlying22 (ed d0 rfl rfl rfl))) (gM q35 (gS rfl (fun A B G H I d0 => rP (y_len Try.underlying24 (ed d0 rfl rfl rfl))) (gS rfl (fun A B G H I d0 d1 => rP (y_neq (ed d0 rfl rfl rfl) (ed d1 rfl rfl rfl))) (gE ok12 fun a13 s13 ok13 D5 => ?_)))))); have F13 := F12.step0 D5.stp; have q37 := D5.kt q34 rfl; refine tn ?_
 refine cond_p (p := ((((List.length ch) : Nat) : Int) ≠ (((List.length (g3)) : Nat) : Int))) (D5.dn 4 rfl rfl) (fun c2 => ?_) (fun c2 => ?_)
 ·
  have hne : ch.length ≠ g3.length := (by omega)
  refine wp_seq ?_
  refine gI a13 s13 ok13 (gC (Ty.int (0 : Int)) (gC (Ty.int (1 : Int)) (gE ok13 fun a14 s14 ok14 D6 => ?_))); refine tn (wp_ret (tr ?_))
  exact retL2 rfl ok14 (F13.step0 D6.stp) ⟨g1, g3, (hasT2 (cvi (by (unfold rndN; rw [rndE_cnt hne]; rfl)) (D6.dn 0 rfl rfl)) (cvi (by (exact (rndE_cnt hne).symm)) (D6.dn 1 rfl rfl))), (by exact hp1), (by exact hp2)⟩
 ·
  have hle : ch.length = g3.length := (by omega); have hQl := hp2.len
  refine wp_skip (tn (wp_seq ?_))
  refine gI a13 s13 ok13 (gM q37 (gS rfl (fun A B G H I d0 => rP (y_nilr (ed d0 rfl rfl rfl))) (gS rfl (fun A B G H I d0 => rP (y_field Try.fld103_0 Try.inf24 (by decide) (ed d0 rfl rfl rfl) rfl)) (gS rfl (fun A B G H I d0 => rP (y_load Try.underlying24 rfl (ed d0 rfl rfl rfl) rfl)) (gS rfl (fun A B G H I d0 => rP (y_len Try.underlying24 (ed d0 rfl rfl rfl))) (gR (Pr.own 5 3 1 (List.length (g1)) (List.map Ty.int (List.replicate (List.length (g1)) 0))) rfl (by intro A B G H I d0 d1; have e4 := ed d0 rfl rfl rfl; exact rP ((y_make (k := 5) (T := Ty.int 0) (n := (List.length (g1))) Try.underlying22 Try.inf3 rfl (fun _ => rfl) e4 e4 (by omega) (by omega)).mono (fun _ _ h => cvo (by simp) (by simp) h))) (gE2 ok13 fun a15 s15 ok15 D7 => ?_)))))))
  obtain ⟨x1, hx1⟩ : ∃ x, a15.eval (.tmp 40) = x := ⟨_, rfl⟩
  have q45 : At (Ty.val x1) s15 a15 (.tmp 40) := hx1
  have o1 := al2 (R := (Pr.own 5 3 1 (List.length (g1)) (List.map Ty.int (List.replicate (List.length (g1)) 0)))) hx1 (D7.done 5 (by decide))
  refine tL ok15 (Yld.toL (y_as q45)) fun a16 s16 hs9 ok16 r9 sm9 => ?_
  have F16 := (F13.step0 D7.stp).stepL hs9 (by decide); have q46 := kpL hs9 (by decide) (sm9 2 (by decide)) (D7.kt (D5.kt q33 rfl) rfl); have q47 := kpL hs9 (by decide) (sm9 8 (by decide)) (D7.kt q37 rfl); have q48 := kpL hs9 (by decide) (sm9 10 (by decide)) (D7.kt (D5.kt q35 rfl) rfl); have o2 := Own.keepL o1 hs9 (by decide) (by decide)
  have q49 : At (Ty.val x1) s16 a16 (.tmp 11) := r9
  clear r9; refine wpList_nil (tn (wp_seq (wp_seq ?_)))
  refine gI a16 s16 ok16 (gM q48 (gS rfl (fun A B G H I d0 => rP (y_len Try.underlying24 (ed d0 rfl rfl rfl))) (gT (Ty.int (0 : Int)) rfl (fun A B G H I => rP (y_move rfl)) (gE ok16 fun a17 s17 ok17 D8 => ?_)))); have o3 := Own.k0 o2 D8.stp; refine tn (wp_block ?_)
  refine loop (fun n1 a18 w1 => ∃ (t3 : GW) (k : Nat) (x11_0 : Value), t3.w = w1 ∧ FromL [] σ t3 ∧ Ok 110 [] a18 ∧ At (Ty.nat k) t3 a18 (.tmp 43) ∧ At (Ty.val x11_0) t3 a18 (.tmp 11) ∧ At (Ty.lst Ty.int ch) t3 a18 (.tmp 2) ∧ At (Ty.ref [(Ty.lst Ty.ints (g1)), (Ty.val g2), (Ty.lst Ty.int (actL (g1) ra (g1).length)), (Ty.lst Ty.int (actL (g1) rb (g1).length))]) t3 a18 (.tmp 8) ∧ At (Ty.lst Ty.ints (g3)) t3 a18 (.tmp 41) ∧ At (Ty.nat (List.length (g3))) t3 a18 (.tmp 42) ∧ Own t3 5 3 1 x11_0 (List.length (toK g3 (vK g1 ra rb ch) g1.length k)) (List.map Ty.int (toK g3 (vK g1 ra rb ch) g1.length k)) ∧ (k ≤ g3.length) ∧ (badC ch k = false) ∧ n1 = g3.length - k) (g3.length - (0)) ?_ ?_
  ·
   exact ⟨s17, 0, x1, rfl, (F16.step0 D8.stp), ok17, (cvi (by (first | rfl | omega | (simp_all; done) | (simp_all; omega))) (D8.dn 2 rfl rfl)), (D8.kt q49 rfl), (D8.kt q46 rfl), (D8.kt q47 rfl), (D8.dn 0 rfl rfl), (D8.dn 1 rfl rfl), (cvo (by (first | rfl | simp [toK])) (by (first | rfl | simp [toK])) o3), by omega, rfl, rfl⟩
  ·
   rintro n2 a19 w2 ⟨t4, k, x11_0, rfl, F18, ok18, q56, q57, q58, q59, q60, q61, o4, hk, hB, rfl⟩
   have htk := toE_ok (ch := ch) hn hG hp1 hra hrb hp2 (show k ≤ g3.length by omega)
   have htkl := htk.len
   refine wp_seq ?_
   refine gI a19 t4 ok18 (gS rfl (fun A B G H I => rP (y_lss (kp (I 43 rfl) G q56) (kp (I 42 rfl) G q61))) (gE ok18 fun a20 s18 ok19 D9 => ?_)); have F19 := F18.step0 D9.stp; have q62 := D9.kt q56 rfl; have q63 := D9.kt q57 rfl; have q66 := D9.kt q60 rfl; have o5 := Own.k0 o4 D9.stp; refine tn (wp_seq ?_)
   refine cond_p (p := (((k : Nat) : Int) < (((List.length (g3)) : Nat) : Int))) (D9.dn 0 rfl rfl) (fun c3 => ?_) (fun c3 => ?_)
   ·
    have hqm := hp2.mem (show k < g3.length by omega)
    refine wp_skip (tn (wp_seq (wp_block (wp_seq ?_))))
    refine gI a20 s18 ok19 (gM q62 (gT (Ty.ref [(Ty.lst Ty.int ((g3).getD k []))]) rfl (fun A B G H I => rP (y_index1 Try.underlying24 Try.inf22 (kp (I 41 rfl) G q66) (kp (I 43 rfl) G q62) (by omega) (lst_get Ty.ints (g3) [] k (by omega)))) (gS rfl (fun A B G H I d0 => rP (y_load Try.underlying22 rfl (ed d0 rfl rfl rfl) rfl)) (gB 0 (gB 0 (gE ok19 fun a21 s19 ok20 D10 => ?_)))))); have q71 := D10.kt (D9.kt q58 rfl) rfl; have o6 := Own.k0 o5 D10.stp; have q75 := D10.dn 3 rfl rfl; refine tn (wp_seq (wp_seq ?_))
    refine gI a21 s19 ok20 (gM q71 (gM q75 (gT (Ty.ref [(Ty.int (ch.getD k 0))]) rfl (fun A B G H I d0 d1 => rP (y_index1 Try.underlying22 Try.inf3 (ed d0 rfl rfl rfl) (ed d1 rfl rfl rfl) (by omega) (lst_get Ty.int ch 0 k (by omega)))) (gS rfl (fun A B G H I d0 => rP (y_load Try.underlying3 rfl (ed d0 rfl rfl rfl) rfl)) (gS rfl (fun A B G H I d0 => rP (y_lss (ed d0 rfl rfl rfl) rfl)) (gS rfl (fun A B G H I d0 => rP (y_move (ed d0 rfl rfl rfl))) (gS rfl (fun A B G H I d0 => gu H (ed d0 rfl rfl rfl) fun hg => y_move (kp (I 2 rfl) G q71)) (gS rfl (fun A B G H I d0 => gu H (ed d0 rfl rfl rfl) fun hg => y_move (kp (I 12 rfl) G q75)) (gT (Ty.grd ((decide ((ch.getD k 0) < (0 : Int))) = false) (Ty.ref [(Ty.int (ch.getD k 0))])) rfl (fun A B G H I d0 d1 d2 => guf H (ed d2 rfl rfl rfl) fun hg hp => y_index1 Try.underlying22 Try.inf3 ((ed d0 rfl rfl rfl).1 hg) ((ed d1 rfl rfl rfl).1 hg) (by omega) (lst_get Ty.int ch 0 k (by omega))) (gS rfl (fun A B G H I d0 d1 => gu H (ed d1 rfl rfl rfl) fun hg => y_load Try.underlying3 rfl ((ed d0 rfl rfl rfl).1 hg) rfl) (gS rfl (fun A B G H I d0 d1 => gu H (ed d1 rfl rfl rfl) fun hg => y_gtr ((ed d0 rfl rfl rfl).1 hg) rfl) (gS rfl (fun A B G H I d0 d1 => rP (y_pick_or (ed d0 rfl rfl rfl) rfl (ed d1 rfl rfl rfl))) (gE ok20 fun a22 s20 ok21 D11 => ?_))))))))))))); have F21 := (F19.step0 D10.stp).step0 D11.stp; have o7 := Own.k0 o6 D11.stp; refine tn ?_
    refine cond_t (D11.dn 11 rfl rfl) (fun c4 => ?_) (fun c4 => ?_)
    ·
     have hbad : ch.getD k 0 < 0 ∨ 1 < ch.getD k 0 := (by simpa using c4); have hE12 := rndE_bad hle (badC_yes (show k < g3.length by omega) hbad)
     refine wp_seq ?_
     refine gI a22 s20 ok21 (gC (Ty.int (0 : Int)) (gC (Ty.int (12 : Int)) (gE ok21 fun a23 s21 ok22 D12 => ?_))); have o8 := Own.k0 o7 D12.stp; refine tn (wp_ret (tr (br (tr (tr (br (tr ?_)))))))
     exact retL2 rfl ok22 (F21.step0 D12.stp) ⟨g1, g3, (hasT2 (cvi (by (unfold rndN; rw [hE12]; rfl)) (D12.dn 0 rfl rfl)) (cvi (by (exact hE12.symm)) (D12.dn 1 rfl rfl))), (by exact hp1), (by exact hp2)⟩
    ·
     obtain ⟨d1, d2⟩ := Bool.or_eq_false_iff.mp c4
     replace d1 := of_decide_eq_false d1
     replace d2 := of_decide_eq_false d2
     have hok : 0 ≤ ch.getD k 0 ∧ ch.getD k 0 ≤ 1 := (by simp at c4; omega); have hB2 := badC_succ hB hok.1 hok.2
     refine wp_skip (tn (wp_seq ?_))
     refine gI a22 s20 ok21 (gM (D11.kt (D10.dn 4 rfl rfl) rfl) (gS rfl (fun A B G H I d0 => rP (y_len Try.underlying22 (ed d0 rfl rfl rfl))) (gT (Ty.int (0 : Int)) rfl (fun A B G H I => rP (y_move rfl)) (gE ok21 fun a24 s22 ok23 D13 => ?_)))); have o9 := Own.k0 o7 D13.stp; refine tn (wp_block ?_)
     refine loop (fun n3 a25 w3 => ∃ (t5 : GW) (j : Nat) (x11_1 : Value), t5.w = w3 ∧ FromL [] σ t5 ∧ Ok 110 [] a25 ∧ At (Ty.nat j) t5 a25 (.tmp 62) ∧ At (Ty.val x11_1) t5 a25 (.tmp 11) ∧ At (Ty.nat k) t5 a25 (.tmp 43) ∧ At (Ty.lst Ty.int ch) t5 a25 (.tmp 2) ∧ At (Ty.ref [(Ty.lst Ty.ints (g1)), (Ty.val g2), (Ty.lst Ty.int (actL (g1) ra (g1).length)), (Ty.lst Ty.int (actL (g1) rb (g1).length))]) t5 a25 (.tmp 8) ∧ At (Ty.lst Ty.ints (g3)) t5 a25 (.tmp 41) ∧ At (Ty.nat (List.length (g3))) t5 a25 (.tmp 42) ∧ At (Ty.nat k) t5 a25 (.tmp 12) ∧ At (Ty.lst Ty.int ((g3).getD k [])) t5 a25 (.tmp 60) ∧ At (Ty.nat (List.length ((g3).getD k []))) t5 a25 (.tmp 61) ∧ Own t5 5 3 1 x11_1 (List.length (setA ((vK g1 ra rb ch) k) (toK g3 (vK g1 ra rb ch) g1.length k) ((g3.getD k []).take j))) (List.map Ty.int (setA ((vK g1 ra rb ch) k) (toK g3 (vK g1 ra rb ch) g1.length k) ((g3.getD k []).take j))) ∧ (j ≤ (g3.getD k []).length) ∧ n3 = (g3.getD k []).length - j) ((g3.getD k []).length - (0)) ?_ ?_
     ·
      exact ⟨s22, 0, x11_0, rfl, (F21.step0 D13.stp), ok23, (cvi (by (first | rfl | omega | (simp_all; done) | (simp_all; omega))) (D13.dn 2 rfl rfl)), (D13.kt (D11.kt (D10.kt q63 rfl) rfl) rfl), (D13.kt (D11.kt (D10.kt q62 rfl) rfl) rfl), (D13.kt (D11.kt q71 rfl) rfl), (D13.kt (D11.kt (D10.kt (D9.kt q59 rfl) rfl) rfl) rfl), (D13.kt (D11.kt (D10.kt q66 rfl) rfl) rfl), (D13.kt (D11.kt (D10.kt (D9.kt q61 rfl) rfl) rfl) rfl), (D13.kt (D11.kt q75 rfl) rfl), (D13.dn 0 rfl rfl), (D13.dn 1 rfl rfl), (cvo (by (first | rfl | simp [setA_nil])) (by (first | rfl | simp [setA_nil])) o9), by omega, rfl⟩
     ·
      rintro n4 a26 w4 ⟨t6, j, x11_1, rfl, F24, ok24, q98, q99, q100, q101, q102, q103, q104, q105, q106, q107, o10, hj, rfl⟩
      have hsl := setA_lenE (v := (vK g1 ra rb ch) k) (to := toK g3 (vK g1 ra rb ch) g1.length k) (js := (g3.getD k []).take j)
      refine wp_seq ?_
      refine gI a26 t6 ok24 (gS rfl (fun A B G H I => rP (y_lss (kp (I 62 rfl) G q98) (kp (I 61 rfl) G q107))) (gE ok24 fun a27 s23 ok25 D14 => ?_)); have F25 := F24.step0 D14.stp; have q108 := D14.kt q98 rfl; have q109 := D14.kt q99 rfl; have q110 := D14.kt q100 rfl; have q111 := D14.kt q101 rfl; have q112 := D14.kt q102 rfl; have q113 := D14.kt q103 rfl; have q114 := D14.kt q104 rfl; have q116 := D14.kt q106 rfl; have o11 := Own.k0 o10 D14.stp; refine tn (wp_seq ?_)
      refine cond_p (p := (((j : Nat) : Int) < (((List.length ((g3).getD k [])) : Nat) : Int))) (D14.dn 0 rfl rfl) (fun c5 => ?_) (fun c5 => ?_)
      ·
       have hqj := hqm.2 j (by omega); have hval := vK_two (E := g1) (x := ra) (y := rb) (i := ((g3.getD k []).getD j 0).toNat) hok.1 hok.2; have hX2 : ([actL g1 ra g1.length, actL g1 rb g1.length].getD (ch.getD k 0).toNat []).length = g1.length := (by rcases (show ch.getD k 0 = 0 ∨ ch.getD k 0 = 1 by omega) with h_ | h_; (rw [h_]; exact hXl); (rw [h_]; exact hYl))
       refine wp_skip (tn (wp_seq (wp_block (wp_seq ?_))))
       refine gI a27 s23 ok25 (gT (Ty.ref [(Ty.int (((g3).getD k []).getD j 0))]) rfl (fun A B G H I => rP (y_index1 Try.underlying22 Try.inf3 (kp (I 60 rfl) G q116) (kp (I 62 rfl) G q108) (by omega) (lst_get Ty.int ((g3).getD k []) 0 j (by omega)))) (gS rfl (fun A B G H I d0 => rP (y_load Try.underlying3 rfl (ed d0 rfl rfl rfl) rfl)) (gB 0 (gE ok25 fun a28 s24 ok26 D15 => ?_)))); have q120 := D15.kt q109 rfl; have q122 := D15.kt q111 rfl; have q123 := D15.kt q112 rfl; have q126 := D15.kt (D14.kt q105 rfl) rfl; have o12 := Own.k0 o11 D15.stp; have q129 := D15.dn 2 rfl rfl; refine tn ?_
       refine gI a28 s24 ok26 (gM q120 (gM q129 (gM q123 (gM q122 (gM q126 (gT (Ty.ref [(Ty.int (ch.getD k 0))]) rfl (fun A B G H I d0 d1 => rP (y_index1 Try.underlying22 Try.inf3 (ed d0 rfl rfl rfl) (ed d1 rfl rfl rfl) (by omega) (lst_get Ty.int ch 0 k (by omega)))) (gS rfl (fun A B G H I d0 => rP (y_load Try.underlying3 rfl (ed d0 rfl rfl rfl) rfl)) (gS rfl (fun A B G H I d0 => rP (y_nilr (ed d0 rfl rfl rfl))) (gS rfl (fun A B G H I d0 => rP (y_field Try.fld103_2 Try.inf101 (by decide) (ed d0 rfl rfl rfl) rfl)) (gT (Ty.ref [(Ty.lst Ty.int ([(actL (g1) ra (g1).length), (actL (g1) rb (g1).length)].getD ((ch.getD k 0)).toNat []))]) rfl (fun A B G H I d0 d1 => rP (y_idxR (T := (Ty.lst Ty.int ([(actL (g1) ra (g1).length), (actL (g1) rb (g1).length)].getD ((ch.getD k 0)).toNat []))) Try.underlying101 Try.inf22 (ed d0 rfl rfl rfl) (ed d1 rfl rfl rfl) (by omega) (by omega) (two_get (f := fun z_ => Ty.lst Ty.int z_) (by omega) (by omega)))) (gS rfl (fun A B G H I d0 => rP (y_load Try.underlying22 rfl (ed d0 rfl rfl rfl) rfl)) (gM q129 (gT (Ty.ref [(Ty.int (([(actL (g1) ra (g1).length), (actL (g1) rb (g1).length)].getD ((ch.getD k 0)).toNat []).getD ((((g3).getD k []).getD j 0)).toNat 0))]) rfl (fun A B G H I d0 d1 => rP (y_index1 Try.underlying22 Try.inf3 (ed d0 rfl rfl rfl) (ed d1 rfl rfl rfl) (by omega) (lst_get Ty.int ([(actL (g1) ra (g1).length), (actL (g1) rb (g1).length)].getD ((ch.getD k 0)).toNat []) 0 ((((g3).getD k []).getD j 0)).toNat (by omega)))) (gS rfl (fun A B G H I d0 => rP (y_load Try.underlying3 rfl (ed d0 rfl rfl rfl) rfl)) ?_))))))))))))))
       refine gT (Ty.val (cellPtr x11_1 ((((g3).getD k []).getD j 0)).toNat)) rfl (fun A B G H I d0 d1 d2 d3 d4 d5 d6 d7 d8 d9 d10 d11 d12 d13 d14 d15 => rP (own_index1 (i := (((g3).getD k []).getD j 0)) Try.underlying22 Try.inf3 (Own.k0 o12 G) (ed d0 rfl rfl rfl) (ed d1 rfl rfl rfl) (by omega) (by omega))) (gE2 ok26 fun a29 s25 ok27 D16 => ?_); have o13 := Own.k0 o12 D16.stp
       refine tailL0 (L := [5]) (R := (fun _ τ => Own τ 5 3 1 x11_1 (List.length (setA ((vK g1 ra rb ch) k) (toK g3 (vK g1 ra rb ch) g1.length k) ((g3.getD k []).take j))) ((List.map Ty.int (setA ((vK g1 ra rb ch) k) (toK g3 (vK g1 ra rb ch) g1.length k) ((g3.getD k []).take j))).set ((((g3).getD k []).getD j 0)).toNat (Ty.int (([(actL (g1) ra (g1).length), (actL (g1) rb (g1).length)].getD ((ch.getD k 0)).toNat []).getD ((((g3).getD k []).getD j 0)).toNat 0))))) rfl rfl (YldM.toL (m_store Try.inf3 (by decide) o13 (D16.dn 14 (by decide) rfl rfl) (by simp only [List.length_map, List.length_set]; omega) (D16.dn 13 (by decide) rfl rfl) (one_val rfl))) (fun v1 s26 hs10 r10 => ?_)
       have F28 := ((F25.step0 D15.stp).step0 D16.stp).stepL hs10 (by decide); have q142 := kpL hs10 (by decide) rfl (D16.kt (D15.kt q108 rfl) rfl); have q143 := kpL hs10 (by decide) rfl (D16.kt q120 rfl); have q144 := kpL hs10 (by decide) rfl (D16.kt (D15.kt q110 rfl) rfl); have q145 := kpL hs10 (by decide) rfl (D16.kt q122 rfl); have q146 := kpL hs10 (by decide) rfl (D16.kt q123 rfl); have q147 := kpL hs10 (by decide) rfl (D16.kt (D15.kt q113 rfl) rfl); have q148 := kpL hs10 (by decide) rfl (D16.kt (D15.kt q114 rfl) rfl); have q149 := kpL hs10 (by decide) rfl (D16.kt q126 rfl); have q150 := kpL hs10 (by decide) rfl (D16.kt (D15.kt q116 rfl) rfl); have q151 := kpL hs10 (by decide) rfl (D16.kt (D15.kt (D14.kt q107 rfl) rfl) rfl)
       have o14 : Own s26 5 3 1 x11_1 (List.length ((setA ((vK g1 ra rb ch) k) (toK g3 (vK g1 ra rb ch) g1.length k) ((g3.getD k []).take j)).set ((((g3).getD k []).getD j 0)).toNat (([(actL (g1) ra (g1).length), (actL (g1) rb (g1).length)].getD ((ch.getD k 0)).toNat []).getD ((((g3).getD k []).getD j 0)).toNat 0))) (List.map Ty.int ((setA ((vK g1 ra rb ch) k) (toK g3 (vK g1 ra rb ch) g1.length k) ((g3.getD k []).take j)).set ((((g3).getD k []).getD j 0)).toNat (([(actL (g1) ra (g1).length), (actL (g1) rb (g1).length)].getD ((ch.getD k 0)).toNat []).getD ((((g3).getD k []).getD j 0)).toNat 0))) := (cvo (by simp) (by first | (simp; done) | (rw [List.map_set]; done) | (rw [List.map_set]; rfl)) r10)
       clear r10; refine wpList_nil (bn (tn ?_))
       refine gI a29 s26 ok27 (gT (Ty.nat (j + 1)) rfl (fun A B G H I => rP ((y_add (kp (I 62 rfl) G q142) rfl (w64 (by omega) (by omega))).mono (fun τ _ h => cvi (σ := τ) (by first | omega | exact (Int.natCast_mul _ _).symm) h))) (gS rfl (fun A B G H I d0 => rP (y_move (ed d0 rfl rfl rfl))) (gE ok27 fun a30 s27 ok28 D17 => ?_))); have o15 := Own.k0 o14 D17.stp
       exact tn ⟨(g3.getD k []).length - ((j+1)), by omega, s27, (j+1), x11_1, rfl, (F28.step0 D17.stp), ok28, (cvi (by (first | rfl | omega | (simp_all; done) | (simp_all; omega))) (D17.dn 1 rfl rfl)), (D17.kt q143 rfl), (D17.kt q144 rfl), (D17.kt q145 rfl), (D17.kt q146 rfl), (D17.kt q147 rfl), (D17.kt q148 rfl), (D17.kt q149 rfl), (D17.kt q150 rfl), (D17.kt q151 rfl), (cvo (by (first | rfl | (rw [hval, setA_step (by omega)]; done) | (rw [List.length_set, setA_lenE, setA_lenE]))) (by (first | rfl | (rw [hval, setA_step (by omega)]; done) | (rw [List.length_set, setA_lenE, setA_lenE]))) o15), by omega, rfl⟩
      ·
       have hjk : j = (g3.getD k []).length := (by omega)
       refine wp_exit (tx (tx (bx (bn (tn ?_)))))
       refine gI a27 s23 ok25 (gT (Ty.nat (k + 1)) rfl (fun A B G H I => rP ((y_add (kp (I 43 rfl) G q110) rfl (w64 (by omega) (by omega))).mono (fun τ _ h => cvi (σ := τ) (by first | omega | exact (Int.natCast_mul _ _).symm) h))) (gS rfl (fun A B G H I d0 => rP (y_move (ed d0 rfl rfl rfl))) (gE ok25 fun a31 s28 ok29 D18 => ?_))); have o16 := Own.k0 o11 D18.stp
       exact tn ⟨g3.length - ((k+1)), by omega, s28, (k+1), x11_1, rfl, (F25.step0 D18.stp), ok29, (cvi (by (first | rfl | omega | (simp_all; done) | (simp_all; omega))) (D18.dn 1 rfl rfl)), (D18.kt q109 rfl), (D18.kt q111 rfl), (D18.kt q112 rfl), (D18.kt q113 rfl), (D18.kt q114 rfl), (cvo (by (first | rfl | (rw [hjk, List.take_length]; done) | (rw [hjk, List.take_length]; rfl))) (by (first | rfl | (rw [hjk, List.take_length]; done) | (rw [hjk, List.take_length]; rfl))) o16), by omega, hB2, rfl⟩
   ·
    have ek : k = g3.length := (by omega); have hbd : badC ch g3.length = false := (ek ▸ hB); have hE0 := rndE_ok hle hbd; have hT : ToB g1.length (toE g1 ra rb g3 ch) := toE_ok hn hG hp1 hra hrb hp2 (Nat.le_refl _); have hTl := hT.len
    refine wp_exit (tx (tx (bx (tn (wp_seq ?_)))))
    refine gI a20 s18 ok19 (gC (Ty.int (0 : Int)) (gE ok19 fun a32 s29 ok30 D19 => ?_)); have q169 := D19.kt q63 rfl; have o17 := Own.k0 o5 D19.stp; refine tn (wp_seq (wp_seq ?_))
    refine gI a32 s29 ok30 (gM q169 (gT (Ty.nat (List.length (toK g3 (vK g1 ra rb ch) g1.length k))) rfl (fun A B G H I d0 => rP (own_len Try.underlying22 (al (R := (Pr.own 5 3 1 (List.length (toK g3 (vK g1 ra rb ch) g1.length k)) (List.map Ty.int (toK g3 (vK g1 ra rb ch) g1.length k)))) (ed d0 rfl rfl rfl) (Own.k0 o17 G)))) (gT (Ty.int (0 : Int)) rfl (fun A B G H I => rP (y_move rfl)) (gE ok30 fun a33 s30 ok31 D20 => ?_)))); have o18 := Own.k0 o17 D20.stp; refine tn (wp_block ?_)
    refine loop (fun n5 a34 w5 => ∃ (t7 : GW) (i : Nat) (x11_2 : Value), t7.w = w5 ∧ FromL [] σ t7 ∧ Ok 110 [] a34 ∧ At (Ty.nat i) t7 a34 (.tmp 85) ∧ At (Ty.val x11_2) t7 a34 (.tmp 11) ∧ At (Ty.nat (cirS (toE g1 ra rb g3 ch) g1.length i).2) t7 a34 (.tmp 16) ∧ At (Ty.nat (List.length (toK g3 (vK g1 ra rb ch) g1.length k))) t7 a34 (.tmp 84) ∧ Own t7 5 3 1 x11_2 (List.length (msk (toE g1 ra rb g3 ch) (cirS (toE g1 ra rb g3 ch) g1.length i).1 g1.length)) (List.map Ty.int (msk (toE g1 ra rb g3 ch) (cirS (toE g1 ra rb g3 ch) g1.length i).1 g1.length)) ∧ (i ≤ g1.length) ∧ n5 = g1.length - i) (g1.length - (0)) ?_ ?_
    ·
     exact ⟨s30, 0, x11_0, rfl, ((F19.step0 D19.stp).step0 D20.stp), ok31, (cvi (by (first | rfl | omega | (simp_all; done) | (simp_all; omega))) (D20.dn 2 rfl rfl)), (D20.kt q169 rfl), (cvi (by (rfl)) (D20.kt (D19.dn 0 rfl rfl) rfl)), (D20.dn 1 rfl rfl), (cvo (by (first | rfl | (show _ = _; rw [show cirS _ _ 0 = (List.replicate g1.length 0, 0) from rfl, msk_start hTl, show k = g3.length by omega]; rfl))) (by (first | rfl | (show _ = _; rw [show cirS _ _ 0 = (List.replicate g1.length 0, 0) from rfl, msk_start hTl, show k = g3.length by omega]; rfl))) o18), by omega, rfl⟩
    ·
     rintro n6 a35 w6 ⟨t8, i, x11_2, rfl, F33, ok32, q175, q176, q177, q178, o19, hi, rfl⟩
     have hcs := cirS_ok hT i (by omega)
     have hml := msk_len (to := (toE g1 ra rb g3 ch)) (vis := (cirS (toE g1 ra rb g3 ch) g1.length i).1) (N := g1.length)
     refine wp_seq ?_
     refine gI a35 t8 ok32 (gS rfl (fun A B G H I => rP (y_lss (kp (I 85 rfl) G q175) (kp (I 84 rfl) G q178))) (gE ok32 fun a36 s31 ok33 D21 => ?_)); have F34 := F33.step0 D21.stp; have q179 := D21.kt q175 rfl; have q181 := D21.kt q177 rfl; have o20 := Own.k0 o19 D21.stp; refine tn (wp_seq ?_)
     refine cond_p (p := (((i : Nat) : Int) < (((List.length (toK g3 (vK g1 ra rb ch) g1.length k)) : Nat) : Int))) (D21.dn 0 rfl rfl) (fun c6 => ?_) (fun c6 => ?_)
     ·
      refine wp_skip (tn (wp_seq (wp_block (wp_seq ?_))))
      refine gI a36 s31 ok33 (gM q179 (gB 0 (gE ok33 fun a37 s32 ok34 D22 => ?_))); have q185 := D22.kt (D21.kt q176 rfl) rfl; have o21 := Own.k0 o20 D22.stp; have q188 := D22.dn 1 rfl rfl; refine tn (wp_seq (wp_seq ?_))
      refine gI a37 s32 ok34 (gM q185 (gM q188 (gT (Ty.val (cellPtr x11_2 i)) rfl (fun A B G H I d0 d1 => rP (own_index1 (i := ((i : Nat) : Int)) Try.underlying22 Try.inf3 (Own.k0 o21 G) (ed d0 rfl rfl rfl) (ed d1 rfl rfl rfl) (by omega) (by omega))) (gS rfl (fun A B G H I d0 => rP (own_load Try.underlying3 rfl (Own.k0 o21 G) (ed d0 rfl rfl rfl) (lst_get Ty.int (msk (toE g1 ra rb g3 ch) (cirS (toE g1 ra rb g3 ch) g1.length i).1 g1.length) 0 i (by omega)))) (gS rfl (fun A B G H I d0 => rP (y_lss (ed d0 rfl rfl rfl) rfl)) (gE ok34 fun a38 s33 ok35 D23 => ?_)))))); have F36 := (F34.step0 D22.stp).step0 D23.stp; have q189 := D23.kt (D22.kt q179 rfl) rfl; have q190 := D23.kt q185 rfl; have q191 := D23.kt (D22.kt q181 rfl) rfl; have q192 := D23.kt (D22.kt (D21.kt q178 rfl) rfl) rfl; have o22 := Own.k0 o21 D23.stp; refine tn ?_
      refine cond_p (p := (((msk (toE g1 ra rb g3 ch) (cirS (toE g1 ra rb g3 ch) g1.length i).1 g1.length).getD i 0) < (0 : Int))) (D23.dn 4 rfl rfl) (fun c7 => ?_) (fun c7 => ?_)
      ·
       have hci := (msk_neg hT hcs.1 (show i < g1.length by omega)).1 c7
       refine wp_exit (tx (bx (tn ?_)))
       refine gI a38 s33 ok35 (gT (Ty.nat (i + 1)) rfl (fun A B G H I => rP ((y_add (kp (I 85 rfl) G q189) rfl (w64 (by omega) (by omega))).mono (fun τ _ h => cvi (σ := τ) (by first | omega | exact (Int.natCast_mul _ _).symm) h))) (gS rfl (fun A B G H I d0 => rP (y_move (ed d0 rfl rfl rfl))) (gE ok35 fun a39 s34 ok36 D24 => ?_))); have o23 := Own.k0 o22 D24.stp
       exact tn ⟨g1.length - ((i+1)), by omega, s34, (i+1), x11_2, rfl, (F36.step0 D24.stp), ok36, (cvi (by (first | rfl | omega | (simp_all; done) | (simp_all; omega))) (D24.dn 1 rfl rfl)), (D24.kt q190 rfl), (cvi (by (rw [cirS_old hci])) (D24.kt q191 rfl)), (D24.kt q192 rfl), (cvo (by (rw [cirS_old hci])) (by (rw [cirS_old hci])) o23), by omega, rfl⟩
      ·
       have hci : ¬ 0 < (cirS (toE g1 ra rb g3 ch) g1.length i).1.getD i 0 := (fun h_ => c7 ((msk_neg hT hcs.1 (show i < g1.length by omega)).2 h_))
       refine wp_skip (tn (wp_seq ?_))
       refine gI a38 s33 ok35 (gM q191 (gT (Ty.nat ((cirS (toE g1 ra rb g3 ch) g1.length i).2 + 1)) rfl (fun A B G H I d0 => rP ((y_add (ed d0 rfl rfl rfl) rfl (w64 (by omega) (by omega))).mono (fun τ _ h => cvi (σ := τ) (by first | omega | exact (Int.natCast_mul _ _).symm) h))) (gB 0 (gE ok35 fun a40 s35 ok37 D25 => ?_)))); have o24 := Own.k0 o22 D25.stp; refine tn (wp_seq ?_)
       refine gI a40 s35 ok37 (gM (D25.kt (D23.kt q188 rfl) rfl) (gB 0 (gE ok37 fun a41 s36 ok38 D26 => ?_))); have o25 := Own.k0 o24 D26.stp; refine tn (wp_block ?_)
       refine loop (fun n7 a42 w7 => ∃ (t9 : GW) (f : Nat) (vis : (List Int)) (c : Nat) (x11_3 : Value), t9.w = w7 ∧ FromL [] σ t9 ∧ Ok 110 [] a42 ∧ At (Ty.nat c) t9 a42 (.tmp 18) ∧ At (Ty.val x11_3) t9 a42 (.tmp 11) ∧ At (Ty.nat i) t9 a42 (.tmp 85) ∧ At (Ty.nat (List.length (toK g3 (vK g1 ra rb ch) g1.length k))) t9 a42 (.tmp 84) ∧ At (Ty.nat ((cirS (toE g1 ra rb g3 ch) g1.length i).2 + 1)) t9 a42 (.tmp 16) ∧ Own t9 5 3 1 x11_3 (List.length (msk (toE g1 ra rb g3 ch) vis g1.length)) (List.map Ty.int (msk (toE g1 ra rb g3 ch) vis g1.length)) ∧ (VisI (toE g1 ra rb g3 ch) g1.length (cirS (toE g1 ra rb g3 ch) g1.length i).1 i f vis c) ∧ n7 = unm vis) (unm ((cirS (toE g1 ra rb g3 ch) g1.length i).1)) ?_ ?_
       ·
        exact ⟨s36, (g1.length + 1), (cirS (toE g1 ra rb g3 ch) g1.length i).1, i, x11_2, rfl, ((F36.step0 D25.stp).step0 D26.stp), ok38, (cvi (by (first | rfl | omega | (simp_all; done) | (simp_all; omega))) (D26.dn 1 rfl rfl)), (D26.kt (D25.kt q190 rfl) rfl), (D26.kt (D25.kt q189 rfl) rfl), (D26.kt (D25.kt q192 rfl) rfl), (D26.kt (D25.dn 2 rfl rfl) rfl), (cvo (by (rfl)) (by (rfl)) o25), VisI.start hcs.1 (by omega), rfl⟩
       ·
        rintro n8 a43 w8 ⟨t10, f, vis, c, x11_3, rfl, F40, ok39, q209, q210, q211, q212, q213, o26, hV, rfl⟩
        have hvl := hV.vb.len
        have hcN := hV.kN
        have htc := hT.bd c hcN
        have hmv := msk_len (to := (toE g1 ra rb g3 ch)) (vis := vis) (N := g1.length)
        refine wp_seq (wp_seq ?_)
        refine gI a43 t10 ok39 (gM q210 (gM q209 (gT (Ty.val (cellPtr x11_3 c)) rfl (fun A B G H I d0 d1 => rP (own_index1 (i := ((c : Nat) : Int)) Try.underlying22 Try.inf3 (Own.k0 o26 G) (ed d0 rfl rfl rfl) (ed d1 rfl rfl rfl) (by omega) (by omega))) (gS rfl (fun A B G H I d0 => rP (own_load Try.underlying3 rfl (Own.k0 o26 G) (ed d0 rfl rfl rfl) (lst_get Ty.int (msk (toE g1 ra rb g3 ch) vis g1.length) 0 c (by omega)))) (gS rfl (fun A B G H I d0 => rP (y_geq (ed d0 rfl rfl rfl) rfl)) (gE ok39 fun a44 s37 ok40 D27 => ?_)))))); have F41 := F40.step0 D27.stp; have q214 := D27.kt q209 rfl; have q215 := D27.kt q210 rfl; have q216 := D27.kt q211 rfl; have q217 := D27.kt q212 rfl; have q218 := D27.kt q213 rfl; have o27 := Own.k0 o26 D27.stp; refine tn ?_
        refine cond_p (p := ((0 : Int) ≤ ((msk (toE g1 ra rb g3 ch) vis g1.length).getD c 0))) (D27.dn 4 rfl rfl) (fun c8 => ?_) (fun c8 => ?_)
        ·
         have hz : vis.getD c 0 = 0 := (by have h2_ := hV.vb.bd c hcN; rcases h2_ with h2_ | h2_; exact h2_; exact absurd ((msk_neg hT hV.vb hcN).2 (by omega)) (by omega)); have hsu := unm_set vis c (by omega) hz; have hmp := msk_pos (to := toE g1 ra rb g3 ch) hcN hz
         refine wp_skip (tn (wp_block ?_))
         refine gI a44 s37 ok40 (gM q215 (gM q214 (gM q215 (gM q214 (gT (Ty.val (cellPtr x11_3 c)) rfl (fun A B G H I d0 d1 => rP (own_index1 (i := ((c : Nat) : Int)) Try.underlying22 Try.inf3 (Own.k0 o27 G) (ed d0 rfl rfl rfl) (ed d1 rfl rfl rfl) (by omega) (by omega))) (gS rfl (fun A B G H I d0 => rP (own_load Try.underlying3 rfl (Own.k0 o27 G) (ed d0 rfl rfl rfl) (lst_get Ty.int (msk (toE g1 ra rb g3 ch) vis g1.length) 0 c (by omega)))) (gB 0 (gT (Ty.val (cellPtr x11_3 c)) rfl (fun A B G H I d0 d1 d2 d3 d4 d5 d6 d7 d8 => rP (own_index1 (i := ((c : Nat) : Int)) Try.underlying22 Try.inf3 (Own.k0 o27 G) (ed d0 rfl rfl rfl) (ed d1 rfl rfl rfl) (by omega) (by omega))) (gE2 ok40 fun a45 s38 ok41 D28 => ?_))))))))); have o28 := Own.k0 o27 D28.stp
         refine tailL0 (L := [5]) (R := (fun _ τ => Own τ 5 3 1 x11_3 (List.length (msk (toE g1 ra rb g3 ch) vis g1.length)) ((List.map Ty.int (msk (toE g1 ra rb g3 ch) vis g1.length)).set c (Ty.int (-1 : Int))))) rfl rfl (YldM.toL (m_store Try.inf3 (by decide) o28 (D28.dn 7 (by decide) rfl rfl) (by simp only [List.length_map, List.length_set]; omega) rfl (one_val rfl))) (fun v2 s39 hs11 r11 => ?_)
         have F43 := (F41.step0 D28.stp).stepL hs11 (by decide); have q226 := kpL hs11 (by decide) rfl (D28.kt q215 rfl); have q227 := kpL hs11 (by decide) rfl (D28.kt q216 rfl); have q228 := kpL hs11 (by decide) rfl (D28.kt q217 rfl); have q229 := kpL hs11 (by decide) rfl (D28.kt q218 rfl); have q230 := kpL hs11 (by decide) rfl (D28.dn 6 (by decide) rfl rfl)
         have o29 : Own s39 5 3 1 x11_3 (List.length ((msk (toE g1 ra rb g3 ch) vis g1.length).set c (-1 : Int))) (List.map Ty.int ((msk (toE g1 ra rb g3 ch) vis g1.length).set c (-1 : Int))) := (cvo (by simp) (by first | (simp; done) | (rw [List.map_set]; done) | (rw [List.map_set]; rfl)) r11)
         clear r11; refine wpList_nil (bn ?_)
         exact tn ⟨unm ((vis.set c 1)), by omega, s39, (f - 1), (vis.set c 1), ((toE g1 ra rb g3 ch).getD c 0).toNat, x11_3, rfl, F43, ok41, (cvi (by (first | rfl | omega | (simp_all; done) | (simp_all; omega))) q230), q226, q227, q228, q229, (cvo (by (first | rfl | (rw [msk_set hV.vb.len hcN]; done) | (simp [msk_len]))) (by (first | rfl | (rw [msk_set hV.vb.len hcN]; done) | (simp [msk_len]))) o29), hV.step hT hz, rfl⟩
        ·
         have hVd := hV.done (by have h1_ := (msk_neg hT hV.vb hcN).1 (by omega); omega)
         refine wp_exit (tx (tx (bx (bn (tn ?_)))))
         refine gI a44 s37 ok40 (gT (Ty.nat (i + 1)) rfl (fun A B G H I => rP ((y_add (kp (I 85 rfl) G q216) rfl (w64 (by omega) (by omega))).mono (fun τ _ h => cvi (σ := τ) (by first | omega | exact (Int.natCast_mul _ _).symm) h))) (gS rfl (fun A B G H I d0 => rP (y_move (ed d0 rfl rfl rfl))) (gE ok40 fun a46 s40 ok42 D29 => ?_))); have o30 := Own.k0 o27 D29.stp
         exact tn ⟨g1.length - ((i+1)), by omega, s40, (i+1), x11_3, rfl, (F41.step0 D29.stp), ok42, (cvi (by (first | rfl | omega | (simp_all; done) | (simp_all; omega))) (D29.dn 1 rfl rfl)), (D29.kt q215 rfl), (cvi (by (rw [cirS_new hci])) (D29.kt q218 rfl)), (D29.kt q217 rfl), (cvo (by (rw [cirS_new hci, hVd])) (by (rw [cirS_new hci, hVd])) o30), by omega, rfl⟩
     ·
      refine wp_exit (tx (tx (bx (tn (wp_seq ?_)))))
      refine gI a36 s31 ok33 (gM q181 (gB 0 (gC (Ty.int (0 : Int)) (gE ok33 fun a47 s41 ok43 D30 => ?_)))); have o31 := Own.k0 o20 D30.stp; refine tn (wp_ret ?_)
      exact retL2 rfl ok43 (F34.step0 D30.stp) ⟨g1, g3, (hasT2 (cvi (by (unfold rndN; rw [hE0, if_pos rfl, show i = g1.length by omega]; rfl)) (D30.dn 1 rfl rfl)) (cvi (by (exact hE0.symm)) (D30.dn 2 rfl rfl))), (by exact hp1), (by exact hp2)⟩


end Go.Proofs.Ytkjifbgofckfeaa
