/- The functions that the law ExtentMade reaches, each by its contract. Part 3. -/
import Derived.Test.YtkjifbgofckfeaaExtentMadeW2
namespace Go.Proofs.Ytkjifbgofckfeaa
open Go.KL

set_option maxHeartbeats 4000000 in
set_option maxRecDepth 100000 in
theorem rGensMay_fn (n : Int) (l : List (List Int)) (σ : GW)  (v0 v1 : Value) (hv0 : Ty.has (Ty.int n) σ v0) (hv1 : Ty.has (Ty.lst Ty.ints l) σ v1)   :
    FnC Try.prog 24 #[v0, v1] σ (Ty.int (gensMay n l)) := by
 refine fn_intro0 Try.func24 rfl Try.ntmps24 (Nat.le_of_ble_eq_true rfl) (fun s0 a0 hle F0 ok0 hargs => ?_)
 have p0 := pA hle (hargs 0 _ rfl) hv0
 have p1 := pA hle (hargs 1 _ rfl) hv1
 have b1 := sl_le p1
 clear hargs; refine wp_seq ?_
 refine gI a0 s0 ok0 (gC (Ty.int (0 : Int)) (gE ok0 fun a1 s1 ok1 D1 => ?_)); have q1 := D1.kt p0 rfl; have q2 := D1.kt p1 rfl; refine tn (wp_seq (wp_seq ?_))
 refine gI a1 s1 ok1 (gM q1 (gS rfl (fun A B E H I d0 => rP (y_lss (ed d0 rfl rfl rfl) rfl)) (gS rfl (fun A B E H I d0 => rP (y_move (ed d0 rfl rfl rfl))) (gS rfl (fun A B E H I d0 => gu H (ed d0 rfl rfl rfl) fun hg => y_move (kp (I 0 rfl) E q1)) (gS rfl (fun A B E H I d0 d1 => gu H (ed d1 rfl rfl rfl) fun hg => y_gtr ((ed d0 rfl rfl rfl).1 hg) rfl) (gS rfl (fun A B E H I d0 d1 => rP (y_pick_or (ed d0 rfl rfl rfl) rfl (ed d1 rfl rfl rfl))) (gS rfl (fun A B E H I d0 d1 => rP (y_move (ed d0 rfl rfl rfl))) (gT (Ty.grd (((decide (n < (1 : Int))) || (decide ((12 : Int) < n))) = false) (Ty.lst Ty.ints l)) rfl (by intro A B E H I d0; refine run_guard H rfl rfl (by decide) (ed d0 rfl rfl rfl) (fun hg => ?_); obtain ⟨d1, d2⟩ := Bool.or_eq_false_iff.mp hg; have d1 := of_decide_eq_false d1; have d2 := of_decide_eq_false d2; exact y_move (kp (I 1 rfl) E q2)) (gT (Ty.grd (((decide (n < (1 : Int))) || (decide ((12 : Int) < n))) = false) (Ty.nat (List.length l))) rfl (by intro A B E H I d0 d1; refine run_guard H rfl rfl (by decide) (ed d1 rfl rfl rfl) (fun hg => ?_); obtain ⟨d3, d4⟩ := Bool.or_eq_false_iff.mp hg; have d3 := of_decide_eq_false d3; have d4 := of_decide_eq_false d4; exact y_len Try.underlying24 ((ed d0 rfl rfl rfl).1 hg)) (gT (Ty.grd (((decide (n < (1 : Int))) || (decide ((12 : Int) < n))) = false) (Ty.bool (decide ((8 : Int) < (((List.length l) : Nat) : Int))))) rfl (by intro A B E H I d0 d1; refine run_guard H rfl rfl (by decide) (ed d1 rfl rfl rfl) (fun hg => ?_); obtain ⟨d5, d6⟩ := Bool.or_eq_false_iff.mp hg; have d5 := of_decide_eq_false d5; have d6 := of_decide_eq_false d6; exact y_gtr ((ed d0 rfl rfl rfl).1 hg) rfl) (gS rfl (fun A B E H I d0 d1 => rP (y_pick_or (ed d0 rfl rfl rfl) rfl (ed d1 rfl rfl rfl))) (gE ok1 fun a2 s2 ok2 D2 => ?_)))))))))))); have F2 := (F0.step0 D1.stp).step0 D2.stp; refine tn ?_
 refine cond_t (D2.dn 10 rfl rfl) (fun c1 => ?_) (fun c1 => ?_)
 ·
  simp only [Bool.or_eq_true, decide_eq_true_eq] at c1
  refine wp_seq ?_
  refine gI a2 s2 ok2 (gC (Ty.int (1 : Int)) (gE ok2 fun a3 s3 ok3 D3 => ?_)); refine tn (wp_ret (tr ?_))
  exact retL1 rfl ok3 (F2.step0 D3.stp) (cvi (by (exact (gensMay_no (by omega)).symm)) (D3.dn 0 rfl rfl))
 ·
  obtain ⟨d7, d8⟩ := Bool.or_eq_false_iff.mp c1
  obtain ⟨d9, d10⟩ := Bool.or_eq_false_iff.mp d7
  replace d9 := of_decide_eq_false d9
  replace d10 := of_decide_eq_false d10
  replace d8 := of_decide_eq_false d8
  have hg := gensMay_to (n := n) (l := l) (by omega)
  refine wp_skip (tn (wp_seq (wp_seq ?_)))
  refine gI a2 s2 ok2 (gC (Ty.int (0 : Int)) (gE ok2 fun a4 s4 ok4 D4 => ?_)); refine tn (wp_block ?_)
  refine loop (fun n1 a5 w1 => ∃ (t1 : GW) (k : Nat), t1.w = w1 ∧ FromL [] s0 t1 ∧ Ok 39 [] a5 ∧ At (Ty.nat k) t1 a5 (.tmp 5) ∧ At (Ty.int n) t1 a5 (.tmp 0) ∧ At (Ty.lst Ty.ints l) t1 a5 (.tmp 1) ∧ (k ≤ l.length) ∧ (gensTo n (l.drop k) = gensMay n l) ∧ n1 = l.length - k) (l.length - (0)) ?_ ?_
  ·
   exact ⟨s4, 0, rfl, (F2.step0 D4.stp), ok4, (cvi (by (first | rfl | omega | (simp_all; done) | (simp_all; omega))) (D4.dn 0 rfl rfl)), (D4.kt (D2.kt q1 rfl) rfl), (D4.kt (D2.kt q2 rfl) rfl), by omega, hg, rfl⟩
  ·
   rintro n2 a6 w2 ⟨t2, k, rfl, F5, ok5, q10, q11, q12, hk, hg0, rfl⟩
   refine wp_seq (wp_seq ?_)
   refine gI a6 t2 ok5 (gM q10 (gM q12 (gS rfl (fun A B E H I d0 => rP (y_len Try.underlying24 (ed d0 rfl rfl rfl))) (gS rfl (fun A B E H I d0 d1 => rP (y_lss (ed d0 rfl rfl rfl) (ed d1 rfl rfl rfl))) (gE ok5 fun a7 s5 ok6 D5 => ?_))))); have F6 := F5.step0 D5.stp; have q13 := D5.kt q10 rfl; have q15 := D5.kt q12 rfl; refine tn ?_
   refine cond_p (p := (((k : Nat) : Int) < (((List.length l) : Nat) : Int))) (D5.dn 3 rfl rfl) (fun c2 => ?_) (fun c2 => ?_)
   ·
    refine wp_skip (tn (wp_seq (wp_block (wp_seq ?_))))
    refine gI a7 s5 ok6 (gM q15 (gM q13 (gT (Ty.ref [(Ty.lst Ty.int (l.getD k []))]) rfl (fun A B E H I d0 d1 => rP (y_index1 Try.underlying24 Try.inf22 (ed d0 rfl rfl rfl) (ed d1 rfl rfl rfl) (by omega) (lst_get Ty.ints l [] k (by omega)))) (gS rfl (fun A B E H I d0 => rP (y_load Try.underlying22 rfl (ed d0 rfl rfl rfl) rfl)) (gS rfl (fun A B E H I d0 => rP (y_call _ Try.func36 rfl rfl my1 (rRowMay_fn ((l.getD k [])) _ _ (ed d0 rfl rfl rfl) ))) (gB 0 (gE ok6 fun a8 s6 ok7 D6 => ?_))))))); have q20 := D6.dn 5 rfl rfl; refine tn (wp_seq (wp_seq ?_))
    refine gI a8 s6 ok7 (gM q20 (gS rfl (fun A B E H I d0 => rP (y_neq (ed d0 rfl rfl rfl) rfl)) (gE ok7 fun a9 s7 ok8 D7 => ?_))); have F8 := (F6.step0 D6.stp).step0 D7.stp; have q21 := D7.kt (D6.kt q13 rfl) rfl; have q22 := D7.kt (D6.kt (D5.kt q11 rfl) rfl) rfl; have q23 := D7.kt (D6.kt q15 rfl) rfl; refine tn ?_
    refine cond_p (p := ((rowMay ((l.getD k []))) ≠ (0 : Int))) (D7.dn 1 rfl rfl) (fun c3 => ?_) (fun c3 => ?_)
    ·
     refine wp_seq ?_
     refine gI a9 s7 ok8 (gM (D7.kt q20 rfl) (gB 0 (gE ok8 fun a10 s8 ok9 D8 => ?_))); refine tn (wp_ret (tr (br (tr (tr (br (tr ?_)))))))
     exact retL1 rfl ok9 (F8.step0 D8.stp) (cvi (by (exact gens_row hg0 (by omega) (by assumption))) (D8.dn 1 rfl rfl))
    ·
     refine wp_skip (tn (wp_seq ?_))
     refine gI a9 s7 ok8 (gM q23 (gM q21 (gT (Ty.ref [(Ty.lst Ty.int (l.getD k []))]) rfl (fun A B E H I d0 d1 => rP (y_index1 Try.underlying24 Try.inf22 (ed d0 rfl rfl rfl) (ed d1 rfl rfl rfl) (by omega) (lst_get Ty.ints l [] k (by omega)))) (gS rfl (fun A B E H I d0 => rP (y_load Try.underlying22 rfl (ed d0 rfl rfl rfl) rfl)) (gS rfl (fun A B E H I d0 => rP (y_len Try.underlying22 (ed d0 rfl rfl rfl))) (gM q22 (gS rfl (fun A B E H I d0 d1 => rP (y_neq (ed d0 rfl rfl rfl) (ed d1 rfl rfl rfl))) (gE ok8 fun a11 s9 ok10 D9 => ?_)))))))); have F10 := F8.step0 D9.stp; refine tn ?_
     refine cond_p (p := ((((List.length (l.getD k [])) : Nat) : Int) ≠ n)) (D9.dn 6 rfl rfl) (fun c4 => ?_) (fun c4 => ?_)
     ·
      refine wp_seq ?_
      refine gI a11 s9 ok10 (gC (Ty.int (1 : Int)) (gE ok10 fun a12 s10 ok11 D10 => ?_)); refine tn (wp_ret (br (tr (tr (br (tr ?_))))))
      exact retL1 rfl ok11 (F10.step0 D10.stp) (cvi (by (exact gens_cnt hg0 (by omega) (by assumption) (by assumption))) (D10.dn 0 rfl rfl))
     ·
      refine wp_skip (bn (tn ?_))
      refine gI a11 s9 ok10 (gM (D9.kt q21 rfl) (gT (Ty.int (((k : Nat) : Int) + (1 : Int))) rfl (fun A B E H I d0 => rP (y_add (ed d0 rfl rfl rfl) rfl (w64 (by omega) (by omega)))) (gB 0 (gE ok10 fun a13 s11 ok12 D11 => ?_))))
      exact tn ⟨l.length - ((k+1)), by omega, s11, (k+1), rfl, (F10.step0 D11.stp), ok12, (cvi (by (first | rfl | omega | (simp_all; done) | (simp_all; omega))) (D11.dn 2 rfl rfl)), (D11.kt (D9.kt q22 rfl) rfl), (D11.kt (D9.kt q23 rfl) rfl), by omega, gens_step hg0 (by omega) (by assumption) (by assumption), rfl⟩
   ·
    refine wp_exit (tx (tx (bx (tn (wp_seq ?_)))))
    refine gI a7 s5 ok6 (gC (Ty.int (0 : Int)) (gE ok6 fun a14 s12 ok13 D12 => ?_)); refine tn (wp_ret ?_)
    exact retL1 rfl ok13 (F6.step0 D12.stp) (cvi (by (exact gens_end hg0 (by omega))) (D12.dn 0 rfl rfl))


set_option maxHeartbeats 4000000 in
set_option maxRecDepth 100000 in
theorem rThin_fn (n : Nat) (l : List (List Int)) (fr : Nat) (σ : GW) (hlow : Low [] σ) (v0 v1 v2 : Value) (hv0 : Ty.has (Ty.nat n) σ v0) (hv1 : Ty.has (Ty.lst Ty.ints l) σ v1) (hv2 : Ty.has (Ty.nat fr) σ v2)  (hn : 1 ≤ n ∧ n ≤ 12) (hf : fr ≤ n) (hl : ∀ x ∈ l, RowN n x ∧ Fx fr x) (hll : l.length ≤ 100000) :
    FnL Try.prog 66 #[v0, v1, v2] σ [] (fun v τ => ∃ (T : (List (List Int))), (Ty.has (Ty.lst Ty.ints (outT T (n * n))) τ v) ∧ (Thin n fr l T l.length)) := by
 have hnn : n * n ≤ 144 := Nat.mul_le_mul hn.2 hn.2
 refine fn_introL hlow Try.func66 rfl Try.ntmps66 (Nat.le_of_ble_eq_true rfl) (fun a0 F0 ok0 hargs => ?_)
 have p0 := pB (hargs 0 _ rfl) hv0
 have p1 := pB (hargs 1 _ rfl) hv1
 have b1 := sl_le p1
 have p2 := pB (hargs 2 _ rfl) hv2
 clear hargs; refine wp_seq ?_
 refine gI a0 σ ok0 (gC (Ty.val (Value.slice none 0 0)) (gE ok0 fun a1 s1 ok1 D1 => ?_)); have q1 := D1.kt p0 rfl; refine tn (wp_seq ?_)
 refine gI a1 s1 ok1 (gM q1 (gM q1 (gT (Ty.nat (n * n)) rfl (fun A B E H I d0 d1 => rP ((y_mul (ed d0 rfl rfl rfl) (ed d1 rfl rfl rfl) (w64 (by omega) (by omega))).mono (fun τ _ h => cvi (σ := τ) (by first | omega | exact (Int.natCast_mul _ _).symm) h))) (gR (Pr.own 5 22 1 (n * n) (List.map Ty.rowz (List.replicate (n * n) []))) rfl (by intro A B E H I d0 d1; have e2 := ed d0 rfl rfl rfl; exact rP ((y_make (k := 5) (T := Ty.rowz []) (n := (n * n)) Try.underlying24 Try.inf22 rfl (fun _ => rowz_nil) e2 e2 (by omega) (by omega)).mono (fun _ _ h => cvo (by simp) (by simp) h))) (gE2 ok1 fun a2 s2 ok2 D2 => ?_)))))
 obtain ⟨x1, hx1⟩ : ∃ x, a2.eval (.tmp 17) = x := ⟨_, rfl⟩
 have q7 : At (Ty.val x1) s2 a2 (.tmp 17) := hx1
 have o1 := al2 (R := (Pr.own 5 22 1 (n * n) (List.map Ty.rowz (List.replicate (n * n) [])))) hx1 (D2.done 3 (by decide))
 refine tL ok2 (Yld.toL (y_as q7)) fun a3 s3 hs1 ok3 r1 sm1 => ?_
 have F3 := ((F0.step0 D1.stp).step0 D2.stp).stepL hs1 (by decide); have q8 := kpL hs1 (by decide) (sm1 0 (by decide)) (D2.kt q1 rfl); have q9 := kpL hs1 (by decide) (sm1 1 (by decide)) (D2.kt (D1.kt p1 rfl) rfl); have q10 := kpL hs1 (by decide) (sm1 2 (by decide)) (D2.kt (D1.kt p2 rfl) rfl); have o2 := Own.keepL o1 hs1 (by decide) (by decide)
 have q11 : At (Ty.val x1) s3 a3 (.tmp 7) := r1
 clear r1; refine wpList_nil (tn (wp_seq (wp_seq ?_)))
 refine gI a3 s3 ok3 (gC (Ty.int (0 : Int)) (gE ok3 fun a4 s4 ok4 D3 => ?_)); have o3 := Own.k0 o2 D3.stp; refine tn (wp_block ?_)
 refine loop (fun n1 a5 w1 => ∃ (t1 : GW) (i : Nat) (T : (List (List Int))), t1.w = w1 ∧ FromL [] σ t1 ∧ Ok 84 [] a5 ∧ At (Ty.nat i) t1 a5 (.tmp 8) ∧ At (Ty.nat n) t1 a5 (.tmp 0) ∧ At (Ty.lst Ty.ints l) t1 a5 (.tmp 1) ∧ At (Ty.nat fr) t1 a5 (.tmp 2) ∧ At (Ty.val x1) t1 a5 (.tmp 7) ∧ Own t1 5 22 1 x1 (List.length T) (List.map Ty.rowz T) ∧ (i ≤ l.length) ∧ (Thin n fr l T i) ∧ n1 = l.length - i) (l.length - (0)) ?_ ?_
 ·
  exact ⟨s4, 0, (List.replicate (n * n) []), rfl, (F3.step0 D3.stp), ok4, (cvi (by (first | rfl | omega | (simp_all; done) | (simp_all; omega))) (D3.dn 0 rfl rfl)), (D3.kt q8 rfl), (D3.kt q9 rfl), (D3.kt q10 rfl), (D3.kt q11 rfl), (cvo (by (simp)) (by (simp)) o3), by omega, Thin.start, rfl⟩
 ·
  rintro n2 a6 w2 ⟨t2, i, T, rfl, F5, ok5, q17, q18, q19, q20, q21, o4, hi, hT, rfl⟩
  have hTl := hT.len
  refine wp_seq (wp_seq ?_)
  refine gI a6 t2 ok5 (gM q17 (gM q19 (gS rfl (fun A B E H I d0 => rP (y_len Try.underlying24 (ed d0 rfl rfl rfl))) (gS rfl (fun A B E H I d0 d1 => rP (y_lss (ed d0 rfl rfl rfl) (ed d1 rfl rfl rfl))) (gE ok5 fun a7 s5 ok6 D4 => ?_))))); have F6 := F5.step0 D4.stp; have q22 := D4.kt q17 rfl; have q23 := D4.kt q18 rfl; have q24 := D4.kt q19 rfl; have q26 := D4.kt q21 rfl; have o5 := Own.k0 o4 D4.stp; refine tn ?_
  refine cond_p (p := (((i : Nat) : Int) < (((List.length l) : Nat) : Int))) (D4.dn 3 rfl rfl) (fun c1 => ?_) (fun c1 => ?_)
  ·
   refine wp_skip (tn (wp_seq (wp_block (wp_seq ?_))))
   refine gI a7 s5 ok6 (gM q24 (gM q22 (gT (Ty.ref [(Ty.lst Ty.int (l.getD i []))]) rfl (fun A B E H I d0 d1 => rP (y_index1 Try.underlying24 Try.inf22 (ed d0 rfl rfl rfl) (ed d1 rfl rfl rfl) (by omega) (lst_get Ty.ints l [] i (by omega)))) (gS rfl (fun A B E H I d0 => rP (y_load Try.underlying22 rfl (ed d0 rfl rfl rfl) rfl)) (gB 0 (gE ok6 fun a8 s6 ok7 D5 => ?_)))))); have q31 := D5.kt (D4.kt q20 rfl) rfl; have o6 := Own.k0 o5 D5.stp; refine tn (wp_seq ?_)
   refine gI a8 s6 ok7 (gM q31 (gB 0 (gE ok7 fun a9 s7 ok8 D6 => ?_))); have o7 := Own.k0 o6 D6.stp; refine tn (wp_block ?_)
   refine loop (fun n3 a10 w3 => ∃ (t3 : GW) (b : Nat) (q : (List Int)), t3.w = w3 ∧ FromL [] σ t3 ∧ Ok 84 [] a10 ∧ At (Ty.nat b) t3 a10 (.tmp 10) ∧ At (Ty.lst Ty.int q) t3 a10 (.tmp 9) ∧ At (Ty.nat i) t3 a10 (.tmp 8) ∧ At (Ty.nat n) t3 a10 (.tmp 0) ∧ At (Ty.lst Ty.ints l) t3 a10 (.tmp 1) ∧ At (Ty.nat fr) t3 a10 (.tmp 2) ∧ At (Ty.val x1) t3 a10 (.tmp 7) ∧ Own t3 5 22 1 x1 (List.length T) (List.map Ty.rowz T) ∧ (ThinR n fr l T i b q) ∧ n3 = 2 * (n - b) + mzB q b) (2 * (n - (fr)) + mzB ((l.getD i [])) (fr)) ?_ ?_
   ·
    exact ⟨s7, fr, (l.getD i []), rfl, ((F6.step0 D5.stp).step0 D6.stp), ok8, (cvi (by (first | rfl | omega | (simp_all; done) | (simp_all; omega))) (D6.dn 1 rfl rfl)), (cvt (by (first | rfl | omega | (simp_all; done) | (simp_all; omega))) (D6.kt (D5.dn 4 rfl rfl) rfl)), (D6.kt (D5.kt q22 rfl) rfl), (D6.kt (D5.kt q23 rfl) rfl), (D6.kt (D5.kt q24 rfl) rfl), (D6.kt q31 rfl), (D6.kt (D5.kt q26 rfl) rfl), o7, hT.row hn (by omega) hf hl, rfl⟩
   ·
    rintro n4 a11 w4 ⟨t4, b, q, rfl, F9, ok9, q41, q42, q43, q44, q45, q46, q47, o8, hR, rfl⟩
    have hql := hR.row.len
    refine wp_seq (wp_seq ?_)
    refine gI a11 t4 ok9 (gM q41 (gM q44 (gS rfl (fun A B E H I d0 d1 => rP (y_lss (ed d0 rfl rfl rfl) (ed d1 rfl rfl rfl))) (gE ok9 fun a12 s8 ok10 D7 => ?_)))); have F10 := F9.step0 D7.stp; have q48 := D7.kt q41 rfl; have q49 := D7.kt q42 rfl; have q50 := D7.kt q43 rfl; have q51 := D7.kt q44 rfl; have q52 := D7.kt q45 rfl; have q53 := D7.kt q46 rfl; have q54 := D7.kt q47 rfl; have o9 := Own.k0 o8 D7.stp; refine tn ?_
    refine cond_p (p := (((b : Nat) : Int) < ((n : Nat) : Int))) (D7.dn 2 rfl rfl) (fun c2 => ?_) (fun c2 => ?_)
    ·
     have hkey := hR.key (by omega)
     refine wp_skip (tn (wp_block (wp_seq (wp_seq ?_))))
     refine gI a12 s8 ok10 (gM q49 (gM q48 (gT (Ty.ref [(Ty.int (q.getD b 0))]) rfl (fun A B E H I d0 d1 => rP (y_index1 Try.underlying22 Try.inf3 (ed d0 rfl rfl rfl) (ed d1 rfl rfl rfl) (by omega) (lst_get Ty.int q 0 b (by omega)))) (gS rfl (fun A B E H I d0 => rP (y_load Try.underlying3 rfl (ed d0 rfl rfl rfl) rfl)) (gM q48 (gS rfl (fun A B E H I d0 d1 => rP (y_eql (ed d0 rfl rfl rfl) (ed d1 rfl rfl rfl))) (gE ok10 fun a13 s9 ok11 D8 => ?_))))))); have F11 := F10.step0 D8.stp; have q56 := D8.kt q48 rfl; have q57 := D8.kt q49 rfl; have q58 := D8.kt q50 rfl; have q59 := D8.kt q51 rfl; have q60 := D8.kt q52 rfl; have q61 := D8.kt q53 rfl; have q62 := D8.kt q54 rfl; have o10 := Own.k0 o9 D8.stp; refine tn ?_
     refine cond_p (p := ((q.getD b 0) = ((b : Nat) : Int))) (D8.dn 5 rfl rfl) (fun c3 => ?_) (fun c3 => ?_)
     ·
      have hqb : q.getD b 0 = (b : Int) := c3; have hz1 := mzB_le q (b + 1)
      refine wp_seq ?_
      refine gI a13 s9 ok11 (gM q56 (gT (Ty.nat (b + 1)) rfl (fun A B E H I d0 => rP ((y_add (ed d0 rfl rfl rfl) rfl (w64 (by omega) (by omega))).mono (fun τ _ h => cvi (σ := τ) (by first | omega | exact (Int.natCast_mul _ _).symm) h))) (gB 0 (gE ok11 fun a14 s10 ok12 D9 => ?_)))); have o11 := Own.k0 o10 D9.stp; refine tn (wp_exit (tx (bx ?_)))
      exact tn ⟨2 * (n - ((b + 1))) + mzB q ((b + 1)), by omega, s10, (b + 1), q, rfl, (F11.step0 D9.stp), ok12, (cvi (by (first | rfl | omega | (simp_all; done) | (simp_all; omega))) (D9.dn 2 rfl rfl)), (D9.kt q57 rfl), (D9.kt q58 rfl), (D9.kt q59 rfl), (D9.kt q60 rfl), (D9.kt q61 rfl), (D9.kt q62 rfl), o11, hR.skip (by omega) hqb, rfl⟩
     ·
      have hqb : ¬ q.getD b 0 = (b : Int) := c3; have hz1 := mzB_1 hqb
      refine wp_skip (tn (wp_seq ?_))
      refine gI a13 s9 ok11 (gM q56 (gM q59 (gT (Ty.nat (b * n)) rfl (fun A B E H I d0 d1 => rP ((y_mul (ed d0 rfl rfl rfl) (ed d1 rfl rfl rfl) (w64 (by omega) (by omega))).mono (fun τ _ h => cvi (σ := τ) (by first | omega | exact (Int.natCast_mul _ _).symm) h))) (gM q57 (gM q56 (gT (Ty.ref [(Ty.int (q.getD b 0))]) rfl (fun A B E H I d0 d1 => rP (y_index1 Try.underlying22 Try.inf3 (ed d0 rfl rfl rfl) (ed d1 rfl rfl rfl) (by omega) (lst_get Ty.int q 0 b (by omega)))) (gS rfl (fun A B E H I d0 => rP (y_load Try.underlying3 rfl (ed d0 rfl rfl rfl) rfl)) (gT (Ty.int ((((b * n) : Nat) : Int) + (q.getD b 0))) rfl (fun A B E H I d0 d1 => rP (y_add (ed d0 rfl rfl rfl) (ed d1 rfl rfl rfl) (w64 (by omega) (by omega)))) (gB 0 (gE ok11 fun a15 s11 ok13 D10 => ?_)))))))))); have q77 := D10.kt q62 rfl; have o12 := Own.k0 o10 D10.stp
      have q79 : At (Ty.nat (b * n + (q.getD b 0).toNat)) s11 a15 (.tmp 11) := (cvi (by (omega)) (D10.dn 8 rfl rfl))
      refine tn (wp_seq (wp_seq ?_))
      refine gI a15 s11 ok13 (gM q77 (gM q79 (gT (Ty.val (cellPtr x1 (b * n + (q.getD b 0).toNat))) rfl (fun A B E H I d0 d1 => rP (own_index1 (i := (((b * n + (q.getD b 0).toNat) : Nat) : Int)) Try.underlying24 Try.inf22 (Own.k0 o12 E) (ed d0 rfl rfl rfl) (ed d1 rfl rfl rfl) (by omega) (by omega))) (gS rfl (fun A B E H I d0 => rP (own_load Try.underlying22 rfl (Own.k0 o12 E) (ed d0 rfl rfl rfl) (lst_get Ty.rowz T [] (b * n + (q.getD b 0).toNat) (by omega)))) (gT (Ty.bool (decide ((T.getD (b * n + (q.getD b 0).toNat) []) = []))) rfl (fun A B E H I d0 => rP (y_rzeq Try.underlying22 (ed d0 rfl rfl rfl) rfl)) (gE ok13 fun a16 s12 ok14 D11 => ?_)))))); have F14 := (F11.step0 D10.stp).step0 D11.stp; have q81 := D11.kt (D10.kt q57 rfl) rfl; have q82 := D11.kt (D10.kt q58 rfl) rfl; have q83 := D11.kt (D10.kt q59 rfl) rfl; have q84 := D11.kt (D10.kt q60 rfl) rfl; have q85 := D11.kt (D10.kt q61 rfl) rfl; have q86 := D11.kt q77 rfl; have q87 := D11.kt q79 rfl; have o13 := Own.k0 o12 D11.stp; refine tn ?_
      refine cond_p (p := ((T.getD (b * n + (q.getD b 0).toNat) []) = [])) (D11.dn 4 rfl rfl) (fun c4 => ?_) (fun c4 => ?_)
      ·
       have hT2 := hR.lay (by omega) c4
       refine wp_seq ?_
       have q89 : At (Ty.rowz q) s12 a16 (.tmp 9) := rowz_of q81 (by intro e_; rw [e_] at hql; simp at hql; omega)
       refine gI a16 s12 ok14 (gM q86 (gM q87 (gM q89 (gT (Ty.val (cellPtr x1 (b * n + (q.getD b 0).toNat))) rfl (fun A B E H I d0 d1 d2 d3 d4 => rP (own_index1 (i := (((b * n + (q.getD b 0).toNat) : Nat) : Int)) Try.underlying24 Try.inf22 (Own.k0 o13 E) (ed d0 rfl rfl rfl) (ed d1 rfl rfl rfl) (by omega) (by omega))) (gE2 ok14 fun a17 s13 ok15 D12 => ?_))))); have o14 := Own.k0 o13 D12.stp
       refine tailL0 (L := [5]) (R := (fun _ τ => Own τ 5 22 1 x1 (List.length T) ((List.map Ty.rowz T).set (b * n + (q.getD b 0).toNat) (Ty.rowz q)))) rfl rfl (YldM.toL (m_store Try.inf22 (by decide) o14 (D12.dn 3 (by decide) rfl rfl) (by simp only [List.length_map, List.length_set]; omega) (D12.dn 2 (by decide) rfl rfl) (one_rowz))) (fun v1 s14 hs2 r2 => ?_)
       have F16 := (F14.step0 D12.stp).stepL hs2 (by decide); have q97 := kpL hs2 (by decide) rfl (D12.kt q82 rfl); have q98 := kpL hs2 (by decide) rfl (D12.kt q83 rfl); have q99 := kpL hs2 (by decide) rfl (D12.kt q84 rfl); have q100 := kpL hs2 (by decide) rfl (D12.kt q85 rfl); have q101 := kpL hs2 (by decide) rfl (D12.kt q86 rfl)
       have o15 : Own s14 5 22 1 x1 (List.length (T.set (b * n + (q.getD b 0).toNat) q)) (List.map Ty.rowz (T.set (b * n + (q.getD b 0).toNat) q)) := (cvo (by simp) (by first | (simp; done) | (rw [List.map_set]; done) | (rw [List.map_set]; rfl)) r2)
       clear r2; refine wpList_nil (tn (wp_exit (tx ?_)))
       refine bo (by decide) ?_
       refine tx (bx (bn (tn ?_)))
       refine gI a17 s14 ok15 (gM q97 (gT (Ty.nat (i + 1)) rfl (fun A B E H I d0 => rP ((y_add (ed d0 rfl rfl rfl) rfl (w64 (by omega) (by omega))).mono (fun τ _ h => cvi (σ := τ) (by first | omega | exact (Int.natCast_mul _ _).symm) h))) (gB 0 (gE ok15 fun a18 s15 ok16 D13 => ?_)))); have o16 := Own.k0 o15 D13.stp
       exact tn ⟨l.length - ((i+1)), by omega, s15, (i+1), (T.set (b * n + (q.getD b 0).toNat) q), rfl, (F16.step0 D13.stp), ok16, (cvi (by (first | rfl | omega | (simp_all; done) | (simp_all; omega))) (D13.dn 2 rfl rfl)), (D13.kt q98 rfl), (D13.kt q99 rfl), (D13.kt q100 rfl), (D13.kt q101 rfl), (cvo (by (simp)) (by (simp)) o16), by omega, hT2, rfl⟩
      ·
       obtain ⟨hd1, hd2, hd3, hd4⟩ := hR.divide hn (by omega) c4; have hz0 := mzB_0 hd4
       refine wp_skip (tn ?_)
       refine gI a16 s12 ok14 (gM q86 (gM q87 (gT (Ty.val (cellPtr x1 (b * n + (q.getD b 0).toNat))) rfl (fun A B E H I d0 d1 => rP (own_index1 (i := (((b * n + (q.getD b 0).toNat) : Nat) : Int)) Try.underlying24 Try.inf22 (Own.k0 o13 E) (ed d0 rfl rfl rfl) (ed d1 rfl rfl rfl) (by omega) (by omega))) (gT (Ty.lst Ty.int (T.getD (b * n + (q.getD b 0).toNat) [])) rfl (fun A B E H I d0 => rP ((own_load Try.underlying22 rfl (Own.k0 o13 E) (ed d0 rfl rfl rfl) (lst_get Ty.rowz T [] (b * n + (q.getD b 0).toNat) (by omega))).mono (fun _ _ h => rowz_ints h))) (gS rfl (fun A B E H I d0 => rP (y_call _ Try.func23 rfl rfl my1 (rUndo_fn ((T.getD (b * n + (q.getD b 0).toNat) [])) _ _ (ed d0 rfl rfl rfl) (by assumption)))) (gM q81 (gS rfl (fun A B E H I d0 d1 d2 => rP (y_call _ Try.func22 rfl rfl my2 (rBy_fn ((undoL ((T.getD (b * n + (q.getD b 0).toNat) [])))) (q) _ _ _ (ed d0 rfl rfl rfl) (ed d1 rfl rfl rfl) (by first | assumption | omega) (by first | assumption | omega)))) (gB 0 (gE ok14 fun a19 s16 ok17 D14 => ?_))))))))); have o17 := Own.k0 o13 D14.stp; refine bn ?_
       exact tn ⟨2 * (n - b) + mzB ((byL (undoL (T.getD (b * n + (q.getD b 0).toNat) [])) q)) b, by omega, s16, b, (byL (undoL (T.getD (b * n + (q.getD b 0).toNat) [])) q), rfl, (F14.step0 D14.stp), ok17, (D14.kt (D11.kt (D10.kt q56 rfl) rfl) rfl), (cvt (by (first | rfl | omega | (simp_all; done) | (simp_all; omega))) (D14.dn 7 rfl rfl)), (D14.kt q82 rfl), (D14.kt q83 rfl), (D14.kt q84 rfl), (D14.kt q85 rfl), (D14.kt q86 rfl), o17, hd3, rfl⟩
    ·
     have hT3 : Thin n fr l T (i + 1) := by (have eb : b = n := (by have h_ := hR.fb.2; omega); subst eb; exact hR.gone hn)
     refine wp_exit (tx (tx (bx (bn (tn ?_)))))
     refine gI a12 s8 ok10 (gM q50 (gT (Ty.nat (i + 1)) rfl (fun A B E H I d0 => rP ((y_add (ed d0 rfl rfl rfl) rfl (w64 (by omega) (by omega))).mono (fun τ _ h => cvi (σ := τ) (by first | omega | exact (Int.natCast_mul _ _).symm) h))) (gB 0 (gE ok10 fun a20 s17 ok18 D15 => ?_)))); have o18 := Own.k0 o9 D15.stp
     exact tn ⟨l.length - ((i+1)), by omega, s17, (i+1), T, rfl, (F10.step0 D15.stp), ok18, (cvi (by (first | rfl | omega | (simp_all; done) | (simp_all; omega))) (D15.dn 2 rfl rfl)), (D15.kt q51 rfl), (D15.kt q52 rfl), (D15.kt q53 rfl), (D15.kt q54 rfl), o18, by omega, hT3, rfl⟩
  ·
   have ei : i = l.length := (by omega); rw [ei] at hT
   refine wp_exit (tx (tx (bx (tn (wp_seq ?_)))))
   refine gI a7 s5 ok6 (gC (Ty.val (Value.slice none 0 0)) (gE ok6 fun a21 s18 ok19 D16 => ?_)); have o19 := Own.k0 o5 D16.stp; refine tn (wp_seq (wp_seq ?_))
   refine gI a21 s18 ok19 (gC (Ty.int (0 : Int)) (gE ok19 fun a22 s19 ok20 D17 => ?_)); have o20 := Own.k0 o19 D17.stp; refine tn (wp_block ?_)
   have o21 : Own s19 6 22 1 (Value.slice none 0 0) 0 (List.map Ty.ints ([] : List (List Int))) := Own.nil _ _ _ _
   refine loop (fun n5 a23 w5 => ∃ (t5 : GW) (k : Nat) (x12_2 : Value), t5.w = w5 ∧ FromL [] σ t5 ∧ Ok 84 [] a23 ∧ At (Ty.nat k) t5 a23 (.tmp 13) ∧ At (Ty.val x12_2) t5 a23 (.tmp 12) ∧ At (Ty.nat n) t5 a23 (.tmp 0) ∧ At (Ty.val x1) t5 a23 (.tmp 7) ∧ Own t5 6 22 1 x12_2 (List.length (outT T k)) (List.map Ty.ints (outT T k)) ∧ Own t5 5 22 1 x1 (List.length T) (List.map Ty.rowz T) ∧ (k ≤ n * n) ∧ n5 = n * n - k) (n * n - (0)) ?_ ?_
   ·
    exact ⟨s19, 0, (Value.slice none 0 0), rfl, ((F6.step0 D16.stp).step0 D17.stp), ok20, (cvi (by (first | rfl | omega | (simp_all; done) | (simp_all; omega))) (D17.dn 0 rfl rfl)), (D17.kt (D16.dn 0 rfl rfl) rfl), (D17.kt (D16.kt q23 rfl) rfl), (D17.kt (D16.kt q26 rfl) rfl), (cvo (by (first | rfl | simp)) (by (first | rfl | simp)) o21), o20, by omega, rfl⟩
   ·
    rintro n6 a24 w6 ⟨t6, k, x12_2, rfl, F22, ok21, q127, q128, q129, q130, o22, o23, hk, rfl⟩
    have hol := outT_le T k
    have hTl2 := hT.len
    refine wp_seq (wp_seq ?_)
    refine gI a24 t6 ok21 (gM q127 (gM q129 (gM q129 (gT (Ty.nat (n * n)) rfl (fun A B E H I d0 d1 => rP ((y_mul (ed d0 rfl rfl rfl) (ed d1 rfl rfl rfl) (w64 (by omega) (by omega))).mono (fun τ _ h => cvi (σ := τ) (by first | omega | exact (Int.natCast_mul _ _).symm) h))) (gS rfl (fun A B E H I d0 d1 => rP (y_lss (ed d0 rfl rfl rfl) (ed d1 rfl rfl rfl))) (gE ok21 fun a25 s20 ok22 D18 => ?_)))))); have F23 := F22.step0 D18.stp; have q131 := D18.kt q127 rfl; have q132 := D18.kt q128 rfl; have q134 := D18.kt q130 rfl; have o24 := Own.k0 o22 D18.stp; have o25 := Own.k0 o23 D18.stp; refine tn ?_
    refine cond_p (p := (((k : Nat) : Int) < (((n * n) : Nat) : Int))) (D18.dn 4 rfl rfl) (fun c5 => ?_) (fun c5 => ?_)
    ·
     refine wp_skip (tn (wp_seq (wp_block (wp_seq ?_))))
     refine gI a25 s20 ok22 (gM q134 (gM q131 (gT (Ty.val (cellPtr x1 k)) rfl (fun A B E H I d0 d1 => rP (own_index1 (i := ((k : Nat) : Int)) Try.underlying24 Try.inf22 (Own.k0 o25 E) (ed d0 rfl rfl rfl) (ed d1 rfl rfl rfl) (by omega) (by omega))) (gS rfl (fun A B E H I d0 => rP (own_load Try.underlying22 rfl (Own.k0 o25 E) (ed d0 rfl rfl rfl) (lst_get Ty.rowz T [] k (by omega)))) (gT (Ty.bool (decide ((T.getD k []) ≠ []))) rfl (fun A B E H I d0 => rP (y_rzne Try.underlying22 (ed d0 rfl rfl rfl) rfl)) (gE ok22 fun a26 s21 ok23 D19 => ?_)))))); have F24 := F23.step0 D19.stp; have q136 := D19.kt q131 rfl; have q137 := D19.kt q132 rfl; have q138 := D19.kt (D18.kt q129 rfl) rfl; have q139 := D19.kt q134 rfl; have o26 := Own.k0 o24 D19.stp; have o27 := Own.k0 o25 D19.stp; refine tn ?_
     refine cond_p (p := ((T.getD k []) ≠ [])) (D19.dn 4 rfl rfl) (fun c6 => ?_) (fun c6 => ?_)
     ·
      refine gI a26 s21 ok23 (gM q137 (gM q139 (gM q136 (gT (Ty.val (cellPtr x1 k)) rfl (fun A B E H I d0 d1 => rP (own_index1 (i := ((k : Nat) : Int)) Try.underlying24 Try.inf22 (Own.k0 o27 E) (ed d0 rfl rfl rfl) (ed d1 rfl rfl rfl) (by omega) (by omega))) (gT (Ty.lst Ty.int (T.getD k [])) rfl (fun A B E H I d0 => rP ((own_load Try.underlying22 rfl (Own.k0 o27 E) (ed d0 rfl rfl rfl) (lst_get Ty.rowz T [] k (by omega))).mono (fun _ _ h => rowz_ints h))) (gT (Ty.sl 1 1 [(Ty.lst Ty.int (T.getD k []))]) rfl (fun A B E H I d0 => rP (y_build1o Try.underlying24 Try.inf22 rfl (one_sl) (ed d0 rfl rfl rfl))) (gE2 ok23 fun a27 s22 ok24 D20 => ?_))))))); have o28 := Own.k0 o26 D20.stp; have o29 := Own.k0 o27 D20.stp
      have q145 : At (Ty.val x12_2) s22 a27 (.tmp 76) := D20.done 0 (by decide)
      have q146 := D20.dn 5 (by decide) rfl rfl
      have b2 := sl_le q146
      refine tL ok24 (YldM.toL (m_append Try.underlying24 Try.inf22 (by decide) rfl (by decide) (al (R := (Pr.own 6 22 1 (List.length (outT T k)) (List.map Ty.ints (outT T k)))) q145 o28) q146 (by intro U hU; simp at hU; subst hU; exact one_sl) (by omega) (by omega))) fun a28 s23 hs3 ok25 r3 sm2 => ?_
      have F26 := (F24.step0 D20.stp).stepL hs3 (by decide); have q147 := kpL hs3 (by decide) (sm2 13 (by decide)) (D20.kt q136 rfl); have q148 := kpL hs3 (by decide) (sm2 12 (by decide)) (D20.kt q137 rfl); have q149 := kpL hs3 (by decide) (sm2 0 (by decide)) (D20.kt q138 rfl); have q150 := kpL hs3 (by decide) (sm2 7 (by decide)) (D20.kt q139 rfl); have o31 := Own.keepL o29 hs3 (by decide) (by decide)
      obtain ⟨x2, hx2⟩ : ∃ x, a28.eval (.tmp 82) = x := ⟨_, rfl⟩
      have q151 : At (Ty.val x2) s23 a28 (.tmp 82) := hx2
      have o30 := al2 (R := (Pr.own 6 22 1 (List.length ((outT T k) ++ [(T.getD k [])])) (List.map Ty.ints ((outT T k) ++ [(T.getD k [])])))) hx2 (cvo (by simp) (by first | (rw [List.map_append]; rfl) | simp) r3)
      clear r3
      refine tL ok25 (Yld.toL (y_as q151)) fun a29 s24 hs4 ok26 r4 sm3 => ?_
      have F27 := F26.stepL hs4 (by decide); have q152 := kpL hs4 (by decide) (sm3 13 (by decide)) q147; have q153 := kpL hs4 (by decide) (sm3 0 (by decide)) q149; have q154 := kpL hs4 (by decide) (sm3 7 (by decide)) q150; have o32 := Own.keepL o31 hs4 (by decide) (by decide); have o33 := Own.keepL o30 hs4 (by decide) (by decide)
      have q155 : At (Ty.val x2) s24 a29 (.tmp 12) := r4
      clear r4; refine wpList_nil (bn (tn ?_))
      refine gI a29 s24 ok26 (gM q152 (gT (Ty.nat (k + 1)) rfl (fun A B E H I d0 => rP ((y_add (ed d0 rfl rfl rfl) rfl (w64 (by omega) (by omega))).mono (fun τ _ h => cvi (σ := τ) (by first | omega | exact (Int.natCast_mul _ _).symm) h))) (gB 0 (gE ok26 fun a30 s25 ok27 D21 => ?_)))); have o34 := Own.k0 o32 D21.stp; have o35 := Own.k0 o33 D21.stp
      exact tn ⟨n * n - ((k+1)), by omega, s25, (k+1), x2, rfl, (F27.step0 D21.stp), ok27, (cvi (by (first | rfl | omega | (simp_all; done) | (simp_all; omega))) (D21.dn 2 rfl rfl)), (D21.kt q155 rfl), (D21.kt q153 rfl), (D21.kt q154 rfl), (cvo (by (first | (rw [outT_yes (by omega) c6]; done) | (rw [outT_yes (by omega) c6]; simp))) (by (first | (rw [outT_yes (by omega) c6]; done) | (rw [outT_yes (by omega) c6]; simp))) o35), o34, by omega, rfl⟩
     ·
      have h6 : T.getD k [] = [] := Classical.not_not.1 c6
      refine wp_skip (bn (tn ?_))
      refine gI a26 s21 ok23 (gM q136 (gT (Ty.nat (k + 1)) rfl (fun A B E H I d0 => rP ((y_add (ed d0 rfl rfl rfl) rfl (w64 (by omega) (by omega))).mono (fun τ _ h => cvi (σ := τ) (by first | omega | exact (Int.natCast_mul _ _).symm) h))) (gB 0 (gE ok23 fun a31 s26 ok28 D22 => ?_)))); have o36 := Own.k0 o26 D22.stp; have o37 := Own.k0 o27 D22.stp
      exact tn ⟨n * n - ((k+1)), by omega, s26, (k+1), x12_2, rfl, (F24.step0 D22.stp), ok28, (cvi (by (first | rfl | omega | (simp_all; done) | (simp_all; omega))) (D22.dn 2 rfl rfl)), (D22.kt q137 rfl), (D22.kt q138 rfl), (D22.kt q139 rfl), (cvo (by (first | rw [outT_no (by omega) h6] | (rw [outT_no (by omega) h6]; simp))) (by (first | rw [outT_no (by omega) h6] | (rw [outT_no (by omega) h6]; simp))) o36), o37, by omega, rfl⟩
    ·
     refine wp_exit (tx (tx (bx (tn (wp_seq ?_)))))
     refine gI a25 s20 ok22 (gM q132 (gB 0 (gE ok22 fun a32 s27 ok29 D23 => ?_))); have o38 := Own.k0 o24 D23.stp; have o39 := Own.k0 o25 D23.stp
     have q164 : At (Ty.val x12_2) s27 a32 (.tmp 6) := D23.done 1
     refine tn (wp_ret ?_)
     obtain ⟨t7, e1, h1, q165⟩ := Own.seal o38 (by decide)
     rw [← e1]
     have F31 := (F23.step0 D23.stp).step h1 (by decide)
     have q166 : At (Ty.lst Ty.ints (outT T k)) t7 a32 (.tmp 6) := by have e : a32.eval (.tmp 6) = x12_2 := q164; show Ty.has _ _ _; rw [e]; exact q165
     exact retL1 rfl ok29 F31 ⟨T, (cvt (by (rw [show k = n * n by omega])) q166), (by exact hT)⟩


set_option maxHeartbeats 4000000 in
set_option maxRecDepth 100000 in
theorem rSizes_fn (n : Nat) (gens : List (List Int)) (σ : GW)  (v0 v1 : Value) (hv0 : Ty.has (Ty.nat n) σ v0) (hv1 : Ty.has (Ty.lst Ty.ints gens) σ v1)  (hn : 1 ≤ n ∧ n ≤ 12) (hg : ∀ x ∈ gens, RowN n x) (hgl : gens.length ≤ 1000) :
    FnC Try.prog 20 #[v0, v1] σ (Ty.nat (szTo n (fun y => y ∈ gens) n)) := by
 have hn12 := hn.2
 have hsb := fun k => szTo_bd (n := n) (S := fun y => y ∈ gens) (k := k) hn.2
 refine fn_intro0 Try.func20 rfl Try.ntmps20 (Nat.le_of_ble_eq_true rfl) (fun s0 a0 hle F0 ok0 hargs => ?_)
 have p0 := pA hle (hargs 0 _ rfl) hv0
 have p1 := pA hle (hargs 1 _ rfl) hv1
 have b1 := sl_le p1
 clear hargs; refine wp_seq ?_
 refine gI a0 s0 ok0 (gC (Ty.int (0 : Int)) (gE ok0 fun a1 s1 ok1 D1 => ?_)); refine tn (wp_seq ?_)
 refine gI a1 s1 ok1 (gC (Ty.int (1 : Int)) (gE ok1 fun a2 s2 ok2 D2 => ?_)); refine tn (wp_seq ?_)
 refine gI a2 s2 ok2 (gC (Ty.int (0 : Int)) (gE ok2 fun a3 s3 ok3 D3 => ?_)); refine tn (wp_seq (wp_block ?_))
 refine loop (fun n1 a4 w1 => ∃ (t1 : GW) (k : Nat) (G : (List (List Int))), t1.w = w1 ∧ FromL [] s0 t1 ∧ Ok 131 [] a4 ∧ At (Ty.nat k) t1 a4 (.tmp 6) ∧ At (Ty.lst Ty.ints G) t1 a4 (.tmp 1) ∧ At (Ty.nat (szTo n (fun y => y ∈ gens) k)) t1 a4 (.tmp 5) ∧ At (Ty.nat n) t1 a4 (.tmp 0) ∧ (k ≤ n) ∧ (SzI n gens k G) ∧ n1 = n - k) (n - (0)) ?_ ?_
 ·
  exact ⟨s3, 0, gens, rfl, (((F0.step0 D1.stp).step0 D2.stp).step0 D3.stp), ok3, (cvi (by (first | rfl | omega | (simp_all; done) | (simp_all; omega))) (D3.dn 0 rfl rfl)), (cvt (by (first | rfl | omega | (simp_all; done) | (simp_all; omega))) (D3.kt (D2.kt (D1.kt p1 rfl) rfl) rfl)), (cvi (by (rfl)) (D3.kt (D2.dn 0 rfl rfl) rfl)), (D3.kt (D2.kt (D1.kt p0 rfl) rfl) rfl), by omega, SzI.start hg (by omega), rfl⟩
 ·
  rintro n2 a5 w2 ⟨t2, k, G, rfl, F4, ok4, q10, q11, q12, q13, hk, hZ, rfl⟩
  have hGl := hZ.len
  have hGr := hZ.rows
  refine wp_seq (wp_seq ?_)
  refine gI a5 t2 ok4 (gM q10 (gM q13 (gS rfl (fun A B E H I d0 d1 => rP (y_lss (ed d0 rfl rfl rfl) (ed d1 rfl rfl rfl))) (gE ok4 fun a6 s4 ok5 D4 => ?_)))); have F5 := F4.step0 D4.stp; have q14 := D4.kt q10 rfl; have q16 := D4.kt q12 rfl; refine tn ?_
  refine cond_p (p := (((k : Nat) : Int) < ((n : Nat) : Int))) (D4.dn 2 rfl rfl) (fun c1 => ?_) (fun c1 => ?_)
  ·
   refine wp_skip (tn (wp_block (wp_seq ?_)))
   refine gI a6 s4 ok5 (gM q14 (gR (Pr.own 20 3 1 1 (List.map Ty.int [((k : Nat) : Int)])) rfl (by intro A B E H I d0; exact rP ((y_lit1 (k := 20) Try.underlying22 Try.inf3 rfl (one_val rfl) (ed d0 rfl rfl rfl)).mono (fun _ _ h => cvo (by simp) (by first | (simp; done) | rfl) h))) (gE2 ok5 fun a7 s5 ok6 D5 => ?_)))
   obtain ⟨x1, hx1⟩ : ∃ x, a7.eval (.tmp 22) = x := ⟨_, rfl⟩
   have q23 : At (Ty.val x1) s5 a7 (.tmp 22) := hx1
   have o1 := al2 (R := (Pr.own 20 3 1 1 (List.map Ty.int [((k : Nat) : Int)]))) hx1 (D5.done 1 (by decide))
   refine tL ok6 (Yld.toL (y_as q23)) fun a8 s6 hs1 ok7 r1 sm1 => ?_
   have F7 := (F5.step0 D5.stp).stepL hs1 (by decide); have q24 := kpL hs1 (by decide) (sm1 6 (by decide)) (D5.kt q14 rfl); have q25 := kpL hs1 (by decide) (sm1 1 (by decide)) (D5.kt (D4.kt q11 rfl) rfl); have q26 := kpL hs1 (by decide) (sm1 5 (by decide)) (D5.kt q16 rfl); have q27 := kpL hs1 (by decide) (sm1 0 (by decide)) (D5.kt (D4.kt q13 rfl) rfl); have o2 := Own.keepL o1 hs1 (by decide) (by decide)
   have q28 : At (Ty.val x1) s6 a8 (.tmp 7) := r1
   clear r1; refine wpList_nil (tn (wp_seq ?_))
   refine gI a8 s6 ok7 (gM q27 (gS rfl (fun A B E H I d0 => rP (y_call _ Try.func39 rfl rfl my1 (rRounds_fn (n) _ _ (ed d0 rfl rfl rfl) (by omega)))) (gR (Pr.own 21 22 1 1 (List.map Ty.ints [(roundsL n)])) rfl (by intro A B E H I d0; exact rP ((y_lit1 (k := 21) Try.underlying24 Try.inf22 rfl (one_sl) (ed d0 rfl rfl rfl)).mono (fun _ _ h => cvo (by simp) (by first | (simp; done) | rfl) h))) (gE2 ok7 fun a9 s7 ok8 D6 => ?_)))); have o3 := Own.k0 o2 D6.stp
   obtain ⟨x2, hx2⟩ : ∃ x, a9.eval (.tmp 25) = x := ⟨_, rfl⟩
   have q34 : At (Ty.val x2) s7 a9 (.tmp 25) := hx2
   have o4 := al2 (R := (Pr.own 21 22 1 1 (List.map Ty.ints [(roundsL n)]))) hx2 (D6.done 2 (by decide))
   refine tL ok8 (Yld.toL (y_as q34)) fun a10 s8 hs2 ok9 r2 sm2 => ?_
   have F9 := (F7.step0 D6.stp).stepL hs2 (by decide); have q35 := kpL hs2 (by decide) (sm2 6 (by decide)) (D6.kt q24 rfl); have q36 := kpL hs2 (by decide) (sm2 1 (by decide)) (D6.kt q25 rfl); have q37 := kpL hs2 (by decide) (sm2 5 (by decide)) (D6.kt q26 rfl); have q38 := kpL hs2 (by decide) (sm2 0 (by decide)) (D6.kt q27 rfl); have q39 := kpL hs2 (by decide) (sm2 7 (by decide)) (D6.kt q28 rfl); have o5 := Own.keepL o3 hs2 (by decide) (by decide); have o6 := Own.keepL o4 hs2 (by decide) (by decide)
   have q40 : At (Ty.val x2) s8 a10 (.tmp 8) := r2
   clear r2; refine wpList_nil (tn (wp_seq ?_))
   refine gI a10 s8 ok9 (gM q38 (gR (Pr.own 22 3 1 n (List.map Ty.int (List.replicate n 0))) rfl (by intro A B E H I d0 d1; have e0 := ed d0 rfl rfl rfl; exact rP ((y_make (k := 22) (T := Ty.int 0) (n := n) Try.underlying22 Try.inf3 rfl (fun _ => rfl) e0 e0 (by omega) (by omega)).mono (fun _ _ h => cvo (by simp) (by simp) h))) (gE2 ok9 fun a11 s9 ok10 D7 => ?_))); have o7 := Own.k0 o5 D7.stp; have o8 := Own.k0 o6 D7.stp
   obtain ⟨x3, hx3⟩ : ∃ x, a11.eval (.tmp 27) = x := ⟨_, rfl⟩
   have q47 : At (Ty.val x3) s9 a11 (.tmp 27) := hx3
   have o9 := al2 (R := (Pr.own 22 3 1 n (List.map Ty.int (List.replicate n 0)))) hx3 (D7.done 1 (by decide))
   refine tL ok10 (Yld.toL (y_as q47)) fun a12 s10 hs3 ok11 r3 sm3 => ?_
   have F11 := (F9.step0 D7.stp).stepL hs3 (by decide); have q48 := kpL hs3 (by decide) (sm3 6 (by decide)) (D7.kt q35 rfl); have q49 := kpL hs3 (by decide) (sm3 1 (by decide)) (D7.kt q36 rfl); have q50 := kpL hs3 (by decide) (sm3 5 (by decide)) (D7.kt q37 rfl); have q51 := kpL hs3 (by decide) (sm3 0 (by decide)) (D7.kt q38 rfl); have q52 := kpL hs3 (by decide) (sm3 7 (by decide)) (D7.kt q39 rfl); have q53 := kpL hs3 (by decide) (sm3 8 (by decide)) (D7.kt q40 rfl); have o10 := Own.keepL o7 hs3 (by decide) (by decide); have o11 := Own.keepL o8 hs3 (by decide) (by decide); have o12 := Own.keepL o9 hs3 (by decide) (by decide)
   have q54 : At (Ty.val x3) s10 a12 (.tmp 9) := r3
   clear r3; refine wpList_nil (tn (wp_seq ?_))
   refine gI a12 s10 ok11 (gM q54 (gM q48 (gT (Ty.val (cellPtr x3 k)) rfl (fun A B E H I d0 d1 d2 d3 => rP (own_index1 (i := ((k : Nat) : Int)) Try.underlying22 Try.inf3 (Own.k0 o12 E) (ed d0 rfl rfl rfl) (ed d1 rfl rfl rfl) (by omega) (by omega))) (gE2 ok11 fun a13 s11 ok12 D8 => ?_)))); have o13 := Own.k0 o10 D8.stp; have o14 := Own.k0 o11 D8.stp; have o15 := Own.k0 o12 D8.stp
   refine tailL0 (L := [22]) (R := (fun _ τ => Own τ 22 3 1 x3 n ((List.map Ty.int (List.replicate n 0)).set k (Ty.int (1 : Int))))) rfl rfl (YldM.toL (m_store Try.inf3 (by decide) o15 (D8.dn 2 (by decide) rfl rfl) (by simp only [List.length_map, List.length_set]; first | omega | (simp only [List.length_replicate]; omega)) rfl (one_val rfl))) (fun v1 s12 hs4 r4 => ?_)
   have F13 := (F11.step0 D8.stp).stepL hs4 (by decide); have q63 := kpL hs4 (by decide) rfl (D8.kt q48 rfl); have q64 := kpL hs4 (by decide) rfl (D8.kt q49 rfl); have q65 := kpL hs4 (by decide) rfl (D8.kt q50 rfl); have q66 := kpL hs4 (by decide) rfl (D8.kt q51 rfl); have q67 := kpL hs4 (by decide) rfl (D8.kt q52 rfl); have q68 := kpL hs4 (by decide) rfl (D8.kt q53 rfl); have q69 := kpL hs4 (by decide) rfl (D8.kt q54 rfl); have o17 := Own.keepL o13 hs4 (by decide) (by decide); have o18 := Own.keepL o14 hs4 (by decide) (by decide)
   have o16 : Own s12 22 3 1 x3 n (List.map Ty.int ((List.replicate n 0).set k (1 : Int))) := (cvo (by simp) (by first | (simp; done) | (rw [List.map_set]; done) | (rw [List.map_set]; rfl)) r4)
   clear r4; refine wpList_nil (tn (wp_seq ?_))
   refine gI a13 s12 ok12 (gC (Ty.val (Value.slice none 0 0)) (gE ok12 fun a14 s13 ok13 D9 => ?_)); have o19 := Own.k0 o17 D9.stp; have o20 := Own.k0 o18 D9.stp; have o21 := Own.k0 o16 D9.stp; refine tn (wp_seq (wp_seq ?_))
   refine gI a14 s13 ok13 (gC (Ty.int (0 : Int)) (gE ok13 fun a15 s14 ok14 D10 => ?_)); have o22 := Own.k0 o19 D10.stp; have o23 := Own.k0 o20 D10.stp; have o24 := Own.k0 o21 D10.stp; refine tn (wp_block ?_)
   refine loop (fun n3 a16 w3 => ∃ (t3 : GW) (i : Nat) (sp : (List Int)) (rw1 : (List (List Int))) (wh : (List Int)) (x7_1 x8_1 x9_1 : Value), t3.w = w3 ∧ FromL [] s0 t3 ∧ Ok 131 [] a16 ∧ At (Ty.nat i) t3 a16 (.tmp 11) ∧ At (Ty.val x7_1) t3 a16 (.tmp 7) ∧ At (Ty.val x8_1) t3 a16 (.tmp 8) ∧ At (Ty.val x9_1) t3 a16 (.tmp 9) ∧ At (Ty.nat k) t3 a16 (.tmp 6) ∧ At (Ty.lst Ty.ints G) t3 a16 (.tmp 1) ∧ At (Ty.nat (szTo n (fun y => y ∈ gens) k)) t3 a16 (.tmp 5) ∧ At (Ty.nat n) t3 a16 (.tmp 0) ∧ At (Ty.val (Value.slice none 0 0)) t3 a16 (.tmp 10) ∧ Own t3 20 3 1 x7_1 (List.length sp) (List.map Ty.int sp) ∧ Own t3 21 22 1 x8_1 (List.length rw1) (List.map Ty.ints rw1) ∧ Own t3 22 3 1 x9_1 (List.length wh) (List.map Ty.int wh) ∧ (i ≤ sp.length) ∧ (Orb n k G sp rw1 wh i 0) ∧ n3 = n - i) (n - (0)) ?_ ?_
   ·
    exact ⟨s14, 0, [((k : Nat) : Int)], [roundsL n], ((List.replicate n 0).set k 1), x1, x2, x3, rfl, ((F13.step0 D9.stp).step0 D10.stp), ok14, (cvi (by (first | rfl | omega | (simp_all; done) | (simp_all; omega))) (D10.dn 0 rfl rfl)), (D10.kt (D9.kt q67 rfl) rfl), (D10.kt (D9.kt q68 rfl) rfl), (D10.kt (D9.kt q69 rfl) rfl), (D10.kt (D9.kt q63 rfl) rfl), (D10.kt (D9.kt q64 rfl) rfl), (D10.kt (D9.kt q65 rfl) rfl), (D10.kt (D9.kt q66 rfl) rfl), (D10.kt (D9.dn 0 rfl rfl) rfl), (cvo (by (first | rfl | simp)) (by (first | rfl | simp)) o22), (cvo (by (first | rfl | simp)) (by (first | rfl | simp)) o23), (cvo (by (first | rfl | simp)) (by (first | rfl | simp)) o24), by simp, orb_start hn (by omega), rfl⟩
   ·
    rintro n4 a17 w4 ⟨t4, i, sp, rw1, wh, x7_1, x8_1, x9_1, rfl, F16, ok15, q88, q89, q90, q91, q92, q93, q94, q95, q96, o25, o26, o27, hi, hO, rfl⟩
    have hsl := hO.spl (by omega)
    have hrl := hO.len
    have hwl := hO.whl
    refine wp_seq (wp_seq ?_)
    refine gI a17 t4 ok15 (gM q88 (gM q89 (gT (Ty.nat (List.length sp)) rfl (fun A B E H I d0 => rP (own_len Try.underlying22 (al (R := (Pr.own 20 3 1 (List.length sp) (List.map Ty.int sp))) (ed d0 rfl rfl rfl) (Own.k0 o25 E)))) (gS rfl (fun A B E H I d0 d1 => rP (y_lss (ed d0 rfl rfl rfl) (ed d1 rfl rfl rfl))) (gE ok15 fun a18 s15 ok16 D11 => ?_))))); have F17 := F16.step0 D11.stp; have q98 := D11.kt q89 rfl; have q99 := D11.kt q90 rfl; have q100 := D11.kt q91 rfl; have q101 := D11.kt q92 rfl; have q102 := D11.kt q93 rfl; have q103 := D11.kt q94 rfl; have q104 := D11.kt q95 rfl; have q105 := D11.kt q96 rfl; have o28 := Own.k0 o25 D11.stp; have o29 := Own.k0 o26 D11.stp; have o30 := Own.k0 o27 D11.stp; refine tn ?_
    refine cond_p (p := (((i : Nat) : Int) < (((List.length sp) : Nat) : Int))) (D11.dn 3 rfl rfl) (fun c2 => ?_) (fun c2 => ?_)
    ·
     refine wp_skip (tn (wp_seq (wp_block (wp_seq ?_))))
     refine gI a18 s15 ok16 (gC (Ty.int (0 : Int)) (gE ok16 fun a19 s16 ok17 D12 => ?_)); have o31 := Own.k0 o28 D12.stp; have o32 := Own.k0 o29 D12.stp; have o33 := Own.k0 o30 D12.stp; refine tn (wp_block ?_)
     refine loop (fun n5 a20 w5 => ∃ (t5 : GW) (j : Nat) (sp2 : (List Int)) (rw2 : (List (List Int))) (wh2 : (List Int)) (x7_2 x8_2 x9_2 : Value), t5.w = w5 ∧ FromL [] s0 t5 ∧ Ok 131 [] a20 ∧ At (Ty.nat j) t5 a20 (.tmp 12) ∧ At (Ty.val x7_2) t5 a20 (.tmp 7) ∧ At (Ty.val x8_2) t5 a20 (.tmp 8) ∧ At (Ty.val x9_2) t5 a20 (.tmp 9) ∧ At (Ty.nat i) t5 a20 (.tmp 11) ∧ At (Ty.nat k) t5 a20 (.tmp 6) ∧ At (Ty.lst Ty.ints G) t5 a20 (.tmp 1) ∧ At (Ty.nat (szTo n (fun y => y ∈ gens) k)) t5 a20 (.tmp 5) ∧ At (Ty.nat n) t5 a20 (.tmp 0) ∧ At (Ty.val (Value.slice none 0 0)) t5 a20 (.tmp 10) ∧ Own t5 20 3 1 x7_2 (List.length sp2) (List.map Ty.int sp2) ∧ Own t5 21 22 1 x8_2 (List.length rw2) (List.map Ty.ints rw2) ∧ Own t5 22 3 1 x9_2 (List.length wh2) (List.map Ty.int wh2) ∧ (j ≤ G.length) ∧ (i < sp2.length) ∧ (Orb n k G sp2 rw2 wh2 i j) ∧ n5 = G.length - j) (G.length - (0)) ?_ ?_
     ·
      exact ⟨s16, 0, sp, rw1, wh, x7_1, x8_1, x9_1, rfl, (F17.step0 D12.stp), ok17, (cvi (by (first | rfl | omega | (simp_all; done) | (simp_all; omega))) (D12.dn 0 rfl rfl)), (D12.kt q98 rfl), (D12.kt q99 rfl), (D12.kt q100 rfl), (D12.kt (D11.kt q88 rfl) rfl), (D12.kt q101 rfl), (D12.kt q102 rfl), (D12.kt q103 rfl), (D12.kt q104 rfl), (D12.kt q105 rfl), (cvo (by (simp)) (by (simp)) o31), (cvo (by (simp)) (by (simp)) o32), (cvo (by (simp)) (by (simp)) o33), by omega, by omega, hO, rfl⟩
     ·
      rintro n6 a21 w6 ⟨t6, j, sp2, rw2, wh2, x7_2, x8_2, x9_2, rfl, F19, ok18, q117, q118, q119, q120, q121, q122, q123, q124, q125, q126, o34, o35, o36, hj, hil, hO2, rfl⟩
      have hsl2 := hO2.spl (by omega)
      have hrl2 := hO2.len
      have hwl2 := hO2.whl
      refine wp_seq (wp_seq ?_)
      refine gI a21 t6 ok18 (gM q117 (gM q123 (gS rfl (fun A B E H I d0 => rP (y_len Try.underlying24 (ed d0 rfl rfl rfl))) (gS rfl (fun A B E H I d0 d1 => rP (y_lss (ed d0 rfl rfl rfl) (ed d1 rfl rfl rfl))) (gE ok18 fun a22 s17 ok19 D13 => ?_))))); have F20 := F19.step0 D13.stp; have q127 := D13.kt q117 rfl; have q128 := D13.kt q118 rfl; have q129 := D13.kt q119 rfl; have q130 := D13.kt q120 rfl; have q131 := D13.kt q121 rfl; have q132 := D13.kt q122 rfl; have q133 := D13.kt q123 rfl; have q134 := D13.kt q124 rfl; have q135 := D13.kt q125 rfl; have q136 := D13.kt q126 rfl; have o37 := Own.k0 o34 D13.stp; have o38 := Own.k0 o35 D13.stp; have o39 := Own.k0 o36 D13.stp; refine tn ?_
      refine cond_p (p := (((j : Nat) : Int) < (((List.length G) : Nat) : Int))) (D13.dn 3 rfl rfl) (fun c3 => ?_) (fun c3 => ?_)
      ·
       obtain ⟨hg1, hg2, hg3, hg4, hg5⟩ := hO2.go3 (by omega) hGr hil (by omega)
       refine wp_skip (tn (wp_seq (wp_block (wp_seq ?_))))
       refine gI a22 s17 ok19 (gM q133 (gM q127 (gT (Ty.ref [(Ty.lst Ty.int (G.getD j []))]) rfl (fun A B E H I d0 d1 => rP (y_index1 Try.underlying24 Try.inf22 (ed d0 rfl rfl rfl) (ed d1 rfl rfl rfl) (by omega) (lst_get Ty.ints G [] j (by omega)))) (gS rfl (fun A B E H I d0 => rP (y_load Try.underlying22 rfl (ed d0 rfl rfl rfl) rfl)) (gM q128 (gM q131 (gT (Ty.val (cellPtr x7_2 i)) rfl (fun A B E H I d0 d1 => rP (own_index1 (i := ((i : Nat) : Int)) Try.underlying22 Try.inf3 (Own.k0 o37 E) (ed d0 rfl rfl rfl) (ed d1 rfl rfl rfl) (by omega) (by omega))) (gS rfl (fun A B E H I d0 => rP (own_load Try.underlying3 rfl (Own.k0 o37 E) (ed d0 rfl rfl rfl) (lst_get Ty.int sp2 0 i (by first | omega | (simp only [List.length_replicate]; omega))))) (gT (Ty.ref [(Ty.int ((G.getD j []).getD ((sp2.getD i 0)).toNat 0))]) rfl (fun A B E H I d0 d1 => rP (y_index1 Try.underlying22 Try.inf3 (ed d0 rfl rfl rfl) (ed d1 rfl rfl rfl) (by omega) (lst_get Ty.int (G.getD j []) 0 ((sp2.getD i 0)).toNat (by omega)))) (gS rfl (fun A B E H I d0 => rP (y_load Try.underlying3 rfl (ed d0 rfl rfl rfl) rfl)) (gB 0 (gE ok19 fun a23 s18 ok20 D14 => ?_)))))))))))); have q141 := D14.kt q130 rfl; have o40 := Own.k0 o37 D14.stp; have o41 := Own.k0 o38 D14.stp; have o42 := Own.k0 o39 D14.stp; have q148 := D14.dn 10 rfl rfl; refine tn (wp_seq ?_)
       refine gI a23 s18 ok20 (gM q141 (gM q148 (gT (Ty.val (cellPtr x9_2 (((G.getD j []).getD ((sp2.getD i 0)).toNat 0)).toNat)) rfl (fun A B E H I d0 d1 => rP (own_index1 (i := ((G.getD j []).getD ((sp2.getD i 0)).toNat 0)) Try.underlying22 Try.inf3 (Own.k0 o42 E) (ed d0 rfl rfl rfl) (ed d1 rfl rfl rfl) (by omega) (by omega))) (gS rfl (fun A B E H I d0 => rP (own_load Try.underlying3 rfl (Own.k0 o42 E) (ed d0 rfl rfl rfl) (lst_get Ty.int wh2 0 (((G.getD j []).getD ((sp2.getD i 0)).toNat 0)).toNat (by first | omega | (simp only [List.length_replicate]; omega))))) (gS rfl (fun A B E H I d0 => rP (y_eql (ed d0 rfl rfl rfl) rfl)) (gE ok20 fun a24 s19 ok21 D15 => ?_)))))); have F22 := (F20.step0 D14.stp).step0 D15.stp; have q149 := D15.kt (D14.kt q127 rfl) rfl; have q150 := D15.kt (D14.kt q128 rfl) rfl; have q151 := D15.kt (D14.kt q129 rfl) rfl; have q152 := D15.kt q141 rfl; have q153 := D15.kt (D14.kt q131 rfl) rfl; have q154 := D15.kt (D14.kt q132 rfl) rfl; have q155 := D15.kt (D14.kt q133 rfl) rfl; have q156 := D15.kt (D14.kt q134 rfl) rfl; have q157 := D15.kt (D14.kt q135 rfl) rfl; have q158 := D15.kt (D14.kt q136 rfl) rfl; have q159 := D15.kt q148 rfl; have o43 := Own.k0 o40 D15.stp; have o44 := Own.k0 o41 D15.stp; have o45 := Own.k0 o42 D15.stp; refine tn ?_
       refine cond_p (p := ((wh2.getD (((G.getD j []).getD ((sp2.getD i 0)).toNat 0)).toNat 0) = (0 : Int))) (D15.dn 4 rfl rfl) (fun c4 => ?_) (fun c4 => ?_)
       ·
        refine wp_seq ?_
        refine gI a24 s19 ok21 (gM q152 (gM q159 (gM q150 (gT (Ty.nat (List.length sp2)) rfl (fun A B E H I d0 => rP (own_len Try.underlying22 (al (R := (Pr.own 20 3 1 (List.length sp2) (List.map Ty.int sp2))) (ed d0 rfl rfl rfl) (Own.k0 o43 E)))) (gT (Ty.nat ((List.length sp2) + 1)) rfl (fun A B E H I d0 => rP ((y_add (ed d0 rfl rfl rfl) rfl (w64 (by omega) (by omega))).mono (fun τ _ h => cvi (σ := τ) (by first | omega | exact (Int.natCast_mul _ _).symm) h))) (gT (Ty.val (cellPtr x9_2 (((G.getD j []).getD ((sp2.getD i 0)).toNat 0)).toNat)) rfl (fun A B E H I d0 d1 d2 d3 d4 d5 d6 => rP (own_index1 (i := ((G.getD j []).getD ((sp2.getD i 0)).toNat 0)) Try.underlying22 Try.inf3 (Own.k0 o45 E) (ed d0 rfl rfl rfl) (ed d1 rfl rfl rfl) (by omega) (by omega))) (gE2 ok21 fun a25 s20 ok22 D16 => ?_))))))); have o46 := Own.k0 o43 D16.stp; have o47 := Own.k0 o44 D16.stp; have o48 := Own.k0 o45 D16.stp
        refine tailL0 (L := [22]) (R := (fun _ τ => Own τ 22 3 1 x9_2 (List.length wh2) ((List.map Ty.int wh2).set (((G.getD j []).getD ((sp2.getD i 0)).toNat 0)).toNat (Ty.nat ((List.length sp2) + 1))))) rfl rfl (YldM.toL (m_store Try.inf3 (by decide) o48 (D16.dn 5 (by decide) rfl rfl) (by simp only [List.length_map, List.length_set]; first | omega | (simp only [List.length_replicate]; omega)) (D16.dn 4 (by decide) rfl rfl) (one_val rfl))) (fun v2 s21 hs5 r5 => ?_)
        have F24 := (F22.step0 D16.stp).stepL hs5 (by decide); have q174 := kpL hs5 (by decide) rfl (D16.kt q149 rfl); have q175 := kpL hs5 (by decide) rfl (D16.kt q150 rfl); have q176 := kpL hs5 (by decide) rfl (D16.kt q151 rfl); have q177 := kpL hs5 (by decide) rfl (D16.kt q152 rfl); have q178 := kpL hs5 (by decide) rfl (D16.kt q153 rfl); have q179 := kpL hs5 (by decide) rfl (D16.kt q154 rfl); have q180 := kpL hs5 (by decide) rfl (D16.kt q155 rfl); have q181 := kpL hs5 (by decide) rfl (D16.kt q156 rfl); have q182 := kpL hs5 (by decide) rfl (D16.kt q157 rfl); have q183 := kpL hs5 (by decide) rfl (D16.kt q158 rfl); have q184 := kpL hs5 (by decide) rfl (D16.kt q159 rfl); have o50 := Own.keepL o46 hs5 (by decide) (by decide); have o51 := Own.keepL o47 hs5 (by decide) (by decide)
        have o49 : Own s21 22 3 1 x9_2 (List.length (wh2.set (((G.getD j []).getD ((sp2.getD i 0)).toNat 0)).toNat ((((List.length sp2) + 1) : Nat) : Int))) (List.map Ty.int (wh2.set (((G.getD j []).getD ((sp2.getD i 0)).toNat 0)).toNat ((((List.length sp2) + 1) : Nat) : Int))) := (cvo (by simp) (by first | (simp; done) | (rw [List.map_set]; done) | (rw [List.map_set]; rfl)) r5)
        clear r5; refine wpList_nil (tn (wp_seq ?_))
        refine gI a25 s21 ok22 (gM q175 (gM q184 (gT (Ty.sl 1 1 [(Ty.int ((G.getD j []).getD ((sp2.getD i 0)).toNat 0))]) rfl (fun A B E H I d0 => rP (y_build1o Try.underlying22 Try.inf3 rfl (one_val rfl) (ed d0 rfl rfl rfl))) (gE2 ok22 fun a26 s22 ok23 D17 => ?_)))); have o52 := Own.k0 o50 D17.stp; have o53 := Own.k0 o51 D17.stp; have o54 := Own.k0 o49 D17.stp
        have q196 : At (Ty.val x7_2) s22 a26 (.tmp 64) := D17.done 0 (by decide)
        have q197 := D17.dn 2 (by decide) rfl rfl
        have b2 := sl_le q197
        refine tL ok23 (YldM.toL (m_append Try.underlying22 Try.inf3 (by decide) rfl (by decide) (al (R := (Pr.own 20 3 1 (List.length sp2) (List.map Ty.int sp2))) q196 o52) q197 (by intro U hU; simp at hU; subst hU; exact one_val rfl) (by omega) (by omega))) fun a27 s23 hs6 ok24 r6 sm4 => ?_
        have F26 := (F24.step0 D17.stp).stepL hs6 (by decide); have q198 := kpL hs6 (by decide) (sm4 12 (by decide)) (D17.kt q174 rfl); have q199 := kpL hs6 (by decide) (sm4 7 (by decide)) (D17.kt q175 rfl); have q200 := kpL hs6 (by decide) (sm4 8 (by decide)) (D17.kt q176 rfl); have q201 := kpL hs6 (by decide) (sm4 9 (by decide)) (D17.kt q177 rfl); have q202 := kpL hs6 (by decide) (sm4 11 (by decide)) (D17.kt q178 rfl); have q203 := kpL hs6 (by decide) (sm4 6 (by decide)) (D17.kt q179 rfl); have q204 := kpL hs6 (by decide) (sm4 1 (by decide)) (D17.kt q180 rfl); have q205 := kpL hs6 (by decide) (sm4 5 (by decide)) (D17.kt q181 rfl); have q206 := kpL hs6 (by decide) (sm4 0 (by decide)) (D17.kt q182 rfl); have q207 := kpL hs6 (by decide) (sm4 10 (by decide)) (D17.kt q183 rfl); have o56 := Own.keepL o53 hs6 (by decide) (by decide); have o57 := Own.keepL o54 hs6 (by decide) (by decide)
        obtain ⟨x4, hx4⟩ : ∃ x, a27.eval (.tmp 67) = x := ⟨_, rfl⟩
        have q208 : At (Ty.val x4) s23 a27 (.tmp 67) := hx4
        have o55 := al2 (R := (Pr.own 20 3 1 (List.length (sp2 ++ [((G.getD j []).getD ((sp2.getD i 0)).toNat 0)])) (List.map Ty.int (sp2 ++ [((G.getD j []).getD ((sp2.getD i 0)).toNat 0)])))) hx4 (cvo (by simp) (by first | (rw [List.map_append]; rfl) | simp) r6)
        clear r6
        refine tL ok24 (Yld.toL (y_as q208)) fun a28 s24 hs7 ok25 r7 sm5 => ?_
        have F27 := F26.stepL hs7 (by decide); have q209 := kpL hs7 (by decide) (sm5 12 (by decide)) q198; have q210 := kpL hs7 (by decide) (sm5 8 (by decide)) q200; have q211 := kpL hs7 (by decide) (sm5 9 (by decide)) q201; have q212 := kpL hs7 (by decide) (sm5 11 (by decide)) q202; have q213 := kpL hs7 (by decide) (sm5 6 (by decide)) q203; have q214 := kpL hs7 (by decide) (sm5 1 (by decide)) q204; have q215 := kpL hs7 (by decide) (sm5 5 (by decide)) q205; have q216 := kpL hs7 (by decide) (sm5 0 (by decide)) q206; have q217 := kpL hs7 (by decide) (sm5 10 (by decide)) q207; have o58 := Own.keepL o56 hs7 (by decide) (by decide); have o59 := Own.keepL o57 hs7 (by decide) (by decide); have o60 := Own.keepL o55 hs7 (by decide) (by decide)
        have q218 : At (Ty.val x4) s24 a28 (.tmp 7) := r7
        clear r7; refine wpList_nil (tn ?_)
        refine gI a28 s24 ok25 (gM q210 (gM q214 (gM q209 (gT (Ty.ref [(Ty.lst Ty.int (G.getD j []))]) rfl (fun A B E H I d0 d1 => rP (y_index1 Try.underlying24 Try.inf22 (ed d0 rfl rfl rfl) (ed d1 rfl rfl rfl) (by omega) (lst_get Ty.ints G [] j (by omega)))) (gS rfl (fun A B E H I d0 => rP (y_load Try.underlying22 rfl (ed d0 rfl rfl rfl) rfl)) (gM q210 (gM q212 (gT (Ty.val (cellPtr x8_2 i)) rfl (fun A B E H I d0 d1 => rP (own_index1 (i := ((i : Nat) : Int)) Try.underlying24 Try.inf22 (Own.k0 o58 E) (ed d0 rfl rfl rfl) (ed d1 rfl rfl rfl) (by omega) (by omega))) (gS rfl (fun A B E H I d0 => rP (own_load Try.underlying22 rfl (Own.k0 o58 E) (ed d0 rfl rfl rfl) (lst_get Ty.ints rw2 [] i (by first | omega | (simp only [List.length_replicate]; omega))))) (gS rfl (fun A B E H I d0 d1 => rP (y_call _ Try.func22 rfl rfl my2 (rBy_fn ((G.getD j [])) ((rw2.getD i [])) _ _ _ (ed d0 rfl rfl rfl) (ed d1 rfl rfl rfl) (by first | assumption | omega) (by first | assumption | omega)))) (gT (Ty.sl 1 1 [(Ty.lst Ty.int (byL ((G.getD j [])) ((rw2.getD i []))))]) rfl (fun A B E H I d0 => rP (y_build1o Try.underlying24 Try.inf22 rfl (one_sl) (ed d0 rfl rfl rfl))) (gE2 ok25 fun a29 s25 ok26 D18 => ?_)))))))))))); have o61 := Own.k0 o58 D18.stp; have o62 := Own.k0 o59 D18.stp; have o63 := Own.k0 o60 D18.stp
        have q229 : At (Ty.val x8_2) s25 a29 (.tmp 68) := D18.done 0 (by decide)
        have q230 := D18.dn 10 (by decide) rfl rfl
        have b3 := sl_le q230
        refine tL ok26 (YldM.toL (m_append Try.underlying24 Try.inf22 (by decide) rfl (by decide) (al (R := (Pr.own 21 22 1 (List.length rw2) (List.map Ty.ints rw2))) q229 o61) q230 (by intro U hU; simp at hU; subst hU; exact one_sl) (by omega) (by omega))) fun a30 s26 hs8 ok27 r8 sm6 => ?_
        have F29 := (F27.step0 D18.stp).stepL hs8 (by decide); have q231 := kpL hs8 (by decide) (sm6 12 (by decide)) (D18.kt q209 rfl); have q232 := kpL hs8 (by decide) (sm6 8 (by decide)) (D18.kt q210 rfl); have q233 := kpL hs8 (by decide) (sm6 9 (by decide)) (D18.kt q211 rfl); have q234 := kpL hs8 (by decide) (sm6 11 (by decide)) (D18.kt q212 rfl); have q235 := kpL hs8 (by decide) (sm6 6 (by decide)) (D18.kt q213 rfl); have q236 := kpL hs8 (by decide) (sm6 1 (by decide)) (D18.kt q214 rfl); have q237 := kpL hs8 (by decide) (sm6 5 (by decide)) (D18.kt q215 rfl); have q238 := kpL hs8 (by decide) (sm6 0 (by decide)) (D18.kt q216 rfl); have q239 := kpL hs8 (by decide) (sm6 10 (by decide)) (D18.kt q217 rfl); have q240 := kpL hs8 (by decide) (sm6 7 (by decide)) (D18.kt q218 rfl); have o65 := Own.keepL o62 hs8 (by decide) (by decide); have o66 := Own.keepL o63 hs8 (by decide) (by decide)
        obtain ⟨x5, hx5⟩ : ∃ x, a30.eval (.tmp 79) = x := ⟨_, rfl⟩
        have q241 : At (Ty.val x5) s26 a30 (.tmp 79) := hx5
        have o64 := al2 (R := (Pr.own 21 22 1 (List.length (rw2 ++ [(byL ((G.getD j [])) ((rw2.getD i [])))])) (List.map Ty.ints (rw2 ++ [(byL ((G.getD j [])) ((rw2.getD i [])))])))) hx5 (cvo (by simp) (by first | (rw [List.map_append]; rfl) | simp) r8)
        clear r8
        refine tL ok27 (Yld.toL (y_as q241)) fun a31 s27 hs9 ok28 r9 sm7 => ?_
        have F30 := F29.stepL hs9 (by decide); have q242 := kpL hs9 (by decide) (sm7 12 (by decide)) q231; have q243 := kpL hs9 (by decide) (sm7 9 (by decide)) q233; have q244 := kpL hs9 (by decide) (sm7 11 (by decide)) q234; have q245 := kpL hs9 (by decide) (sm7 6 (by decide)) q235; have q246 := kpL hs9 (by decide) (sm7 1 (by decide)) q236; have q247 := kpL hs9 (by decide) (sm7 5 (by decide)) q237; have q248 := kpL hs9 (by decide) (sm7 0 (by decide)) q238; have q249 := kpL hs9 (by decide) (sm7 10 (by decide)) q239; have q250 := kpL hs9 (by decide) (sm7 7 (by decide)) q240; have o67 := Own.keepL o65 hs9 (by decide) (by decide); have o68 := Own.keepL o66 hs9 (by decide) (by decide); have o69 := Own.keepL o64 hs9 (by decide) (by decide)
        have q251 : At (Ty.val x5) s27 a31 (.tmp 8) := r9
        clear r9; refine wpList_nil (bn (tn ?_))
        refine gI a31 s27 ok28 (gM q242 (gT (Ty.nat (j + 1)) rfl (fun A B E H I d0 => rP ((y_add (ed d0 rfl rfl rfl) rfl (w64 (by omega) (by omega))).mono (fun τ _ h => cvi (σ := τ) (by first | omega | exact (Int.natCast_mul _ _).symm) h))) (gB 0 (gE ok28 fun a32 s28 ok29 D19 => ?_)))); have o70 := Own.k0 o67 D19.stp; have o71 := Own.k0 o68 D19.stp; have o72 := Own.k0 o69 D19.stp
        exact tn ⟨G.length - ((j+1)), by omega, s28, (j+1), (sp2 ++ [((G.getD j []).getD (sp2.getD i 0).toNat 0)]), (rw2 ++ [byL (G.getD j []) (rw2.getD i [])]), (wh2.set ((G.getD j []).getD (sp2.getD i 0).toNat 0).toNat (((sp2.length : Nat) : Int) + 1)), x4, x5, x9_2, rfl, (F30.step0 D19.stp), ok29, (cvi (by (first | rfl | omega | (simp_all; done) | (simp_all; omega))) (D19.dn 2 rfl rfl)), (D19.kt q250 rfl), (D19.kt q251 rfl), (D19.kt q243 rfl), (D19.kt q244 rfl), (D19.kt q245 rfl), (D19.kt q246 rfl), (D19.kt q247 rfl), (D19.kt q248 rfl), (D19.kt q249 rfl), (cvo (by (first | rfl | simp)) (by (first | rfl | simp)) o71), (cvo (by (first | rfl | simp)) (by (first | rfl | simp)) o72), (cvo (by (first | rfl | simp)) (by (first | rfl | simp)) o70), by omega, by (rw [List.length_append]; omega), hO2.new (by omega) hGr hil (by omega) c4, rfl⟩
       ·
        refine wp_skip (bn (tn ?_))
        refine gI a24 s19 ok21 (gM q149 (gT (Ty.nat (j + 1)) rfl (fun A B E H I d0 => rP ((y_add (ed d0 rfl rfl rfl) rfl (w64 (by omega) (by omega))).mono (fun τ _ h => cvi (σ := τ) (by first | omega | exact (Int.natCast_mul _ _).symm) h))) (gB 0 (gE ok21 fun a33 s29 ok30 D20 => ?_)))); have o73 := Own.k0 o43 D20.stp; have o74 := Own.k0 o44 D20.stp; have o75 := Own.k0 o45 D20.stp
        exact tn ⟨G.length - ((j+1)), by omega, s29, (j+1), sp2, rw2, wh2, x7_2, x8_2, x9_2, rfl, (F22.step0 D20.stp), ok30, (cvi (by (first | rfl | omega | (simp_all; done) | (simp_all; omega))) (D20.dn 2 rfl rfl)), (D20.kt q150 rfl), (D20.kt q151 rfl), (D20.kt q152 rfl), (D20.kt q153 rfl), (D20.kt q154 rfl), (D20.kt q155 rfl), (D20.kt q156 rfl), (D20.kt q157 rfl), (D20.kt q158 rfl), o73, o74, o75, by omega, hil, hO2.old c4, rfl⟩
      ·
       have ej : j = G.length := (by omega); have hO4 := (ej ▸ hO2 : Orb n k G sp2 rw2 wh2 i G.length).next
       refine wp_exit (tx (tx (bx (bn (tn ?_)))))
       refine gI a22 s17 ok19 (gM q131 (gT (Ty.nat (i + 1)) rfl (fun A B E H I d0 => rP ((y_add (ed d0 rfl rfl rfl) rfl (w64 (by omega) (by omega))).mono (fun τ _ h => cvi (σ := τ) (by first | omega | exact (Int.natCast_mul _ _).symm) h))) (gB 0 (gE ok19 fun a34 s30 ok31 D21 => ?_)))); have o76 := Own.k0 o37 D21.stp; have o77 := Own.k0 o38 D21.stp; have o78 := Own.k0 o39 D21.stp
       exact tn ⟨n - ((i + 1)), by omega, s30, (i + 1), sp2, rw2, wh2, x7_2, x8_2, x9_2, rfl, (F20.step0 D21.stp), ok31, (cvi (by (first | rfl | omega | (simp_all; done) | (simp_all; omega))) (D21.dn 2 rfl rfl)), (D21.kt q128 rfl), (D21.kt q129 rfl), (D21.kt q130 rfl), (D21.kt q132 rfl), (D21.kt q133 rfl), (D21.kt q134 rfl), (D21.kt q135 rfl), (D21.kt q136 rfl), (cvo (by (simp)) (by (simp)) o76), (cvo (by (simp)) (by (simp)) o77), (cvo (by (simp)) (by (simp)) o78), by omega, hO4, rfl⟩
    ·
     have ei : i = sp.length := (by omega); have hO9 : Orb n k G sp rw1 wh sp.length 0 := ei ▸ hO; have hrl9 := hO9.len; have hwl9 := hO9.whl; have hsl9 := hO9.spl (by omega); have hml := hZ.mul hO9 (by omega) hn; have hsb1 := hsb (k + 1) (by omega)
     refine wp_exit (tx (tx (bx (tn (wp_seq (wp_seq ?_))))))
     refine gI a18 s15 ok16 (gC (Ty.int (0 : Int)) (gE ok16 fun a35 s31 ok32 D22 => ?_)); have o79 := Own.k0 o28 D22.stp; have o80 := Own.k0 o29 D22.stp; have o81 := Own.k0 o30 D22.stp; refine tn (wp_block ?_)
     have o82 : Own s31 23 22 1 (Value.slice none 0 0) 0 (List.map Ty.ints ([] : List (List Int))) := Own.nil _ _ _ _
     refine loop (fun n7 a36 w7 => ∃ (t7 : GW) (a : Nat) (st : (List (List Int))) (x10_3 : Value), t7.w = w7 ∧ FromL [] s0 t7 ∧ Ok 131 [] a36 ∧ At (Ty.nat a) t7 a36 (.tmp 14) ∧ At (Ty.val x10_3) t7 a36 (.tmp 10) ∧ At (Ty.val x7_1) t7 a36 (.tmp 7) ∧ At (Ty.val x8_1) t7 a36 (.tmp 8) ∧ At (Ty.val x9_1) t7 a36 (.tmp 9) ∧ At (Ty.nat k) t7 a36 (.tmp 6) ∧ At (Ty.lst Ty.ints G) t7 a36 (.tmp 1) ∧ At (Ty.nat (szTo n (fun y => y ∈ gens) k)) t7 a36 (.tmp 5) ∧ At (Ty.nat n) t7 a36 (.tmp 0) ∧ Own t7 23 22 1 x10_3 (List.length st) (List.map Ty.ints st) ∧ Own t7 20 3 1 x7_1 (List.length sp) (List.map Ty.int sp) ∧ Own t7 21 22 1 x8_1 (List.length rw1) (List.map Ty.ints rw1) ∧ Own t7 22 3 1 x9_1 (List.length wh) (List.map Ty.int wh) ∧ (a ≤ sp.length) ∧ (Stl k G rw1 wh sp.length a 0 st) ∧ n7 = sp.length - a) (sp.length - (0)) ?_ ?_
     ·
      exact ⟨s31, 0, ([] : List (List Int)), (Value.slice none 0 0), rfl, (F17.step0 D22.stp), ok32, (cvi (by (first | rfl | omega | (simp_all; done) | (simp_all; omega))) (D22.dn 0 rfl rfl)), (D22.kt q105 rfl), (D22.kt q98 rfl), (D22.kt q99 rfl), (D22.kt q100 rfl), (D22.kt q101 rfl), (D22.kt q102 rfl), (D22.kt q103 rfl), (D22.kt q104 rfl), (cvo (by (simp)) (by (simp)) o82), o79, o80, o81, by omega, Stl.start, rfl⟩
     ·
      rintro n8 a37 w8 ⟨t8, a, st, x10_3, rfl, F35, ok33, q290, q291, q292, q293, q294, q295, q296, q297, q298, o83, o84, o85, o86, ha, hS, rfl⟩
      have hstl := hS.len
      have hag : a * G.length ≤ 12 * 1000 := Nat.mul_le_mul (by omega) hGl
      refine wp_seq (wp_seq ?_)
      refine gI a37 t8 ok33 (gM q290 (gM q292 (gT (Ty.nat (List.length sp)) rfl (fun A B E H I d0 => rP (own_len Try.underlying22 (al (R := (Pr.own 20 3 1 (List.length sp) (List.map Ty.int sp))) (ed d0 rfl rfl rfl) (Own.k0 o84 E)))) (gS rfl (fun A B E H I d0 d1 => rP (y_lss (ed d0 rfl rfl rfl) (ed d1 rfl rfl rfl))) (gE ok33 fun a38 s32 ok34 D23 => ?_))))); have F36 := F35.step0 D23.stp; have q300 := D23.kt q291 rfl; have q301 := D23.kt q292 rfl; have q304 := D23.kt q295 rfl; have q306 := D23.kt q297 rfl; have q307 := D23.kt q298 rfl; have o87 := Own.k0 o83 D23.stp; have o88 := Own.k0 o84 D23.stp; have o89 := Own.k0 o85 D23.stp; have o90 := Own.k0 o86 D23.stp; refine tn ?_
      refine cond_p (p := (((a : Nat) : Int) < (((List.length sp) : Nat) : Int))) (D23.dn 3 rfl rfl) (fun c5 => ?_) (fun c5 => ?_)
      ·
       refine wp_skip (tn (wp_seq (wp_block (wp_seq ?_))))
       refine gI a38 s32 ok34 (gC (Ty.int (0 : Int)) (gE ok34 fun a39 s33 ok35 D24 => ?_)); have o91 := Own.k0 o87 D24.stp; have o92 := Own.k0 o88 D24.stp; have o93 := Own.k0 o89 D24.stp; have o94 := Own.k0 o90 D24.stp; refine tn (wp_block ?_)
       refine loop (fun n9 a40 w9 => ∃ (t9 : GW) (b : Nat) (st2 : (List (List Int))) (x10_4 : Value), t9.w = w9 ∧ FromL [] s0 t9 ∧ Ok 131 [] a40 ∧ At (Ty.nat b) t9 a40 (.tmp 15) ∧ At (Ty.val x10_4) t9 a40 (.tmp 10) ∧ At (Ty.nat a) t9 a40 (.tmp 14) ∧ At (Ty.val x7_1) t9 a40 (.tmp 7) ∧ At (Ty.val x8_1) t9 a40 (.tmp 8) ∧ At (Ty.val x9_1) t9 a40 (.tmp 9) ∧ At (Ty.nat k) t9 a40 (.tmp 6) ∧ At (Ty.lst Ty.ints G) t9 a40 (.tmp 1) ∧ At (Ty.nat (szTo n (fun y => y ∈ gens) k)) t9 a40 (.tmp 5) ∧ At (Ty.nat n) t9 a40 (.tmp 0) ∧ Own t9 23 22 1 x10_4 (List.length st2) (List.map Ty.ints st2) ∧ Own t9 20 3 1 x7_1 (List.length sp) (List.map Ty.int sp) ∧ Own t9 21 22 1 x8_1 (List.length rw1) (List.map Ty.ints rw1) ∧ Own t9 22 3 1 x9_1 (List.length wh) (List.map Ty.int wh) ∧ (b ≤ G.length) ∧ (Stl k G rw1 wh sp.length a b st2) ∧ n9 = G.length - b) (G.length - (0)) ?_ ?_
       ·
        exact ⟨s33, 0, st, x10_3, rfl, (F36.step0 D24.stp), ok35, (cvi (by (first | rfl | omega | (simp_all; done) | (simp_all; omega))) (D24.dn 0 rfl rfl)), (D24.kt q300 rfl), (D24.kt (D23.kt q290 rfl) rfl), (D24.kt q301 rfl), (D24.kt (D23.kt q293 rfl) rfl), (D24.kt (D23.kt q294 rfl) rfl), (D24.kt q304 rfl), (D24.kt (D23.kt q296 rfl) rfl), (D24.kt q306 rfl), (D24.kt q307 rfl), (cvo (by (simp)) (by (simp)) o91), o92, o93, o94, by omega, hS, rfl⟩
       ·
        rintro n10 a41 w10 ⟨t10, b, st2, x10_4, rfl, F38, ok36, q319, q320, q321, q322, q323, q324, q325, q326, q327, q328, o95, o96, o97, o98, hb, hS2, rfl⟩
        have hstl2 := hS2.len
        refine wp_seq (wp_seq ?_)
        refine gI a41 t10 ok36 (gM q319 (gM q326 (gS rfl (fun A B E H I d0 => rP (y_len Try.underlying24 (ed d0 rfl rfl rfl))) (gS rfl (fun A B E H I d0 d1 => rP (y_lss (ed d0 rfl rfl rfl) (ed d1 rfl rfl rfl))) (gE ok36 fun a42 s34 ok37 D25 => ?_))))); have F39 := F38.step0 D25.stp; have q329 := D25.kt q319 rfl; have q330 := D25.kt q320 rfl; have q331 := D25.kt q321 rfl; have q332 := D25.kt q322 rfl; have q333 := D25.kt q323 rfl; have q334 := D25.kt q324 rfl; have q335 := D25.kt q325 rfl; have q336 := D25.kt q326 rfl; have q337 := D25.kt q327 rfl; have q338 := D25.kt q328 rfl; have o99 := Own.k0 o95 D25.stp; have o100 := Own.k0 o96 D25.stp; have o101 := Own.k0 o97 D25.stp; have o102 := Own.k0 o98 D25.stp; refine tn ?_
        refine cond_p (p := (((b : Nat) : Int) < (((List.length G) : Nat) : Int))) (D25.dn 3 rfl rfl) (fun c6 => ?_) (fun c6 => ?_)
        ·
         obtain ⟨hg1, hg2, hg3, hg4, hg5, hg6, hg7, hg8, hg9, hg10, hg11⟩ := hO9.go5 (a := a) (b := b) (by omega) hn hGr (by omega) (by omega)
         refine wp_skip (tn (wp_seq (wp_block (wp_seq ?_))))
         refine gI a42 s34 ok37 (gM q336 (gM q329 (gT (Ty.ref [(Ty.lst Ty.int (G.getD b []))]) rfl (fun A B E H I d0 d1 => rP (y_index1 Try.underlying24 Try.inf22 (ed d0 rfl rfl rfl) (ed d1 rfl rfl rfl) (by omega) (lst_get Ty.ints G [] b (by omega)))) (gS rfl (fun A B E H I d0 => rP (y_load Try.underlying22 rfl (ed d0 rfl rfl rfl) rfl)) (gM q333 (gM q331 (gT (Ty.val (cellPtr x8_1 a)) rfl (fun A B E H I d0 d1 => rP (own_index1 (i := ((a : Nat) : Int)) Try.underlying24 Try.inf22 (Own.k0 o101 E) (ed d0 rfl rfl rfl) (ed d1 rfl rfl rfl) (by omega) (by omega))) (gS rfl (fun A B E H I d0 => rP (own_load Try.underlying22 rfl (Own.k0 o101 E) (ed d0 rfl rfl rfl) (lst_get Ty.ints rw1 [] a (by first | omega | (simp only [List.length_replicate]; omega))))) (gS rfl (fun A B E H I d0 d1 => rP (y_call _ Try.func22 rfl rfl my2 (rBy_fn ((G.getD b [])) ((rw1.getD a [])) _ _ _ (ed d0 rfl rfl rfl) (ed d1 rfl rfl rfl) (by first | assumption | omega) (by first | assumption | omega)))) (gB 0 (gE ok37 fun a43 s35 ok38 D26 => ?_))))))))))); have q344 := D26.kt q333 rfl; have q345 := D26.kt q334 rfl; have q346 := D26.kt q335 rfl; have o103 := Own.k0 o99 D26.stp; have o104 := Own.k0 o100 D26.stp; have o105 := Own.k0 o101 D26.stp; have o106 := Own.k0 o102 D26.stp; have q350 := D26.dn 9 rfl rfl; refine tn (wp_seq ?_)
         refine gI a43 s35 ok38 (gM q344 (gM q345 (gM q350 (gM q346 (gT (Ty.ref [(Ty.int ((byL ((G.getD b [])) ((rw1.getD a []))).getD k 0))]) rfl (fun A B E H I d0 d1 => rP (y_index1 Try.underlying22 Try.inf3 (ed d0 rfl rfl rfl) (ed d1 rfl rfl rfl) (by omega) (lst_get Ty.int (byL ((G.getD b [])) ((rw1.getD a []))) 0 k (by omega)))) (gS rfl (fun A B E H I d0 => rP (y_load Try.underlying3 rfl (ed d0 rfl rfl rfl) rfl)) (gT (Ty.val (cellPtr x9_1 (((byL ((G.getD b [])) ((rw1.getD a []))).getD k 0)).toNat)) rfl (fun A B E H I d0 d1 => rP (own_index1 (i := ((byL ((G.getD b [])) ((rw1.getD a []))).getD k 0)) Try.underlying22 Try.inf3 (Own.k0 o106 E) (ed d0 rfl rfl rfl) (ed d1 rfl rfl rfl) (by omega) (by omega))) (gS rfl (fun A B E H I d0 => rP (own_load Try.underlying3 rfl (Own.k0 o106 E) (ed d0 rfl rfl rfl) (lst_get Ty.int wh 0 (((byL ((G.getD b [])) ((rw1.getD a []))).getD k 0)).toNat (by first | omega | (simp only [List.length_replicate]; omega))))) (gT (Ty.int ((wh.getD (((byL ((G.getD b [])) ((rw1.getD a []))).getD k 0)).toNat 0) - (1 : Int))) rfl (fun A B E H I d0 => rP (y_sub (ed d0 rfl rfl rfl) rfl (w64 (by omega) (by omega)))) (gT (Ty.val (cellPtr x8_1 (((wh.getD (((byL ((G.getD b [])) ((rw1.getD a []))).getD k 0)).toNat 0) - (1 : Int))).toNat)) rfl (fun A B E H I d0 d1 => rP (own_index1 (i := ((wh.getD (((byL ((G.getD b [])) ((rw1.getD a []))).getD k 0)).toNat 0) - (1 : Int))) Try.underlying24 Try.inf22 (Own.k0 o105 E) (ed d0 rfl rfl rfl) (ed d1 rfl rfl rfl) (by omega) (by omega))) (gS rfl (fun A B E H I d0 => rP (own_load Try.underlying22 rfl (Own.k0 o105 E) (ed d0 rfl rfl rfl) (lst_get Ty.ints rw1 [] (((wh.getD (((byL ((G.getD b [])) ((rw1.getD a []))).getD k 0)).toNat 0) - (1 : Int))).toNat (by first | omega | (simp only [List.length_replicate]; omega))))) ?_)))))))))))
         refine gS rfl (fun A B E H I d0 => rP (y_call _ Try.func23 rfl rfl my1 (rUndo_fn ((rw1.getD (((wh.getD (((byL ((G.getD b [])) ((rw1.getD a []))).getD k 0)).toNat 0) - (1 : Int))).toNat [])) _ _ (ed d0 rfl rfl rfl) (by assumption)))) (gM q350 (gS rfl (fun A B E H I d0 d1 d2 => rP (y_call _ Try.func22 rfl rfl my2 (rBy_fn ((undoL ((rw1.getD (((wh.getD (((byL ((G.getD b [])) ((rw1.getD a []))).getD k 0)).toNat 0) - (1 : Int))).toNat [])))) ((byL ((G.getD b [])) ((rw1.getD a [])))) _ _ _ (ed d0 rfl rfl rfl) (ed d1 rfl rfl rfl) (by first | assumption | omega) (by first | assumption | omega)))) (gB 0 (gE ok38 fun a44 s36 ok39 D27 => ?_)))); have q352 := D27.kt (D26.kt q330 rfl) rfl; have o107 := Own.k0 o103 D27.stp; have o108 := Own.k0 o104 D27.stp; have o109 := Own.k0 o105 D27.stp; have o110 := Own.k0 o106 D27.stp
         have q362 : At (Ty.lst Ty.int (stl k G rw1 wh a b)) s36 a44 (.tmp 17) := (cvt (by (rfl)) (D27.dn 14 rfl rfl))
         refine tn ?_
         refine gI a44 s36 ok39 (gM q352 (gM q362 (gT (Ty.sl 1 1 [(Ty.lst Ty.int (stl k G rw1 wh a b))]) rfl (fun A B E H I d0 => rP (y_build1o Try.underlying24 Try.inf22 rfl (one_sl) (ed d0 rfl rfl rfl))) (gE2 ok39 fun a45 s37 ok40 D28 => ?_)))); have o111 := Own.k0 o107 D28.stp; have o112 := Own.k0 o108 D28.stp; have o113 := Own.k0 o109 D28.stp; have o114 := Own.k0 o110 D28.stp
         have q373 : At (Ty.val x10_4) s37 a45 (.tmp 115) := D28.done 0 (by decide)
         have q374 := D28.dn 2 (by decide) rfl rfl
         have b4 := sl_le q374
         refine tL ok40 (YldM.toL (m_append Try.underlying24 Try.inf22 (by decide) rfl (by decide) (al (R := (Pr.own 23 22 1 (List.length st2) (List.map Ty.ints st2))) q373 o111) q374 (by intro U hU; simp at hU; subst hU; exact one_sl) (by omega) (by omega))) fun a46 s38 hs10 ok41 r10 sm8 => ?_
         have F43 := (((F39.step0 D26.stp).step0 D27.stp).step0 D28.stp).stepL hs10 (by decide); have q375 := kpL hs10 (by decide) (sm8 15 (by decide)) (D28.kt (D27.kt (D26.kt q329 rfl) rfl) rfl); have q376 := kpL hs10 (by decide) (sm8 10 (by decide)) (D28.kt q352 rfl); have q377 := kpL hs10 (by decide) (sm8 14 (by decide)) (D28.kt (D27.kt (D26.kt q331 rfl) rfl) rfl); have q378 := kpL hs10 (by decide) (sm8 7 (by decide)) (D28.kt (D27.kt (D26.kt q332 rfl) rfl) rfl); have q379 := kpL hs10 (by decide) (sm8 8 (by decide)) (D28.kt (D27.kt q344 rfl) rfl); have q380 := kpL hs10 (by decide) (sm8 9 (by decide)) (D28.kt (D27.kt q345 rfl) rfl); have q381 := kpL hs10 (by decide) (sm8 6 (by decide)) (D28.kt (D27.kt q346 rfl) rfl); have q382 := kpL hs10 (by decide) (sm8 1 (by decide)) (D28.kt (D27.kt (D26.kt q336 rfl) rfl) rfl); have q383 := kpL hs10 (by decide) (sm8 5 (by decide)) (D28.kt (D27.kt (D26.kt q337 rfl) rfl) rfl); have q384 := kpL hs10 (by decide) (sm8 0 (by decide)) (D28.kt (D27.kt (D26.kt q338 rfl) rfl) rfl); have o116 := Own.keepL o112 hs10 (by decide) (by decide); have o117 := Own.keepL o113 hs10 (by decide) (by decide); have o118 := Own.keepL o114 hs10 (by decide) (by decide)
         obtain ⟨x6, hx6⟩ : ∃ x, a46.eval (.tmp 118) = x := ⟨_, rfl⟩
         have q385 : At (Ty.val x6) s38 a46 (.tmp 118) := hx6
         have o115 := al2 (R := (Pr.own 23 22 1 (List.length (st2 ++ [(stl k G rw1 wh a b)])) (List.map Ty.ints (st2 ++ [(stl k G rw1 wh a b)])))) hx6 (cvo (by simp) (by first | (rw [List.map_append]; rfl) | simp) r10)
         clear r10
         refine tL ok41 (Yld.toL (y_as q385)) fun a47 s39 hs11 ok42 r11 sm9 => ?_
         have F44 := F43.stepL hs11 (by decide); have q386 := kpL hs11 (by decide) (sm9 15 (by decide)) q375; have q387 := kpL hs11 (by decide) (sm9 14 (by decide)) q377; have q388 := kpL hs11 (by decide) (sm9 7 (by decide)) q378; have q389 := kpL hs11 (by decide) (sm9 8 (by decide)) q379; have q390 := kpL hs11 (by decide) (sm9 9 (by decide)) q380; have q391 := kpL hs11 (by decide) (sm9 6 (by decide)) q381; have q392 := kpL hs11 (by decide) (sm9 1 (by decide)) q382; have q393 := kpL hs11 (by decide) (sm9 5 (by decide)) q383; have q394 := kpL hs11 (by decide) (sm9 0 (by decide)) q384; have o119 := Own.keepL o116 hs11 (by decide) (by decide); have o120 := Own.keepL o117 hs11 (by decide) (by decide); have o121 := Own.keepL o118 hs11 (by decide) (by decide); have o122 := Own.keepL o115 hs11 (by decide) (by decide)
         have q395 : At (Ty.val x6) s39 a47 (.tmp 10) := r11
         clear r11; refine wpList_nil (bn (tn ?_))
         refine gI a47 s39 ok42 (gM q386 (gT (Ty.nat (b + 1)) rfl (fun A B E H I d0 => rP ((y_add (ed d0 rfl rfl rfl) rfl (w64 (by omega) (by omega))).mono (fun τ _ h => cvi (σ := τ) (by first | omega | exact (Int.natCast_mul _ _).symm) h))) (gB 0 (gE ok42 fun a48 s40 ok43 D29 => ?_)))); have o123 := Own.k0 o119 D29.stp; have o124 := Own.k0 o120 D29.stp; have o125 := Own.k0 o121 D29.stp; have o126 := Own.k0 o122 D29.stp
         exact tn ⟨G.length - ((b+1)), by omega, s40, (b+1), (st2 ++ [stl k G rw1 wh a b]), x6, rfl, (F44.step0 D29.stp), ok43, (cvi (by (first | rfl | omega | (simp_all; done) | (simp_all; omega))) (D29.dn 2 rfl rfl)), (D29.kt q395 rfl), (D29.kt q387 rfl), (D29.kt q388 rfl), (D29.kt q389 rfl), (D29.kt q390 rfl), (D29.kt q391 rfl), (D29.kt q392 rfl), (D29.kt q393 rfl), (D29.kt q394 rfl), (cvo (by (simp)) (by (simp)) o126), o123, o124, o125, by omega, hS2.step (by omega) (by omega), rfl⟩
        ·
         have eb : b = G.length := (by omega); have hS4 := (eb ▸ hS2 : Stl k G rw1 wh sp.length a G.length st2).next
         refine wp_exit (tx (tx (bx (bn (tn ?_)))))
         refine gI a42 s34 ok37 (gM q331 (gT (Ty.nat (a + 1)) rfl (fun A B E H I d0 => rP ((y_add (ed d0 rfl rfl rfl) rfl (w64 (by omega) (by omega))).mono (fun τ _ h => cvi (σ := τ) (by first | omega | exact (Int.natCast_mul _ _).symm) h))) (gB 0 (gE ok37 fun a49 s41 ok44 D30 => ?_)))); have o127 := Own.k0 o99 D30.stp; have o128 := Own.k0 o100 D30.stp; have o129 := Own.k0 o101 D30.stp; have o130 := Own.k0 o102 D30.stp
         exact tn ⟨sp.length - ((a+1)), by omega, s41, (a+1), st2, x10_4, rfl, (F39.step0 D30.stp), ok44, (cvi (by (first | rfl | omega | (simp_all; done) | (simp_all; omega))) (D30.dn 2 rfl rfl)), (D30.kt q330 rfl), (D30.kt q332 rfl), (D30.kt q333 rfl), (D30.kt q334 rfl), (D30.kt q335 rfl), (D30.kt q336 rfl), (D30.kt q337 rfl), (D30.kt q338 rfl), (cvo (by (simp)) (by (simp)) o127), o128, o129, o130, by omega, hS4, rfl⟩
      ·
       have ea : a = sp.length := (by omega); have hS9 : Stl k G rw1 wh sp.length sp.length 0 st := ea ▸ hS; obtain ⟨hst1, hst2⟩ := hO9.still (by omega) hn hGr hS9
       refine wp_exit (tx (tx (bx (tn (wp_seq ?_)))))
       refine gI a38 s32 ok34 (gM q306 (gM q301 (gT (Ty.nat (List.length sp)) rfl (fun A B E H I d0 => rP (own_len Try.underlying22 (al (R := (Pr.own 20 3 1 (List.length sp) (List.map Ty.int sp))) (ed d0 rfl rfl rfl) (Own.k0 o88 E)))) (gT (Ty.nat ((szTo n (fun y => y ∈ gens) k) * (List.length sp))) rfl (fun A B E H I d0 d1 => rP ((y_mul (ed d0 rfl rfl rfl) (ed d1 rfl rfl rfl) (w64 (by omega) (by omega))).mono (fun τ _ h => cvi (σ := τ) (by first | omega | exact (Int.natCast_mul _ _).symm) h))) (gB 0 (gE ok34 fun a50 s42 ok45 D31 => ?_)))))); have o131 := Own.k0 o87 D31.stp; have o132 := Own.k0 o88 D31.stp; have o133 := Own.k0 o89 D31.stp; have o134 := Own.k0 o90 D31.stp
       have q419 : At (Ty.nat (szTo n (fun y => y ∈ gens) (k + 1))) s42 a50 (.tmp 5) := (cvi (by (rw [hml])) (D31.dn 4 rfl rfl))
       refine tn (wp_seq ?_)
       obtain ⟨t11, e1, h1, q420⟩ := Own.seal o131 (by decide)
       rw [← e1]
       have F48 := (F36.step0 D31.stp).step h1 (by decide)
       have q421 : At (Ty.lst Ty.ints st) t11 a50 (.tmp 10) := by have e : a50.eval (.tmp 10) = x10_3 := (D31.kt q300 rfl); show Ty.has _ _ _; rw [e]; exact q420
       have q422 := Ty.up (Ty.nat k) (h1.le (by decide)) (D31.kt q304 rfl); have q423 := Ty.up (Ty.nat n) (h1.le (by decide)) (D31.kt q307 rfl); have q424 := Ty.up (Ty.nat (szTo n (fun y => y ∈ gens) (k + 1))) (h1.le (by decide)) q419
       refine gI a50 t11 ok45 (gM q423 (gM q421 (gM q422 (gT (Ty.nat (k + 1)) rfl (fun A B E H I d0 => rP ((y_add (ed d0 rfl rfl rfl) rfl (w64 (by omega) (by omega))).mono (fun τ _ h => cvi (σ := τ) (by first | omega | exact (Int.natCast_mul _ _).symm) h))) (gE2 ok45 fun a51 s43 ok46 D32 => ?_)))))
       refine tL ok46 (y_callL (L := []) [] [] _ rfl (by decide) Try.func66 rfl rfl my3 (rThin_fn (n) (st) ((k + 1)) _ (GW.low_lend _ (by decide)) _ _ _ (Ty.up _ (GW.le_lend _ _) (D32.dn 0 (by decide) rfl rfl)) (Ty.up _ (GW.le_lend _ _) (D32.dn 1 (by decide) rfl rfl)) (Ty.up _ (GW.le_lend _ _) (cvi (σ := s43) (by first | omega | assumption) (D32.dn 3 (by decide) rfl rfl)))  (by first | omega | assumption) (by first | omega | assumption) (by first | omega | assumption) (by first | omega | assumption))) fun a52 s44 hs12 ok47 r12 sm10 => ?_
       have F50 := (F48.step0 D32.stp).stepL hs12 (by decide); have q431 := kpL hs12 (by decide) (sm10 6 (by decide)) (D32.kt q422 rfl); have q432 := kpL hs12 (by decide) (sm10 0 (by decide)) (D32.kt q423 rfl); have q433 := kpL hs12 (by decide) (sm10 5 (by decide)) (D32.kt q424 rfl)
       obtain ⟨t12, ⟨g1, hT1, hp1⟩, B1⟩ := r12
       have q434 : At (Ty.lst Ty.ints (outT (g1) (n * n))) s44 a52 (.tmp 127) := Ty.up _ B1.le hT1
       refine tL ok47 (Yld.toL (y_as q434)) fun a53 s45 hs13 ok48 r13 sm11 => ?_
       have F51 := F50.stepL hs13 (by decide); have q435 := kpL hs13 (by decide) (sm11 6 (by decide)) q431; have q436 := kpL hs13 (by decide) (sm11 0 (by decide)) q432; have q437 := kpL hs13 (by decide) (sm11 5 (by decide)) q433
       have q438 : At (Ty.lst Ty.ints (outT (g1) (n * n))) s45 a53 (.tmp 1) := r13
       clear r13; refine wpList_nil ?_
       obtain ⟨ho1, ho2, ho3⟩ := Thin.done hp1 hst1
       have hnn1 : n * n ≤ 144 := Nat.mul_le_mul hn12 hn12
       have hZ2 := hZ.step hst2 ho1 ho2 (by omega)
       refine tn ?_
       refine gI a53 s45 ok48 (gM q435 (gT (Ty.nat (k + 1)) rfl (fun A B E H I d0 => rP ((y_add (ed d0 rfl rfl rfl) rfl (w64 (by omega) (by omega))).mono (fun τ _ h => cvi (σ := τ) (by first | omega | exact (Int.natCast_mul _ _).symm) h))) (gB 0 (gE ok48 fun a54 s46 ok49 D33 => ?_)))); refine bn ?_
       exact tn ⟨n - ((k+1)), by omega, s46, (k+1), (outT g1 (n * n)), rfl, (F51.step0 D33.stp), ok49, (cvi (by (first | rfl | omega | (simp_all; done) | (simp_all; omega))) (D33.dn 2 rfl rfl)), (cvt (by (first | rfl | omega | (simp_all; done) | (simp_all; omega))) (D33.kt q438 rfl)), (cvi (by (first | rfl | omega | (simp_all; done) | (simp_all; omega))) (D33.kt q437 rfl)), (D33.kt q436 rfl), by omega, hZ2, rfl⟩
  ·
   refine wp_exit (tx (tx (bx (tn (wp_seq ?_)))))
   refine gI a6 s4 ok5 (gM q16 (gB 0 (gE ok5 fun a55 s47 ok50 D34 => ?_))); refine tn (wp_ret ?_)
   exact retL1 rfl ok50 (F5.step0 D34.stp) (cvi (by (rw [show k = n by omega])) (D34.dn 1 rfl rfl))

theorem Try.inf135 : Info Try.prog 135 (.agg (Array.replicate 12 (.int .i64 0))) 12 96 := by unfold Info; kernel_rfl
set_option maxRecDepth 100000 in
theorem rowCheck_fn (r : List Int) (σ : GW) (v0 : Value) (hv0 : Ty.has (Ty.lst Ty.int r) σ v0)  :
    FnC Try.prog 72 #[v0] σ (Ty.int (rowMay r)) := by
 refine fn_intro Try.func72 rfl Try.ntmps72 (Nat.le_of_ble_eq_true rfl) (fun s0 a0 hle F0 ok0 hargs => ?_)
 have p0 := pA hle (hargs 0 _ rfl) hv0
 have b1 := sl_le p0
 clear hargs; refine wp_seq ?_
 refine gI a0 s0 ok0 (gC (Ty.int (0 : Int)) (gE ok0 fun a1 s1 ok1 D1 => ?_)); have q1 := D1.kt p0 rfl; refine tn (wp_seq (wp_seq ?_))
 refine gI a1 s1 ok1 (gM q1 (gS rfl (fun A B E H I d0 => rP (y_len Try.underlying22 (ed d0 rfl rfl rfl))) (gS rfl (fun A B E H I d0 => rP (y_lss (ed d0 rfl rfl rfl) rfl)) (gS rfl (fun A B E H I d0 => rP (y_move (ed d0 rfl rfl rfl))) (gS rfl (fun A B E H I d0 => gu H (ed d0 rfl rfl rfl) fun hg => y_move (kp (I 0 rfl) E q1)) (gS rfl (fun A B E H I d0 d1 => gu H (ed d1 rfl rfl rfl) fun hg => y_len Try.underlying22 ((ed d0 rfl rfl rfl).1 hg)) (gS rfl (fun A B E H I d0 d1 => gu H (ed d1 rfl rfl rfl) fun hg => y_gtr ((ed d0 rfl rfl rfl).1 hg) rfl) (gS rfl (fun A B E H I d0 d1 => rP (y_pick_or (ed d0 rfl rfl rfl) rfl (ed d1 rfl rfl rfl))) (gE ok1 fun a2 s2 ok2 D2 => ?_))))))))); have F2 := (F0.step0 D1.stp).step0 D2.stp; refine tn ?_
 refine cond_t (D2.dn 7 rfl rfl) (fun c1 => ?_) (fun c1 => ?_)
 ·
  simp only [Bool.or_eq_true, decide_eq_true_eq] at c1
  refine wp_seq ?_
  refine gI a2 s2 ok2 (gC (Ty.int (1 : Int)) (gE ok2 fun a3 s3 ok3 D3 => ?_)); refine tn (wp_ret (tr ?_))
  exact ret1 rfl ok3 (F2.step0 D3.stp) (cvi (by (exact (rowMay_cnt (by omega)).symm)) (D3.dn 0 rfl rfl))
 ·
  obtain ⟨d1, d2⟩ := Bool.or_eq_false_iff.mp c1
  replace d1 := of_decide_eq_false d1
  replace d2 := of_decide_eq_false d2
  refine wp_skip (tn (wp_seq ?_))
  refine gI a2 s2 ok2 (gR (Pr.ownp 11 (List.map Ty.int (List.replicate 12 0))) rfl (by intro A B E H I; exact rP (y_alloc Try.inf135 (by simp [Value.cells]) (alloc_zero 12 (by intro σ; exact rfl)))) (gE ok2 fun a4 s4 ok4 D4 => ?_)); have q5 := D4.kt (D2.kt q1 rfl) rfl
  have q6 : (Pr.ownp 11 (List.map Ty.int (List.replicate 12 0))).has s4 (a4.eval (.tmp 3)) := D4.done 0
  refine tn (wp_seq (wp_seq ?_))
  refine gI a4 s4 ok4 (gM q5 (gS rfl (fun A B E H I d0 => rP (y_len Try.underlying22 (ed d0 rfl rfl rfl))) (gT (Ty.int (0 : Int)) rfl (fun A B E H I => rP (y_move rfl)) (gE ok4 fun a5 s5 ok5 D5 => ?_))))
  have q8 : (Pr.ownp 11 (List.map Ty.int (List.replicate 12 0))).has s5 (a5.eval (.tmp 3)) := D5.ko q6 rfl
  refine tn (wp_block ?_)
  refine loop (fun n1 a6 w1 => ∃ (t1 : GW) (k : Nat), t1.w = w1 ∧ From s0 t1 ∧ Ok 40 [] a6 ∧ At (Ty.nat k) t1 a6 (.tmp 16) ∧ (Pr.ownp 11 (List.map Ty.int (seenL r k))).has t1 (a6.eval (.tmp 3)) ∧ At (Ty.lst Ty.int r) t1 a6 (.tmp 0) ∧ At (Ty.lst Ty.int r) t1 a6 (.tmp 14) ∧ At (Ty.nat (List.length r)) t1 a6 (.tmp 15) ∧ (k ≤ r.length) ∧ (Upto r k) ∧ n1 = r.length - k) (r.length - (0)) ?_ ?_
  ·
   exact ⟨s5, 0, rfl, ((F2.step0 D4.stp).step0 D5.stp), ok5, (cvi (by (first | rfl | omega | (simp_all; done) | (simp_all; omega))) (D5.dn 2 rfl rfl)), (cvop (by (rw [seenL_zero])) q8), (D5.kt q5 rfl), (D5.dn 0 rfl rfl), (D5.dn 1 rfl rfl), by omega, Upto.zero r, rfl⟩
  ·
   rintro n2 a7 w2 ⟨t2, k, rfl, F6, ok6, q12, q13, q14, q15, q16, hk, hu, rfl⟩
   have E := seenL_len r k
   refine wp_seq ?_
   refine gI a7 t2 ok6 (gS rfl (fun A B E H I => rP (y_lss (kp (I 16 rfl) E q12) (kp (I 15 rfl) E q16))) (gE ok6 fun a8 s6 ok7 D6 => ?_)); have F7 := F6.step0 D6.stp; have q17 := D6.kt q12 rfl
   have q18 : (Pr.ownp 11 (List.map Ty.int (seenL r k))).has s6 (a8.eval (.tmp 3)) := D6.ko q13 rfl
   have q20 := D6.kt q15 rfl; refine tn (wp_seq ?_)
   refine cond_p (p := (((k : Nat) : Int) < (((List.length r) : Nat) : Int))) (D6.dn 0 rfl rfl) (fun c2 => ?_) (fun c2 => ?_)
   ·
    refine wp_skip (tn (wp_seq (wp_block (wp_seq ?_))))
    refine gI a8 s6 ok7 (gT (Ty.ref [(Ty.int (r.getD k 0))]) rfl (fun A B E H I => rP (y_index1 Try.underlying22 Try.inf3 (kp (I 14 rfl) E q20) (kp (I 16 rfl) E q17) (by omega) (lst_get Ty.int r 0 k (by omega)))) (gS rfl (fun A B E H I d0 => rP (y_load Try.underlying3 rfl (ed d0 rfl rfl rfl) rfl)) (gB 0 (gE ok7 fun a9 s7 ok8 D7 => ?_))))
    have q24 : (Pr.ownp 11 (List.map Ty.int (seenL r k))).has s7 (a9.eval (.tmp 3)) := D7.ko q18 rfl
    have q25 := D7.kt (D6.kt q14 rfl) rfl; have q28 := D7.dn 2 rfl rfl; refine tn (wp_seq (wp_seq ?_))
    refine gI a9 s7 ok8 (gM q28 (gS rfl (fun A B E H I d0 => rP (y_lss (ed d0 rfl rfl rfl) rfl)) (gS rfl (fun A B E H I d0 => rP (y_move (ed d0 rfl rfl rfl))) (gS rfl (fun A B E H I d0 => gu H (ed d0 rfl rfl rfl) fun hg => y_move (kp (I 5 rfl) E q28)) (gS rfl (fun A B E H I d0 => gu H (ed d0 rfl rfl rfl) fun hg => y_move (kp (I 0 rfl) E q25)) (gS rfl (fun A B E H I d0 d1 => gu H (ed d1 rfl rfl rfl) fun hg => y_len Try.underlying22 ((ed d0 rfl rfl rfl).1 hg)) (gS rfl (fun A B E H I d0 d1 d2 => gu H (ed d2 rfl rfl rfl) fun hg => y_geq ((ed d0 rfl rfl rfl).1 hg) ((ed d1 rfl rfl rfl).1 hg)) (gS rfl (fun A B E H I d0 d1 => rP (y_pick_or (ed d0 rfl rfl rfl) rfl (ed d1 rfl rfl rfl))) (gS rfl (fun A B E H I d0 d1 => rP (y_move (ed d0 rfl rfl rfl))) (gT (Ty.grd (((decide ((r.getD k 0) < (0 : Int))) || (decide ((((List.length r) : Nat) : Int) ≤ (r.getD k 0)))) = false) (Ty.int (r.getD k 0))) rfl (by intro A B E H I d0; refine run_guard H rfl rfl (by decide) (ed d0 rfl rfl rfl) (fun hg => ?_); obtain ⟨d3, d4⟩ := Bool.or_eq_false_iff.mp hg; have d3 := of_decide_eq_false d3; have d4 := of_decide_eq_false d4; exact y_move (kp (I 5 rfl) E q28)) (gT (Ty.grd (((decide ((r.getD k 0) < (0 : Int))) || (decide ((((List.length r) : Nat) : Int) ≤ (r.getD k 0)))) = false) (Ty.val (ptrAt (a9.eval (.tmp 3)) ((r.getD k 0)).toNat))) rfl (by intro A B E H I d0 d1; refine run_guard H rfl rfl (by decide) (ed d1 rfl rfl rfl) (fun hg => ?_); obtain ⟨d5, d6⟩ := Bool.or_eq_false_iff.mp hg; have d5 := of_decide_eq_false d5; have d6 := of_decide_eq_false d6; exact ownp_index (i := (r.getD k 0)) Try.underlying135 Try.inf3 ((Pr.ownp 11 (List.map Ty.int (seenL r k))).up E q24) (I 3 rfl) ((ed d0 rfl rfl rfl).1 hg) (by omega) (by omega)) ?_)))))))))))
    refine gT (Ty.grd (((decide ((r.getD k 0) < (0 : Int))) || (decide ((((List.length r) : Nat) : Int) ≤ (r.getD k 0)))) = false) (Ty.int ((seenL r k).getD ((r.getD k 0)).toNat 0))) rfl (by intro A B E H I d0 d1; refine run_guard H rfl rfl (by decide) (ed d1 rfl rfl rfl) (fun hg => ?_); obtain ⟨d7, d8⟩ := Bool.or_eq_false_iff.mp hg; have d7 := of_decide_eq_false d7; have d8 := of_decide_eq_false d8; exact ownp_load Try.underlying3 rfl ((Pr.ownp 11 (List.map Ty.int (seenL r k))).up E q24) ((ed d0 rfl rfl rfl).1 hg) (lst_get Ty.int (seenL r k) 0 ((r.getD k 0)).toNat (by omega))) (gT (Ty.grd (((decide ((r.getD k 0) < (0 : Int))) || (decide ((((List.length r) : Nat) : Int) ≤ (r.getD k 0)))) = false) (Ty.bool (decide ((0 : Int) < ((seenL r k).getD ((r.getD k 0)).toNat 0))))) rfl (by intro A B E H I d0 d1; refine run_guard H rfl rfl (by decide) (ed d1 rfl rfl rfl) (fun hg => ?_); obtain ⟨d9, d10⟩ := Bool.or_eq_false_iff.mp hg; have d9 := of_decide_eq_false d9; have d10 := of_decide_eq_false d10; exact y_gtr ((ed d0 rfl rfl rfl).1 hg) rfl) (gS rfl (fun A B E H I d0 d1 => rP (y_pick_or (ed d0 rfl rfl rfl) rfl (ed d1 rfl rfl rfl))) (gE ok8 fun a10 s8 ok9 D8 => ?_))); have F9 := (F7.step0 D7.stp).step0 D8.stp
    have q30 : (Pr.ownp 11 (List.map Ty.int (seenL r k))).has s8 (a10.eval (.tmp 3)) := D8.ko q24 rfl
    refine tn ?_
    refine cond_t (D8.dn 13 rfl rfl) (fun c3 => ?_) (fun c3 => ?_)
    ·
     simp only [Bool.or_eq_true, decide_eq_true_eq] at c3
     refine wp_seq ?_
     refine gI a10 s8 ok9 (gC (Ty.int (2 : Int)) (gE ok9 fun a11 s9 ok10 D9 => ?_)); refine tn (wp_ret (tr (br (tr (tr (br (tr ?_)))))))
     exact ret1 rfl ok10 (F9.step0 D9.stp) (cvi (by (by_cases hb : r.getD k 0 < 0 ∨ (r.length : Int) ≤ r.getD k 0; exact (not_row_bd (by omega) (by omega) (by omega) hb).symm; exact (not_row_twice (k := k) (by omega) (by omega) (by omega) (by omega) (by omega) (by omega)).symm)) (D9.dn 0 rfl rfl))
    ·
     obtain ⟨d11, d12⟩ := Bool.or_eq_false_iff.mp c3
     obtain ⟨d13, d14⟩ := Bool.or_eq_false_iff.mp d11
     replace d13 := of_decide_eq_false d13
     replace d14 := of_decide_eq_false d14
     replace d12 := of_decide_eq_false d12
     have hq := seenL_bd r k (r.getD k 0).toNat
     refine wp_skip (tn ?_)
     refine gI a10 s8 ok9 (gM (D8.kt q28 rfl) (gT (Ty.val (ptrAt (a10.eval (.tmp 3)) ((r.getD k 0)).toNat)) rfl (fun A B E H I d0 => rP (ownp_index (i := (r.getD k 0)) Try.underlying135 Try.inf3 ((Pr.ownp 11 (List.map Ty.int (seenL r k))).up E q30) (I 3 rfl) (ed d0 rfl rfl rfl) (by omega) (by omega))) (gS rfl (fun A B E H I d0 => rP (ownp_load Try.underlying3 rfl ((Pr.ownp 11 (List.map Ty.int (seenL r k))).up E q30) (ed d0 rfl rfl rfl) (lst_get Ty.int (seenL r k) 0 ((r.getD k 0)).toNat (by omega)))) (gT (Ty.int (((seenL r k).getD ((r.getD k 0)).toNat 0) + (1 : Int))) rfl (fun A B E H I d0 => rP (y_add (ed d0 rfl rfl rfl) rfl (w64 (by omega) (by omega)))) (gT (Ty.val (ptrAt (a10.eval (.tmp 3)) ((r.getD k 0)).toNat)) rfl (fun A B E H I d0 d1 d2 d3 d4 => rP (ownp_index (i := (r.getD k 0)) Try.underlying135 Try.inf3 ((Pr.ownp 11 (List.map Ty.int (seenL r k))).up E q30) (I 3 rfl) (ed d0 rfl rfl rfl) (by omega) (by omega))) (gE2 ok9 fun a12 s10 ok11 D10 => ?_)))))); have q37 := (Pr.ownp 11 (List.map Ty.int (seenL r k))).up D10.stp q30
     have q39 : a12.eval (.tmp 3) = a10.eval (.tmp 3) := D10.same 3 rfl
     have q43 := D10.dn 3 (by decide) rfl rfl
     refine tail_step0 (m := 11) (R := (fun _ τ => OwnP τ 11 (a10.eval (.tmp 3)) ((List.map Ty.int (seenL r k)).set ((r.getD k 0)).toNat (Ty.int (((seenL r k).getD ((r.getD k 0)).toNat 0) + (1 : Int)))))) rfl rfl (m_storep Try.inf3 (by decide) q37 (D10.dn 4 (by decide) rfl rfl) (by simp only [List.length_map, List.length_set]; omega) q43 (one_val rfl)) (fun v1 s11 hs1 r1 => ?_)
     have F12 := (F9.step0 D10.stp).step hs1 (by decide)
     have q45 : At (Ty.nat k) s11 a12 (.tmp 16) := kpm hs1 (by decide) rfl (D10.kt (D8.kt (D7.kt q17 rfl) rfl) rfl)
     have q46 : At (Ty.lst Ty.int r) s11 a12 (.tmp 0) := kpm hs1 (by decide) rfl (D10.kt (D8.kt q25 rfl) rfl)
     have q47 : At (Ty.lst Ty.int r) s11 a12 (.tmp 14) := kpm hs1 (by decide) rfl (D10.kt (D8.kt (D7.kt q20 rfl) rfl) rfl)
     have q48 : At (Ty.nat (List.length r)) s11 a12 (.tmp 15) := kpm hs1 (by decide) rfl (D10.kt (D8.kt (D7.kt (D6.kt q16 rfl) rfl) rfl) rfl)
     have q49 : At (Ty.int (((seenL r k).getD ((r.getD k 0)).toNat 0) + (1 : Int))) s11 a12 (.tmp 37) := kpm hs1 (by decide) rfl q43
     have q50 : (Pr.ownp 11 (List.map Ty.int ((seenL r k).set ((r.getD k 0)).toNat (((seenL r k).getD ((r.getD k 0)).toNat 0) + (1 : Int))))).has s11 (a10.eval (.tmp 3)) := (cvop (by simp) r1)
     refine wpList_nil ?_
     have q51 : (Pr.ownp 11 (List.map Ty.int ((seenL r k).set ((r.getD k 0)).toNat (((seenL r k).getD ((r.getD k 0)).toNat 0) + (1 : Int))))).has s11 (a12.eval (.tmp 3)) := al q39 q50
     refine bn (tn ?_)
     refine gI a12 s11 ok11 (gT (Ty.int (((k : Nat) : Int) + (1 : Int))) rfl (fun A B E H I => rP (y_add (kp (I 16 rfl) E q45) rfl (w64 (by omega) (by omega)))) (gS rfl (fun A B E H I d0 => rP (y_move (ed d0 rfl rfl rfl))) (gE ok11 fun a14 s12 ok13 D11 => ?_)))
     have q52 : (Pr.ownp 11 (List.map Ty.int ((seenL r k).set ((r.getD k 0)).toNat (((seenL r k).getD ((r.getD k 0)).toNat 0) + (1 : Int))))).has s12 (a14.eval (.tmp 3)) := D11.ko q51 rfl
     exact tn ⟨r.length - ((k+1)), by omega, s12, (k+1), rfl, (F12.step0 D11.stp), ok13, (cvi (by (first | rfl | omega | (simp_all; done) | (simp_all; omega))) (D11.dn 1 rfl rfl)), (cvop (by (exact congrArg _ (seenL_step r k (by omega) (by omega) (by omega)))) q52), (D11.kt q46 rfl), (D11.kt q47 rfl), (D11.kt q48 rfl), by omega, hu.step (by omega) (by omega) (by omega) (by omega) (by omega), rfl⟩
   ·
    refine wp_exit (tx (tx (bx (tn (wp_seq ?_)))))
    refine gI a8 s6 ok7 (gC (Ty.int (0 : Int)) (gE ok7 fun a15 s13 ok14 D12 => ?_)); refine tn (wp_ret ?_)
    exact ret1 rfl ok14 (F7.step0 D12.stp) (cvi (by (exact (Upto.row (by have e : k = r.length := (by omega); rw [← e]; rw [e] at hu; rw [e]; exact hu) (by omega) (by omega)).symm)) (D12.dn 0 rfl rfl))


end Go.Proofs.Ytkjifbgofckfeaa
