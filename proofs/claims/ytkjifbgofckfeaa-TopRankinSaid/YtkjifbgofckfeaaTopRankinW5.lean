/- The functions that the law TopRankin reaches, each by its contract. Part 5. -/
import Derived.Test.YtkjifbgofckfeaaTopRankinW4
namespace Go.Proofs.Ytkjifbgofckfeaa
open Go.KL

set_option maxRecDepth 100000 in
theorem cycles_fn (r : List Int) (σ : GW) (v0 : Value) (hv0 : Ty.has (Ty.lst Ty.int r) σ v0)  :
    FnC Try.prog 89 #[v0] σ (Ty.tup2 (Ty.lst Ty.ints (if rowMay r = 0 then cyclesL r else [])) (Ty.int (rowMay r))) := by
 refine fn_intro Try.func89 rfl Try.ntmps89 (Nat.le_of_ble_eq_true rfl) (fun s0 a0 hle F0 ok0 hargs => ?_)
 have p0 := pA hle (hargs 0 _ rfl) hv0
 have b1 := sl_le p0
 clear hargs; refine wp_seq ?_
 refine gI a0 s0 ok0 (gC (Ty.val (Value.slice none 0 0)) (gC (Ty.int (0 : Int)) (gE ok0 fun a1 s1 ok1 D1 => ?_))); have q1 := D1.kt p0 rfl; refine tn (wp_seq (wp_seq ?_))
 refine gI a1 s1 ok1 (gM q1 (gS rfl (fun A B E G H d0 => rP (y_call _ Try.func72 rfl rfl my1 (rowCheck_fn (r) _ _ (ed d0 rfl rfl rfl) ))) (gB 0 (gE ok1 fun a2 s2 ok2 D2 => ?_)))); have q3 := D2.dn 2 rfl rfl; refine tn (wp_seq ?_)
 refine gI a2 s2 ok2 (gM q3 (gS rfl (fun A B E G H d0 => rP (y_neq (ed d0 rfl rfl rfl) rfl)) (gE ok2 fun a3 s3 ok3 D3 => ?_))); have F3 := ((F0.step0 D1.stp).step0 D2.stp).step0 D3.stp; refine tn ?_
 refine cond_p (p := ((rowMay r) ≠ (0 : Int))) (D3.dn 1 rfl rfl) (fun c1 => ?_) (fun c1 => ?_)
 ·
  refine wp_seq ?_
  refine gI a3 s3 ok3 (gM (D3.kt q3 rfl) (gC (Ty.val (Value.slice none 0 0)) (gB 0 (gE ok3 fun a4 s4 ok4 D4 => ?_)))); refine tn (wp_ret (tr ?_))
  exact ret2 rfl ok4 (F3.step0 D4.stp) (nil_lst (by (rw [if_neg (by assumption)])) (D4.dn 1 rfl rfl)) (D4.dn 2 rfl rfl)
 ·
  have hr := rowMay_ok.1 (Classical.not_not.1 c1); have hln := hr.le
  refine wp_skip (tn (wp_seq ?_))
  refine gI a3 s3 ok3 (gC (Ty.val (Value.slice none 0 0)) (gE ok3 fun a5 s5 ok5 D5 => ?_)); have q9 := D5.kt (D3.kt (D2.kt q1 rfl) rfl) rfl; refine tn (wp_seq ?_)
  refine gI a5 s5 ok5 (gM q9 (gS rfl (fun A B E G H d0 => rP (y_len Try.underlying22 (ed d0 rfl rfl rfl))) (gR (Pr.own 11 3 1 (List.length r) (List.map Ty.int (List.replicate (List.length r) 0))) rfl (by intro A B E G H d0 d1; have e1 := ed d0 rfl rfl rfl; exact rP ((y_make (k := 11) (T := Ty.int 0) (n := (List.length r)) Try.underlying22 Try.inf3 rfl (fun _ => rfl) e1 e1 (by omega) (by omega)).mono (fun _ _ h => cvo (by simp) (by simp) h))) (gR (Pr.own 11 3 1 (List.length r) (List.map Ty.int (List.replicate (List.length r) 0))) rfl (by intro A B E G H d0 d1 d2 d3; have e2 : (Pr.own 11 3 1 (List.length r) (List.map Ty.int (List.replicate (List.length r) 0))).has B (A.eval (.tmp 17)) := d0 rfl; exact rP (y_assign e2)) (gE ok5 fun a6 s6 ok6 D6 => ?_))))); have q11 := D6.kt q9 rfl
  have q13 : (Pr.own 11 3 1 (List.length r) (List.map Ty.int (List.replicate (List.length r) 0))).has s6 (a6.eval (.tmp 6)) := D6.done 3
  refine tn (wp_seq (wp_seq ?_))
  refine gI a6 s6 ok6 (gM q11 (gS rfl (fun A B E G H d0 => rP (y_len Try.underlying22 (ed d0 rfl rfl rfl))) (gT (Ty.int (0 : Int)) rfl (fun A B E G H => rP (y_move rfl)) (gE ok6 fun a7 s7 ok7 D7 => ?_))))
  have q16 : (Pr.own 11 3 1 (List.length r) (List.map Ty.int (List.replicate (List.length r) 0))).has s7 (a7.eval (.tmp 6)) := D7.ko q13 rfl
  refine tn (wp_block ?_)
  refine loop (fun n1 a8 w1 => ∃ (t1 : GW) (i : Nat), t1.w = w1 ∧ From s0 t1 ∧ Ok 52 [] a8 ∧ At (Ty.nat i) t1 a8 (.tmp 20) ∧ (Pr.own 2 22 1 (List.length (cyclesTo r i)) (List.map Ty.ints (cyclesTo r i))).has t1 (a8.eval (.tmp 5)) ∧ (Pr.own 11 3 1 (List.length (doneL r i 0)) (List.map Ty.int (doneL r i 0))).has t1 (a8.eval (.tmp 6)) ∧ At (Ty.lst Ty.int r) t1 a8 (.tmp 0) ∧ At (Ty.nat (List.length r)) t1 a8 (.tmp 19) ∧ (i ≤ r.length) ∧ n1 = r.length - i) (r.length - (0)) ?_ ?_
  ·
   exact ⟨s7, 0, rfl, (((F3.step0 D5.stp).step0 D6.stp).step0 D7.stp), ok7, (cvi (by (first | rfl | omega | (simp_all; done) | (simp_all; omega))) (D7.dn 2 rfl rfl)), (by have e : a7.eval (.tmp 5) = _ := (D7.kt (D6.kt (D5.dn 0 rfl rfl) rfl) rfl); rw [e]; exact Own.nil _ _ _ _), (cvo (by (simp [doneL_zero])) (by (simp [doneL_zero])) q16), (D7.kt q11 rfl), (D7.dn 1 rfl rfl), by omega, rfl⟩
  ·
   rintro n2 a9 w2 ⟨t2, i, rfl, F8, ok8, q19, q20, q21, q22, q23, hk, rfl⟩
   have hcl := cyclesTo_len r i
   have hdl := doneL_len r i 0
   refine wp_seq ?_
   refine gI a9 t2 ok8 (gS rfl (fun A B E G H => rP (y_lss (kp (H 20 rfl) E q19) (kp (H 19 rfl) E q23))) (gE ok8 fun a10 s8 ok9 D8 => ?_)); have F9 := F8.step0 D8.stp; have q24 := D8.kt q19 rfl
   have q25 : (Pr.own 2 22 1 (List.length (cyclesTo r i)) (List.map Ty.ints (cyclesTo r i))).has s8 (a10.eval (.tmp 5)) := D8.ko q20 rfl
   have q26 : (Pr.own 11 3 1 (List.length (doneL r i 0)) (List.map Ty.int (doneL r i 0))).has s8 (a10.eval (.tmp 6)) := D8.ko q21 rfl
   refine tn (wp_seq ?_)
   refine cond_p (p := (((i : Nat) : Int) < (((List.length r) : Nat) : Int))) (D8.dn 0 rfl rfl) (fun c2 => ?_) (fun c2 => ?_)
   ·
    have hper := per_spec hr (show i < r.length by omega)
    refine wp_skip (tn (wp_seq (wp_block (wp_seq ?_))))
    refine gI a10 s8 ok9 (gM q24 (gB 0 (gE ok9 fun a11 s9 ok10 D9 => ?_)))
    have q31 : (Pr.own 2 22 1 (List.length (cyclesTo r i)) (List.map Ty.ints (cyclesTo r i))).has s9 (a11.eval (.tmp 5)) := D9.ko q25 rfl
    have q32 : (Pr.own 11 3 1 (List.length (doneL r i 0)) (List.map Ty.int (doneL r i 0))).has s9 (a11.eval (.tmp 6)) := D9.ko q26 rfl
    refine tn (wp_seq ?_)
    refine gI a11 s9 ok10 (gC (Ty.val (Value.slice none 0 0)) (gE ok10 fun a12 s10 ok11 D10 => ?_))
    have q37 : (Pr.own 2 22 1 (List.length (cyclesTo r i)) (List.map Ty.ints (cyclesTo r i))).has s10 (a12.eval (.tmp 5)) := D10.ko q31 rfl
    have q38 : (Pr.own 11 3 1 (List.length (doneL r i 0)) (List.map Ty.int (doneL r i 0))).has s10 (a12.eval (.tmp 6)) := D10.ko q32 rfl
    refine tn (wp_seq (wp_seq ?_))
    refine gI a12 s10 ok11 (gM (D10.kt (D9.dn 1 rfl rfl) rfl) (gB 0 (gE ok11 fun a13 s11 ok12 D11 => ?_)))
    have q44 : (Pr.own 2 22 1 (List.length (cyclesTo r i)) (List.map Ty.ints (cyclesTo r i))).has s11 (a13.eval (.tmp 5)) := D11.ko q37 rfl
    have q45 : (Pr.own 11 3 1 (List.length (doneL r i 0)) (List.map Ty.int (doneL r i 0))).has s11 (a13.eval (.tmp 6)) := D11.ko q38 rfl
    refine tn (wp_block ?_)
    refine loop (fun n3 a14 w3 => ∃ (t3 : GW) (m : Nat), t3.w = w3 ∧ From s0 t3 ∧ Ok 52 [] a14 ∧ (Pr.own 11 3 1 (List.length (doneL r i m)) (List.map Ty.int (doneL r i m))).has t3 (a14.eval (.tmp 6)) ∧ (Pr.own 3 3 1 (List.length (orbTo r i m)) (List.map Ty.int (orbTo r i m))).has t3 (a14.eval (.tmp 8)) ∧ At (Ty.nat (itr r i m)) t3 a14 (.tmp 9) ∧ At (Ty.nat i) t3 a14 (.tmp 20) ∧ (Pr.own 2 22 1 (List.length (cyclesTo r i)) (List.map Ty.ints (cyclesTo r i))).has t3 (a14.eval (.tmp 5)) ∧ At (Ty.lst Ty.int r) t3 a14 (.tmp 0) ∧ At (Ty.nat (List.length r)) t3 a14 (.tmp 19) ∧ (m ≤ per r i) ∧ (m = 0 ∨ least r i = true) ∧ n3 = per r i + 1 - m) (per r i + 1 - (0)) ?_ ?_
    ·
     exact ⟨s11, 0, rfl, (((F9.step0 D9.stp).step0 D10.stp).step0 D11.stp), ok12, (cvo (by (simp)) (by (simp)) q45), (by have e : a13.eval (.tmp 8) = _ := (D11.kt (D10.dn 0 rfl rfl) rfl); rw [e]; exact Own.nil _ _ _ _), (cvi (by (first | rfl | omega | (simp_all; done) | (simp_all; omega))) (D11.dn 1 rfl rfl)), (D11.kt (D10.kt (D9.kt q24 rfl) rfl) rfl), q44, (D11.kt (D10.kt (D9.kt (D8.kt q22 rfl) rfl) rfl) rfl), (D11.kt (D10.kt (D9.kt (D8.kt q23 rfl) rfl) rfl) rfl), by omega, .inl rfl, rfl⟩
    ·
     rintro n4 a15 w4 ⟨t4, m, rfl, F13, ok13, q50, q51, q52, q53, q54, q55, q56, hm, hml, rfl⟩
     have hdm := doneL_len r i m
     have hit := itr_lt hr (show i < r.length by omega) m
     have h01 := doneL_01 r i m (itr r i m)
     have hol := orbTo_len r i m
     refine wp_seq (wp_seq ?_)
     refine gI a15 t4 ok13 (gT (Ty.val (a15.eval (.tmp 6))) rfl (fun A B E G H => rP (y_move (H 6 rfl))) (gM q52 (gT (Ty.val (cellPtr (a15.eval (.tmp 6)) (itr r i m))) rfl (fun A B E G H d0 d1 => rP (own_index1 (i := (((itr r i m) : Nat) : Int)) Try.underlying22 Try.inf3 ((Pr.own 11 3 1 (List.length (doneL r i m)) (List.map Ty.int (doneL r i m))).up E q50) (ed d0 rfl rfl rfl) (ed d1 rfl rfl rfl) (by omega) (by omega))) (gS rfl (fun A B E G H d0 => rP (own_load Try.underlying3 rfl ((Pr.own 11 3 1 (List.length (doneL r i m)) (List.map Ty.int (doneL r i m))).up E q50) (ed d0 rfl rfl rfl) (lst_get Ty.int (doneL r i m) 0 (itr r i m) (by omega)))) (gS rfl (fun A B E G H d0 => rP (y_eql (ed d0 rfl rfl rfl) rfl)) (gE ok13 fun a16 s12 ok14 D12 => ?_)))))); have F14 := F13.step0 D12.stp
     have q57 : (Pr.own 11 3 1 (List.length (doneL r i m)) (List.map Ty.int (doneL r i m))).has s12 (a16.eval (.tmp 6)) := D12.ko q50 rfl
     have q58 : (Pr.own 3 3 1 (List.length (orbTo r i m)) (List.map Ty.int (orbTo r i m))).has s12 (a16.eval (.tmp 8)) := D12.ko q51 rfl
     have q59 := D12.kt q52 rfl; have q60 := D12.kt q53 rfl
     have q61 : (Pr.own 2 22 1 (List.length (cyclesTo r i)) (List.map Ty.ints (cyclesTo r i))).has s12 (a16.eval (.tmp 5)) := D12.ko q54 rfl
     have q62 := D12.kt q55 rfl; have q63 := D12.kt q56 rfl; refine tn ?_
     refine cond_p (p := (((doneL r i m).getD (itr r i m) 0) = (0 : Int))) (D12.dn 4 rfl rfl) (fun c3 => ?_) (fun c3 => ?_)
     ·
      have hq := hr.at (itr_lt hr (show i < r.length by omega) m)
      refine wp_skip (tn (wp_seq (wp_block (wp_seq ?_))))
      refine gI a16 s12 ok14 (gT (Ty.val (a16.eval (.tmp 6))) rfl (fun A B E G H => rP (y_move (H 6 rfl))) (gM q59 (gT (Ty.val (cellPtr (a16.eval (.tmp 6)) (itr r i m))) rfl (fun A B E G H d0 d1 => rP (own_index1 (i := (((itr r i m) : Nat) : Int)) Try.underlying22 Try.inf3 ((Pr.own 11 3 1 (List.length (doneL r i m)) (List.map Ty.int (doneL r i m))).up E q57) (ed d0 rfl rfl rfl) (ed d1 rfl rfl rfl) (by omega) (by omega))) (gS rfl (fun A B E G H d0 => rP (own_load Try.underlying3 rfl ((Pr.own 11 3 1 (List.length (doneL r i m)) (List.map Ty.int (doneL r i m))).up E q57) (ed d0 rfl rfl rfl) (lst_get Ty.int (doneL r i m) 0 (itr r i m) (by omega)))) (gT (Ty.int (((doneL r i m).getD (itr r i m) 0) + (1 : Int))) rfl (fun A B E G H d0 => rP (y_add (ed d0 rfl rfl rfl) rfl (w64 (by omega) (by omega)))) (gT (Ty.val (cellPtr (a16.eval (.tmp 6)) (itr r i m))) rfl (fun A B E G H d0 d1 d2 d3 d4 d5 d6 => rP (own_index1 (i := (((itr r i m) : Nat) : Int)) Try.underlying22 Try.inf3 ((Pr.own 11 3 1 (List.length (doneL r i m)) (List.map Ty.int (doneL r i m))).up E q57) (ed d0 rfl rfl rfl) (ed d1 rfl rfl rfl) (by omega) (by omega))) (gE2 ok14 fun a17 s13 ok15 D13 => ?_))))))); have q65 := (Pr.own 11 3 1 (List.length (doneL r i m)) (List.map Ty.int (doneL r i m))).up D13.stp q57; have q66 := (Pr.own 3 3 1 (List.length (orbTo r i m)) (List.map Ty.int (orbTo r i m))).up D13.stp q58; have q67 := (Pr.own 2 22 1 (List.length (cyclesTo r i)) (List.map Ty.ints (cyclesTo r i))).up D13.stp q61
      have q68 : a17.eval (.tmp 6) = a16.eval (.tmp 6) := D13.same 6 rfl
      have q69 : a17.eval (.tmp 8) = a16.eval (.tmp 8) := D13.same 8 rfl
      have q72 : a17.eval (.tmp 5) = a16.eval (.tmp 5) := D13.same 5 rfl
      have q75 := D13.dn 4 (by decide) rfl rfl
      refine tail_step0 (m := 11) (R := (fun _ τ => Own τ 11 3 1 (a16.eval (.tmp 6)) (List.length (doneL r i m)) ((List.map Ty.int (doneL r i m)).set (itr r i m) (Ty.int (((doneL r i m).getD (itr r i m) 0) + (1 : Int)))))) rfl rfl (m_store Try.inf3 (by decide) q65 (D13.dn 5 (by decide) rfl rfl) (by simp only [List.length_map, List.length_set]; omega) q75 (one_val rfl)) (fun v1 s14 hs1 r1 => ?_)
      have F16 := (F14.step0 D13.stp).step hs1 (by decide)
      have q77 : At (Ty.nat (itr r i m)) s14 a17 (.tmp 9) := kpm hs1 (by decide) rfl (D13.kt q59 rfl)
      have q78 : At (Ty.nat i) s14 a17 (.tmp 20) := kpm hs1 (by decide) rfl (D13.kt q60 rfl)
      have q79 : At (Ty.lst Ty.int r) s14 a17 (.tmp 0) := kpm hs1 (by decide) rfl (D13.kt q62 rfl)
      have q80 : At (Ty.nat (List.length r)) s14 a17 (.tmp 19) := kpm hs1 (by decide) rfl (D13.kt q63 rfl)
      have q81 : At (Ty.int (((doneL r i m).getD (itr r i m) 0) + (1 : Int))) s14 a17 (.tmp 37) := kpm hs1 (by decide) rfl q75
      have q82 : (Pr.own 11 3 1 (List.length ((doneL r i m).set (itr r i m) (((doneL r i m).getD (itr r i m) 0) + (1 : Int)))) (List.map Ty.int ((doneL r i m).set (itr r i m) (((doneL r i m).getD (itr r i m) 0) + (1 : Int))))).has s14 (a16.eval (.tmp 6)) := (cvo (by simp) (by simp) r1)
      have q83 := Own.keep q66 hs1 (by decide) (.inr (by decide)); have q84 := Own.keep q67 hs1 (by decide) (.inr (by decide)); refine wpList_nil ?_
      have q85 : (Pr.own 11 3 1 (List.length ((doneL r i m).set (itr r i m) (((doneL r i m).getD (itr r i m) 0) + (1 : Int)))) (List.map Ty.int ((doneL r i m).set (itr r i m) (((doneL r i m).getD (itr r i m) 0) + (1 : Int))))).has s14 (a17.eval (.tmp 6)) := al q68 q82
      have q86 : (Pr.own 3 3 1 (List.length (orbTo r i m)) (List.map Ty.int (orbTo r i m))).has s14 (a17.eval (.tmp 8)) := al q69 q83
      have q87 : (Pr.own 2 22 1 (List.length (cyclesTo r i)) (List.map Ty.ints (cyclesTo r i))).has s14 (a17.eval (.tmp 5)) := al q72 q84
      refine tn ?_
      refine gI a17 s14 ok15 (gT (Ty.val (a17.eval (.tmp 8))) rfl (fun A B E G H => rP (y_move (H 8 rfl))) (gM q77 (gT (Ty.sl 1 1 [(Ty.nat (itr r i m))]) rfl (fun A B E G H d0 => rP (y_build1o Try.underlying22 Try.inf3 rfl (one_val rfl) (ed d0 rfl rfl rfl))) (gE2 ok15 fun a19 s15 ok17 D14 => ?_)))); have q88 := (Pr.own 11 3 1 (List.length ((doneL r i m).set (itr r i m) (((doneL r i m).getD (itr r i m) 0) + (1 : Int)))) (List.map Ty.int ((doneL r i m).set (itr r i m) (((doneL r i m).getD (itr r i m) 0) + (1 : Int))))).up D14.stp q85; have q89 := (Pr.own 3 3 1 (List.length (orbTo r i m)) (List.map Ty.int (orbTo r i m))).up D14.stp q86; have q90 := (Pr.own 2 22 1 (List.length (cyclesTo r i)) (List.map Ty.ints (cyclesTo r i))).up D14.stp q87
      have q91 : a19.eval (.tmp 6) = a17.eval (.tmp 6) := D14.same 6 rfl
      have q92 : a19.eval (.tmp 8) = a17.eval (.tmp 8) := D14.same 8 rfl
      have q95 : a19.eval (.tmp 5) = a17.eval (.tmp 5) := D14.same 5 rfl
      have q99 := D14.dn 2 (by decide) rfl rfl
      refine tail_step (m := 3) (R := (fun v τ => Own τ 3 3 1 v ((List.length (orbTo r i m)) + 1) ((List.map Ty.int (orbTo r i m)) ++ [(Ty.nat (itr r i m))]))) rfl rfl (by decide) ok17 (m_append Try.underlying22 Try.inf3 (by decide) rfl (by decide) (al (D14.dn 0 (by decide) rfl rfl) q89) q99 (by intro U hU; simp at hU;  subst hU; exact one_val rfl) (by omega) (by omega)) (fun a20 s16 hs2 ok18 r2 sm2 => ?_)
      have F18 := (F16.step0 D14.stp).step hs2 (by decide); have q100 := Own.keep q88 hs2 (by decide) (.inr (by decide)); have q101 := Own.keep q90 hs2 (by decide) (.inr (by decide)); have q102 := (sm2 6 (by decide)).trans q91
      have q103 : At (Ty.nat (itr r i m)) s16 a20 (.tmp 9) := kpm hs2 (by decide) (sm2 9 (by decide)) (D14.kt q77 rfl)
      have q104 : At (Ty.nat i) s16 a20 (.tmp 20) := kpm hs2 (by decide) (sm2 20 (by decide)) (D14.kt q78 rfl)
      have q105 := (sm2 5 (by decide)).trans q95
      have q106 : At (Ty.lst Ty.int r) s16 a20 (.tmp 0) := kpm hs2 (by decide) (sm2 0 (by decide)) (D14.kt q79 rfl)
      have q107 : At (Ty.nat (List.length r)) s16 a20 (.tmp 19) := kpm hs2 (by decide) (sm2 19 (by decide)) (D14.kt q80 rfl)
      have q108 : At (Ty.sl 1 1 [(Ty.nat (itr r i m))]) s16 a20 (.tmp 41) := kpm hs2 (by decide) (sm2 41 (by decide)) q99
      have q109 : (Pr.own 3 3 1 (List.length ((orbTo r i m) ++ [(((itr r i m) : Nat) : Int)])) (List.map Ty.int ((orbTo r i m) ++ [(((itr r i m) : Nat) : Int)]))).has s16 (a20.eval (.tmp 42)) := (cvo (by simp) (by first | (rw [List.map_append]; rfl) | simp) r2)
      refine tail_step (m := 0) (R := (fun v τ => Pr.has (Pr.own 3 3 1 (List.length ((orbTo r i m) ++ [(((itr r i m) : Nat) : Int)])) (List.map Ty.int ((orbTo r i m) ++ [(((itr r i m) : Nat) : Int)]))) τ v)) rfl rfl (by decide) ok18 (Yld.toM (y_assign q109)) (fun a21 s17 hs3 ok19 r3 sm3 => ?_)
      have F19 := F18.step hs3 (by decide); have q110 := Own.keep q100 hs3 (by decide) (.inl rfl); have q111 := Own.keep q101 hs3 (by decide) (.inl rfl); have q112 := (sm3 6 (by decide)).trans q102
      have q113 : At (Ty.nat (itr r i m)) s17 a21 (.tmp 9) := kpm hs3 (by decide) (sm3 9 (by decide)) q103
      have q114 : At (Ty.nat i) s17 a21 (.tmp 20) := kpm hs3 (by decide) (sm3 20 (by decide)) q104
      have q115 := (sm3 5 (by decide)).trans q105
      have q116 : At (Ty.lst Ty.int r) s17 a21 (.tmp 0) := kpm hs3 (by decide) (sm3 0 (by decide)) q106
      have q117 : At (Ty.nat (List.length r)) s17 a21 (.tmp 19) := kpm hs3 (by decide) (sm3 19 (by decide)) q107
      have q118 : At (Ty.sl 1 1 [(Ty.nat (itr r i m))]) s17 a21 (.tmp 41) := kpm hs3 (by decide) (sm3 41 (by decide)) q108
      have q119 : (Pr.own 3 3 1 (List.length ((orbTo r i m) ++ [(((itr r i m) : Nat) : Int)])) (List.map Ty.int ((orbTo r i m) ++ [(((itr r i m) : Nat) : Int)]))).has s17 (a21.eval (.tmp 42)) := kpmo hs3 (by decide) (.inl rfl) (sm3 42 (by decide)) q109
      have q120 : (Pr.own 3 3 1 (List.length ((orbTo r i m) ++ [(((itr r i m) : Nat) : Int)])) (List.map Ty.int ((orbTo r i m) ++ [(((itr r i m) : Nat) : Int)]))).has s17 (a21.eval (.tmp 8)) := r3
      refine wpList_nil ?_
      have q121 : (Pr.own 11 3 1 (List.length ((doneL r i m).set (itr r i m) (((doneL r i m).getD (itr r i m) 0) + (1 : Int)))) (List.map Ty.int ((doneL r i m).set (itr r i m) (((doneL r i m).getD (itr r i m) 0) + (1 : Int))))).has s17 (a21.eval (.tmp 6)) := al q112 q110
      have q122 : (Pr.own 2 22 1 (List.length (cyclesTo r i)) (List.map Ty.ints (cyclesTo r i))).has s17 (a21.eval (.tmp 5)) := al q115 q111
      refine bn (tn ?_)
      refine gI a21 s17 ok19 (gM q116 (gM q113 (gT (Ty.ref [(Ty.int (r.getD (itr r i m) 0))]) rfl (fun A B E G H d0 d1 => rP (y_index1 Try.underlying22 Try.inf3 (ed d0 rfl rfl rfl) (ed d1 rfl rfl rfl) (by omega) (lst_get Ty.int r 0 (itr r i m) (by omega)))) (gS rfl (fun A B E G H d0 => rP (y_load Try.underlying3 rfl (ed d0 rfl rfl rfl) rfl)) (gB 0 (gE ok19 fun a22 s18 ok20 D15 => ?_))))))
      have q123 : (Pr.own 11 3 1 (List.length ((doneL r i m).set (itr r i m) (((doneL r i m).getD (itr r i m) 0) + (1 : Int)))) (List.map Ty.int ((doneL r i m).set (itr r i m) (((doneL r i m).getD (itr r i m) 0) + (1 : Int))))).has s18 (a22.eval (.tmp 6)) := D15.ko q121 rfl
      have q125 : (Pr.own 2 22 1 (List.length (cyclesTo r i)) (List.map Ty.ints (cyclesTo r i))).has s18 (a22.eval (.tmp 5)) := D15.ko q122 rfl
      have q128 : (Pr.own 3 3 1 (List.length ((orbTo r i m) ++ [(((itr r i m) : Nat) : Int)])) (List.map Ty.int ((orbTo r i m) ++ [(((itr r i m) : Nat) : Int)]))).has s18 (a22.eval (.tmp 8)) := D15.ko q120 rfl
      have hlst := cyc_least hr (show i < r.length by omega) hml c3
      have hlt := (done_mid hr (show i < r.length by omega) hlst hm).1 c3
      exact tn ⟨per r i + 1 - ((m+1)), by omega, s18, (m+1), rfl, (F19.step0 D15.stp), ok20, (cvo (by (first | (rw [c3]; exact congrArg _ (doneL_step hr (by omega) c3)) | (rw [c3]; exact congrArg _ (congrArg _ (doneL_step hr (by omega) c3))))) (by (first | (rw [c3]; exact congrArg _ (doneL_step hr (by omega) c3)) | (rw [c3]; exact congrArg _ (congrArg _ (doneL_step hr (by omega) c3))))) q123), (cvo (by (rw [orbTo_succ])) (by (rw [orbTo_succ])) q128), (cvi (by (exact (nxt_int hr (by omega)).symm)) (D15.dn 4 rfl rfl)), (D15.kt q114 rfl), q125, (D15.kt q116 rfl), (D15.kt q117 rfl), by omega, .inr hlst, rfl⟩
     ·
      refine wp_exit (tx (tx (bx (tn (wp_seq ?_)))))
      refine gI a16 s12 ok14 (gT (Ty.val (a16.eval (.tmp 8))) rfl (fun A B E G H => rP (y_move (H 8 rfl))) (gT (Ty.nat (List.length (orbTo r i m))) rfl (fun A B E G H d0 => rP (own_len Try.underlying22 (al (ed d0 rfl rfl rfl) ((Pr.own 3 3 1 (List.length (orbTo r i m)) (List.map Ty.int (orbTo r i m))).up E q58)))) (gS rfl (fun A B E G H d0 => rP (y_gtr (ed d0 rfl rfl rfl) rfl)) (gE ok14 fun a23 s19 ok21 D16 => ?_)))); have F21 := F14.step0 D16.stp
      have q130 : (Pr.own 11 3 1 (List.length (doneL r i m)) (List.map Ty.int (doneL r i m))).has s19 (a23.eval (.tmp 6)) := D16.ko q57 rfl
      have q131 : (Pr.own 3 3 1 (List.length (orbTo r i m)) (List.map Ty.int (orbTo r i m))).has s19 (a23.eval (.tmp 8)) := D16.ko q58 rfl
      have q132 := D16.kt q60 rfl
      have q133 : (Pr.own 2 22 1 (List.length (cyclesTo r i)) (List.map Ty.ints (cyclesTo r i))).has s19 (a23.eval (.tmp 5)) := D16.ko q61 rfl
      have q134 := D16.kt q62 rfl; have q135 := D16.kt q63 rfl; have q136 := D16.dn 2 rfl rfl; refine tn ?_
      refine cond_p (p := ((0 : Int) < (((List.length (orbTo r i m)) : Nat) : Int))) q136 (fun c4 => ?_) (fun c4 => ?_)
      ·
       have hml2 := cyc_some hr (by omega) hm hml c3 (by simpa [orbTo_len] using c4)
       obtain ⟨t5, e1, h1, q137⟩ := Own.seal q131 (by decide)
       rw [← e1]
       have F22 := F21.step h1 (by decide); have q138 := Own.keep q130 h1 (by decide) (.inr (by decide)); have q139 := Ty.up (Ty.nat i) (h1.le (by decide)) q132; have q140 := Own.keep q133 h1 (by decide) (.inr (by decide)); have q141 := Ty.up (Ty.lst Ty.int r) (h1.le (by decide)) q134; have q142 := Ty.up (Ty.nat (List.length r)) (h1.le (by decide)) q135; have q143 := Ty.up (Ty.bool (decide ((0 : Int) < (((List.length (orbTo r i m)) : Nat) : Int)))) (h1.le (by decide)) q136
       refine gI a23 t5 ok21 (gT (Ty.val (a23.eval (.tmp 5))) rfl (fun A B E G H => rP (y_move (H 5 rfl))) (gM q137 (gT (Ty.sl 1 1 [(Ty.lst Ty.int (orbTo r i m))]) rfl (fun A B E G H d0 => rP (y_build1o Try.underlying24 Try.inf22 rfl (one_sl) (ed d0 rfl rfl rfl))) (gE2 ok21 fun a24 s20 ok22 D17 => ?_)))); have q144 := (Pr.own 11 3 1 (List.length (doneL r i m)) (List.map Ty.int (doneL r i m))).up D17.stp q138; have q145 := (Pr.own 2 22 1 (List.length (cyclesTo r i)) (List.map Ty.ints (cyclesTo r i))).up D17.stp q140
       have q146 : a24.eval (.tmp 6) = a23.eval (.tmp 6) := D17.same 6 rfl
       have q148 : a24.eval (.tmp 5) = a23.eval (.tmp 5) := D17.same 5 rfl
       have q152 := D17.dn 2 (by decide) rfl rfl
       refine tail_step (m := 2) (R := (fun v τ => Own τ 2 22 1 v ((List.length (cyclesTo r i)) + 1) ((List.map Ty.ints (cyclesTo r i)) ++ [(Ty.lst Ty.int (orbTo r i m))]))) rfl rfl (by decide) ok22 (m_append Try.underlying24 Try.inf22 (by decide) rfl (by decide) (al (D17.dn 0 (by decide) rfl rfl) q145) q152 (by intro U hU; simp at hU;  subst hU; exact one_sl) (by omega) (by omega)) (fun a25 s21 hs4 ok23 r4 sm4 => ?_)
       have F24 := (F22.step0 D17.stp).step hs4 (by decide); have q153 := Own.keep q144 hs4 (by decide) (.inr (by decide)); have q154 := (sm4 6 (by decide)).trans q146
       have q155 : At (Ty.nat i) s21 a25 (.tmp 20) := kpm hs4 (by decide) (sm4 20 (by decide)) (D17.kt q139 rfl)
       have q156 : At (Ty.lst Ty.int r) s21 a25 (.tmp 0) := kpm hs4 (by decide) (sm4 0 (by decide)) (D17.kt q141 rfl)
       have q157 : At (Ty.nat (List.length r)) s21 a25 (.tmp 19) := kpm hs4 (by decide) (sm4 19 (by decide)) (D17.kt q142 rfl)
       have q158 : At (Ty.sl 1 1 [(Ty.lst Ty.int (orbTo r i m))]) s21 a25 (.tmp 48) := kpm hs4 (by decide) (sm4 48 (by decide)) q152
       have q159 : (Pr.own 2 22 1 (List.length ((cyclesTo r i) ++ [(orbTo r i m)])) (List.map Ty.ints ((cyclesTo r i) ++ [(orbTo r i m)]))).has s21 (a25.eval (.tmp 49)) := (cvo (by simp) (by first | (rw [List.map_append]; rfl) | simp) r4)
       refine tail_step (m := 0) (R := (fun v τ => Pr.has (Pr.own 2 22 1 (List.length ((cyclesTo r i) ++ [(orbTo r i m)])) (List.map Ty.ints ((cyclesTo r i) ++ [(orbTo r i m)]))) τ v)) rfl rfl (by decide) ok23 (Yld.toM (y_assign q159)) (fun a26 s22 hs5 ok24 r5 sm5 => ?_)
       have F25 := F24.step hs5 (by decide); have q160 := Own.keep q153 hs5 (by decide) (.inl rfl); have q161 := (sm5 6 (by decide)).trans q154
       have q162 : At (Ty.nat i) s22 a26 (.tmp 20) := kpm hs5 (by decide) (sm5 20 (by decide)) q155
       have q163 : At (Ty.lst Ty.int r) s22 a26 (.tmp 0) := kpm hs5 (by decide) (sm5 0 (by decide)) q156
       have q164 : At (Ty.nat (List.length r)) s22 a26 (.tmp 19) := kpm hs5 (by decide) (sm5 19 (by decide)) q157
       have q165 : At (Ty.sl 1 1 [(Ty.lst Ty.int (orbTo r i m))]) s22 a26 (.tmp 48) := kpm hs5 (by decide) (sm5 48 (by decide)) q158
       have q166 : (Pr.own 2 22 1 (List.length ((cyclesTo r i) ++ [(orbTo r i m)])) (List.map Ty.ints ((cyclesTo r i) ++ [(orbTo r i m)]))).has s22 (a26.eval (.tmp 49)) := kpmo hs5 (by decide) (.inl rfl) (sm5 49 (by decide)) q159
       have q167 : (Pr.own 2 22 1 (List.length ((cyclesTo r i) ++ [(orbTo r i m)])) (List.map Ty.ints ((cyclesTo r i) ++ [(orbTo r i m)]))).has s22 (a26.eval (.tmp 5)) := r5
       refine wpList_nil ?_
       have q168 : (Pr.own 11 3 1 (List.length (doneL r i m)) (List.map Ty.int (doneL r i m))).has s22 (a26.eval (.tmp 6)) := al q161 q160
       refine bn (tn ?_)
       refine gI a26 s22 ok24 (gT (Ty.int (((i : Nat) : Int) + (1 : Int))) rfl (fun A B E G H => rP (y_add (kp (H 20 rfl) E q162) rfl (w64 (by omega) (by omega)))) (gS rfl (fun A B E G H d0 => rP (y_move (ed d0 rfl rfl rfl))) (gE ok24 fun a27 s23 ok25 D18 => ?_)))
       have q169 : (Pr.own 11 3 1 (List.length (doneL r i m)) (List.map Ty.int (doneL r i m))).has s23 (a27.eval (.tmp 6)) := D18.ko q168 rfl
       have q172 : (Pr.own 2 22 1 (List.length ((cyclesTo r i) ++ [(orbTo r i m)])) (List.map Ty.ints ((cyclesTo r i) ++ [(orbTo r i m)]))).has s23 (a27.eval (.tmp 5)) := D18.ko q167 rfl
       exact tn ⟨r.length - ((i+1)), by omega, s23, (i+1), rfl, (F25.step0 D18.stp), ok25, (cvi (by (first | rfl | omega | (simp_all; done) | (simp_all; omega))) (D18.dn 1 rfl rfl)), (cvo (by (rw [hml2.2, cyclesTo_yes r i hml2.1]; rfl)) (by (rw [hml2.2, cyclesTo_yes r i hml2.1]; rfl)) q172), (cvo (by (rw [hml2.2, done_next hr (by omega)])) (by (rw [hml2.2, done_next hr (by omega)])) q169), (D18.kt q163 rfl), (D18.kt q164 rfl), by omega, rfl⟩
      ·
       have hml2 := cyc_none hr (by omega) hm c3 (by simpa [orbTo_len] using c4)
       refine wp_skip (bn (tn ?_))
       refine gI a23 s19 ok21 (gT (Ty.int (((i : Nat) : Int) + (1 : Int))) rfl (fun A B E G H => rP (y_add (kp (H 20 rfl) E q132) rfl (w64 (by omega) (by omega)))) (gS rfl (fun A B E G H d0 => rP (y_move (ed d0 rfl rfl rfl))) (gE ok21 fun a28 s24 ok26 D19 => ?_)))
       have q174 : (Pr.own 11 3 1 (List.length (doneL r i m)) (List.map Ty.int (doneL r i m))).has s24 (a28.eval (.tmp 6)) := D19.ko q130 rfl
       have q175 : (Pr.own 2 22 1 (List.length (cyclesTo r i)) (List.map Ty.ints (cyclesTo r i))).has s24 (a28.eval (.tmp 5)) := D19.ko q133 rfl
       exact tn ⟨r.length - ((i+1)), by omega, s24, (i+1), rfl, (F21.step0 D19.stp), ok26, (cvi (by (first | rfl | omega | (simp_all; done) | (simp_all; omega))) (D19.dn 1 rfl rfl)), (cvo (by (rw [cyclesTo_no r i hml2.1])) (by (rw [cyclesTo_no r i hml2.1])) q175), (cvo (by (rw [hml2.2, done_skip hr (by omega) hml2.1])) (by (rw [hml2.2, done_skip hr (by omega) hml2.1])) q174), (D19.kt q134 rfl), (D19.kt q135 rfl), by omega, rfl⟩
   ·
    refine wp_exit (tx (tx (bx (tn (wp_seq ?_)))))
    refine gI a10 s8 ok9 (gT (Ty.val (a10.eval (.tmp 5))) rfl (fun A B E G H => rP (y_move (H 5 rfl))) (gB 0 (gC (Ty.int (0 : Int)) (gE ok9 fun a29 s25 ok27 D20 => ?_))))
    have q179 : (Pr.own 2 22 1 (List.length (cyclesTo r i)) (List.map Ty.ints (cyclesTo r i))).has s25 (a29.eval (.tmp 2)) := al (show _ = _ from D20.done 1) ((Pr.own 2 22 1 (List.length (cyclesTo r i)) (List.map Ty.ints (cyclesTo r i))).up D20.stp q25)
    refine tn (wp_ret ?_)
    obtain ⟨t6, e2, h2, q181⟩ := Own.seal q179 (by decide)
    rw [← e2]
    have F29 := (F9.step0 D20.stp).step h2 (by decide); have q182 := Ty.up (Ty.int (0 : Int)) (h2.le (by decide)) (D20.dn 2 rfl rfl)
    exact ret2 rfl ok27 F29 (cvt (by (obtain rfl : i = r.length := (by omega); rw [if_pos (Classical.not_not.1 c1)]; rfl)) q181) (cvi (by (exact (Classical.not_not.1 c1).symm)) q182)


set_option maxRecDepth 100000 in
theorem common_fn (a : Nat) (b : Nat) (σ : GW) (v0 v1 : Value) (hv0 : Ty.has (Ty.nat a) σ v0) (hv1 : Ty.has (Ty.nat b) σ v1) (ha : a ≤ 1000000000) (hb : b ≤ 1000000000) :
    FnC Try.prog 90 #[v0, v1] σ (Ty.nat (Nat.gcd a b)) := by
 refine fn_intro Try.func90 rfl Try.ntmps90 (Nat.le_of_ble_eq_true rfl) (fun s0 a0 hle F0 ok0 hargs => ?_)
 have p0 := pA hle (hargs 0 _ rfl) hv0
 have p1 := pA hle (hargs 1 _ rfl) hv1
 clear hargs; refine wp_seq ?_
 refine gI a0 s0 ok0 (gC (Ty.int (0 : Int)) (gE ok0 fun a1 s1 ok1 D1 => ?_)); refine tn (wp_seq (wp_block ?_))
 refine loop (fun n1 a2 w1 => ∃ (t1 : GW) (x : Nat) (y : Nat), t1.w = w1 ∧ From s0 t1 ∧ Ok 12 [] a2 ∧ At (Ty.nat x) t1 a2 (.tmp 0) ∧ At (Ty.nat y) t1 a2 (.tmp 1) ∧ (x ≤ 1000000000) ∧ (y ≤ 1000000000) ∧ (Nat.gcd x y = Nat.gcd a b) ∧ n1 = y + 1) ((b) + 1) ?_ ?_
 ·
  exact ⟨s1, a, b, rfl, (F0.step0 D1.stp), ok1, (cvi (by (first | rfl | omega | (simp_all; done) | (simp_all; omega))) (D1.kt p0 rfl)), (cvi (by (first | rfl | omega | (simp_all; done) | (simp_all; omega))) (D1.kt p1 rfl)), by omega, by omega, rfl, rfl⟩
 ·
  rintro n2 a3 w2 ⟨t2, x, y, rfl, F2, ok2, q3, q4, hx, hy, hg, rfl⟩
  refine wp_seq (wp_seq ?_)
  refine gI a3 t2 ok2 (gM q4 (gS rfl (fun A B E G H d0 => rP (y_gtr (ed d0 rfl rfl rfl) rfl)) (gE ok2 fun a4 s2 ok3 D2 => ?_))); have F3 := F2.step0 D2.stp; have q5 := D2.kt q3 rfl; have q6 := D2.kt q4 rfl; refine tn ?_
  refine cond_p (p := ((0 : Int) < ((y : Nat) : Int))) (D2.dn 1 rfl rfl) (fun c1 => ?_) (fun c1 => ?_)
  ·
   refine wp_skip (tn (wp_block ?_))
   refine gI a4 s2 ok3 (gM q6 (gM q5 (gM q6 (gT (Ty.nat (x % y)) rfl (fun A B E G H d0 d1 => rP (y_remN (ed d0 rfl rfl rfl) (ed d1 rfl rfl rfl) (by omega))) (gB 0 (gB 0 (gE ok3 fun a5 s3 ok4 D3 => ?_))))))); refine bn ?_
   exact tn ⟨((x % y)) + 1, by have := Nat.mod_lt x (show 0 < y by omega); omega, s3, y, (x % y), rfl, (F3.step0 D3.stp), ok4, (cvi (by (first | rfl | omega | (simp_all; done) | (simp_all; omega))) (D3.dn 4 rfl rfl)), (cvi (by (omega)) (D3.dn 5 rfl rfl)), by omega, by have := Nat.mod_lt x (show 0 < y by omega); omega, by rw [← hg, Nat.gcd_comm x y, Nat.gcd_rec y x, Nat.gcd_comm], rfl⟩
  ·
   refine wp_exit (tx (tx (bx (tn (wp_seq ?_)))))
   refine gI a4 s2 ok3 (gM q5 (gB 0 (gE ok3 fun a6 s4 ok5 D4 => ?_))); refine tn (wp_ret ?_)
   exact ret1 rfl ok5 (F3.step0 D4.stp) (cvi (by (obtain rfl : y = 0 := (by omega); rw [← hg, Nat.gcd_zero_right])) (D4.dn 1 rfl rfl))


set_option maxRecDepth 100000 in
theorem order_fn (r : List Int) (σ : GW) (v0 : Value) (hv0 : Ty.has (Ty.lst Ty.int r) σ v0)  :
    FnC Try.prog 55 #[v0] σ (Ty.tup3 (Ty.nat (if rowMay r = 0 then ordL r else 0)) (Ty.bool (if rowMay r = 0 then oddL r else false)) (Ty.int (rowMay r))) := by
 refine fn_intro Try.func55 rfl Try.ntmps55 (Nat.le_of_ble_eq_true rfl) (fun s0 a0 hle F0 ok0 hargs => ?_)
 have p0 := pA hle (hargs 0 _ rfl) hv0
 have b1 := sl_le p0
 clear hargs; refine wp_seq ?_
 refine gI a0 s0 ok0 (gC (Ty.int (0 : Int)) (gC (Ty.bool false) (gC (Ty.int (0 : Int)) (gE ok0 fun a1 s1 ok1 D1 => ?_)))); refine tn (wp_seq ?_)
 refine gI a1 s1 ok1 (gM (D1.kt p0 rfl) (gS rfl (fun A B E G H d0 => rP (y_call _ Try.func89 rfl rfl my1 (cycles_fn (r) _ _ (ed d0 rfl rfl rfl) ))) (gS rfl (fun A B E G H d0 => rP (y_move (ed d0 rfl rfl rfl))) (gT (Ty.lst Ty.ints (if rowMay r = 0 then cyclesL r else [])) rfl (fun A B E G H d0 => rP (y_ext2_0 (ed d0 rfl rfl rfl))) (gT (Ty.int (rowMay r)) rfl (fun A B E G H d0 d1 => rP (y_ext2_1 (ed d0 rfl rfl rfl))) (gB 0 (gB 0 (gE ok1 fun a2 s2 ok2 D2 => ?_)))))))); have q5 := D2.dn 6 rfl rfl; refine tn (wp_seq (wp_seq ?_))
 refine gI a2 s2 ok2 (gM q5 (gS rfl (fun A B E G H d0 => rP (y_neq (ed d0 rfl rfl rfl) rfl)) (gE ok2 fun a3 s3 ok3 D3 => ?_))); have F3 := ((F0.step0 D1.stp).step0 D2.stp).step0 D3.stp; refine tn ?_
 refine cond_p (p := ((rowMay r) ≠ (0 : Int))) (D3.dn 1 rfl rfl) (fun c1 => ?_) (fun c1 => ?_)
 ·
  refine wp_seq ?_
  refine gI a3 s3 ok3 (gM (D3.kt q5 rfl) (gC (Ty.int (0 : Int)) (gC (Ty.bool false) (gB 0 (gE ok3 fun a4 s4 ok4 D4 => ?_))))); refine tn (wp_ret (tr ?_))
  exact ret3 rfl ok4 (F3.step0 D4.stp) (cvi (by (rw [if_neg c1]; rfl)) (D4.dn 1 rfl rfl)) (cvb (by (rw [if_neg c1])) (D4.dn 2 rfl rfl)) (D4.dn 3 rfl rfl)
 ·
  have h0 := Classical.not_not.1 c1; have hr := rowMay_ok.1 h0; have ecl : (if rowMay r = 0 then cyclesL r else []) = cyclesL r := if_pos h0; have ecn := congrArg List.length ecl; have hcb : (cyclesL r).length ≤ r.length := cyclesTo_len r r.length; have hln := hr.le
  refine wp_skip (tn (wp_seq ?_))
  refine gI a3 s3 ok3 (gC (Ty.int (1 : Int)) (gE ok3 fun a5 s5 ok5 D5 => ?_)); refine tn (wp_seq (wp_seq ?_))
  refine gI a5 s5 ok5 (gM (D5.kt (D3.kt (D2.dn 5 rfl rfl) rfl) rfl) (gS rfl (fun A B E G H d0 => rP (y_len Try.underlying24 (ed d0 rfl rfl rfl))) (gT (Ty.int (0 : Int)) rfl (fun A B E G H => rP (y_move rfl)) (gE ok5 fun a6 s6 ok6 D6 => ?_)))); refine tn (wp_block ?_)
  refine loop (fun n1 a7 w1 => ∃ (t1 : GW) (k : Nat), t1.w = w1 ∧ From s0 t1 ∧ Ok 40 [] a7 ∧ At (Ty.nat k) t1 a7 (.tmp 18) ∧ At (Ty.nat (ordTo (cyclesL r) k)) t1 a7 (.tmp 2) ∧ At (Ty.bool (oddTo (cyclesL r) k)) t1 a7 (.tmp 3) ∧ At (Ty.lst Ty.ints (if rowMay r = 0 then cyclesL r else [])) t1 a7 (.tmp 16) ∧ At (Ty.nat (List.length (if rowMay r = 0 then cyclesL r else []))) t1 a7 (.tmp 17) ∧ (k ≤ (cyclesL r).length) ∧ n1 = (cyclesL r).length - k) ((cyclesL r).length - (0)) ?_ ?_
  ·
   exact ⟨s6, 0, rfl, ((F3.step0 D5.stp).step0 D6.stp), ok6, (cvi (by (first | rfl | omega | (simp_all; done) | (simp_all; omega))) (D6.dn 2 rfl rfl)), (cvi (by (first | rfl | omega | (simp_all; done) | (simp_all; omega))) (D6.kt (D5.dn 0 rfl rfl) rfl)), (cvb (by (first | rfl | omega | (simp_all; done) | (simp_all; omega))) (D6.kt (D5.kt (D3.kt (D2.kt (D1.dn 1 rfl rfl) rfl) rfl) rfl) rfl)), (D6.dn 0 rfl rfl), (D6.dn 1 rfl rfl), by omega, rfl⟩
  ·
   rintro n2 a8 w2 ⟨t2, k, rfl, F7, ok7, q21, q22, q23, q24, q25, hk, rfl⟩
   refine wp_seq ?_
   refine gI a8 t2 ok7 (gS rfl (fun A B E G H => rP (y_lss (kp (H 18 rfl) E q21) (kp (H 17 rfl) E q25))) (gE ok7 fun a9 s7 ok8 D7 => ?_)); have F8 := F7.step0 D7.stp; have q26 := D7.kt q21 rfl; have q27 := D7.kt q22 rfl; have q28 := D7.kt q23 rfl; have q29 := D7.kt q24 rfl; refine tn (wp_seq ?_)
   refine cond_p (p := (((k : Nat) : Int) < (((List.length (if rowMay r = 0 then cyclesL r else [])) : Nat) : Int))) (D7.dn 0 rfl rfl) (fun c2 => ?_) (fun c2 => ?_)
   ·
    obtain ⟨hf1, hf2, hf3, hf4, hf5, hf6, hf7, hf8, hf9⟩ := ord_facts h0 (k := k) (by omega)
    refine wp_skip (tn (wp_seq (wp_block (wp_seq ?_))))
    refine gI a9 s7 ok8 (gT (Ty.ref [(Ty.lst Ty.int ((if rowMay r = 0 then cyclesL r else []).getD k []))]) rfl (fun A B E G H => rP (y_index1 Try.underlying24 Try.inf22 (kp (H 16 rfl) E q29) (kp (H 18 rfl) E q26) (by omega) (lst_get Ty.ints (if rowMay r = 0 then cyclesL r else []) [] k (by omega)))) (gS rfl (fun A B E G H d0 => rP (y_load Try.underlying22 rfl (ed d0 rfl rfl rfl) rfl)) (gB 0 (gE ok8 fun a10 s8 ok9 D8 => ?_)))); have q33 := D8.kt q27 rfl; have q37 := D8.dn 2 rfl rfl; refine tn (wp_seq ?_)
    refine gI a10 s8 ok9 (gM q33 (gM q37 (gS rfl (fun A B E G H d0 => rP (y_len Try.underlying22 (ed d0 rfl rfl rfl))) (gM q33 (gM q37 (gS rfl (fun A B E G H d0 => rP (y_len Try.underlying22 (ed d0 rfl rfl rfl))) (gS rfl (fun A B E G H d0 d1 => rP (y_call _ Try.func90 rfl rfl my2 (common_fn ((ordTo (cyclesL r) k)) ((List.length ((if rowMay r = 0 then cyclesL r else []).getD k []))) _ _ _ (ed d0 rfl rfl rfl) (ed d1 rfl rfl rfl) (by omega) (by omega)))) (gT (Ty.nat ((List.length ((if rowMay r = 0 then cyclesL r else []).getD k [])) / (Nat.gcd ((ordTo (cyclesL r) k)) ((List.length ((if rowMay r = 0 then cyclesL r else []).getD k [])))))) rfl (fun A B E G H d0 d1 => rP (y_quoN (ed d0 rfl rfl rfl) (ed d1 rfl rfl rfl) (by omega) (by omega))) (gT (Ty.int ((((ordTo (cyclesL r) k) : Nat) : Int) * ((((List.length ((if rowMay r = 0 then cyclesL r else []).getD k [])) / (Nat.gcd ((ordTo (cyclesL r) k)) ((List.length ((if rowMay r = 0 then cyclesL r else []).getD k []))))) : Nat) : Int))) rfl (fun A B E G H d0 d1 => rP (y_mul (ed d0 rfl rfl rfl) (ed d1 rfl rfl rfl) (w64 (by omega) (by omega)))) (gB 0 (gE ok9 fun a11 s9 ok10 D9 => ?_))))))))))); refine tn ?_
    refine gI a11 s9 ok10 (gM (D9.kt (D8.kt q28 rfl) rfl) (gM (D9.kt q37 rfl) (gS rfl (fun A B E G H d0 => rP (y_len Try.underlying22 (ed d0 rfl rfl rfl))) (gT (Ty.nat ((List.length ((if rowMay r = 0 then cyclesL r else []).getD k [])) % 2)) rfl (fun A B E G H d0 => rP (y_remN (ed d0 rfl rfl rfl) (toN (σ := B) rfl (by omega)) (by omega))) (gS rfl (fun A B E G H d0 => rP (y_eql (ed d0 rfl rfl rfl) rfl)) (gT (Ty.bool ((oddTo (cyclesL r) k) != (decide (((((List.length ((if rowMay r = 0 then cyclesL r else []).getD k [])) % 2) : Nat) : Int) = (0 : Int))))) rfl (fun A B E G H d0 d1 => rP (y_neqB Try.underlying4 (ed d0 rfl rfl rfl) (ed d1 rfl rfl rfl))) (gB 0 (gE ok10 fun a12 s10 ok11 D10 => ?_)))))))); refine bn (tn ?_)
    refine gI a12 s10 ok11 (gT (Ty.int (((k : Nat) : Int) + (1 : Int))) rfl (fun A B E G H => rP (y_add (kp (H 18 rfl) E (D10.kt (D9.kt (D8.kt q26 rfl) rfl) rfl)) rfl (w64 (by omega) (by omega)))) (gS rfl (fun A B E G H d0 => rP (y_move (ed d0 rfl rfl rfl))) (gE ok11 fun a13 s11 ok12 D11 => ?_)))
    exact tn ⟨(cyclesL r).length - ((k+1)), by omega, s11, (k+1), rfl, ((((F8.step0 D8.stp).step0 D9.stp).step0 D10.stp).step0 D11.stp), ok12, (cvi (by (first | rfl | omega | (simp_all; done) | (simp_all; omega))) (D11.dn 1 rfl rfl)), (cvi (by (rw [hf7, Int.natCast_mul])) (D11.kt (D10.kt (D9.dn 9 rfl rfl) rfl) rfl)), (cvb (by (rw [oddTo_succ _ k (by omega), ecl])) (D11.kt (D10.dn 6 rfl rfl) rfl)), (D11.kt (D10.kt (D9.kt (D8.kt q29 rfl) rfl) rfl) rfl), (D11.kt (D10.kt (D9.kt (D8.kt (D7.kt q25 rfl) rfl) rfl) rfl) rfl), by omega, rfl⟩
   ·
    refine wp_exit (tx (tx (bx (tn (wp_seq ?_)))))
    refine gI a9 s7 ok8 (gM q27 (gM q28 (gB 0 (gB 0 (gC (Ty.int (0 : Int)) (gE ok8 fun a14 s12 ok13 D12 => ?_)))))); refine tn (wp_ret ?_)
    exact ret3 rfl ok13 (F8.step0 D12.stp) (cvi (by (rw [if_pos h0]; obtain rfl : k = (cyclesL r).length := (by omega); rfl)) (D12.dn 2 rfl rfl)) (cvb (by (rw [if_pos h0]; obtain rfl : k = (cyclesL r).length := (by omega); rfl)) (D12.dn 3 rfl rfl)) (cvi (by (exact h0.symm)) (D12.dn 4 rfl rfl))


end Go.Proofs.Ytkjifbgofckfeaa
