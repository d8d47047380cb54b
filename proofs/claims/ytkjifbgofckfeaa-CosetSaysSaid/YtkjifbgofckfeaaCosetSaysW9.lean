/- The functions that the law CosetSays reaches, each by its contract. Part 9. -/
import Derived.Test.YtkjifbgofckfeaaCosetSaysW8
namespace Go.Proofs.Ytkjifbgofckfeaa
open Go.KL

set_option maxHeartbeats 4000000 in
set_option maxRecDepth 100000 in
theorem cSaysB_fn (n : Nat) (G : List (List Int)) (S : List (List Int)) (r : List Int) (σ : GW)  (v0 v1 v2 v3 : Value) (hv0 : Ty.has (Ty.nat n) σ v0) (hv1 : Ty.has (Ty.lst Ty.ints G) σ v1) (hv2 : Ty.has (Ty.lst Ty.ints S) σ v2) (hv3 : Ty.has (Ty.lst Ty.int r) σ v3)  (hG0 : gensMay (n : Int) G = 0) (hbad : mkC (n : Int) G S ≠ 0) :
    FnC Try.prog 6 #[v0, v1, v2, v3] σ (Ty.bool true) := by
 obtain ⟨hn, hGl, hG⟩ := may_nat hG0
 have hsb := fun S_ => szTo_bd (n := n) (S := S_) (k := n) hn.2
 have hsG := hsb (fun y => y ∈ G)
 have hsS := hsb (fun y => y ∈ S)
 have hpS : 0 < szTo n (fun y => y ∈ S) n := szTo_pos hn n (Nat.le_refl _)
 have hdv : szTo n (fun y => y ∈ G) n / szTo n (fun y => y ∈ S) n ≤ szTo n (fun y => y ∈ G) n := Nat.div_le_self _ _
 refine fn_intro0 Try.func6 rfl Try.ntmps6 (Nat.le_of_ble_eq_true rfl) (fun s0 a0 hle F0 ok0 hargs => ?_)
 have p0 := pA hle (hargs 0 _ rfl) hv0
 have p1 := pA hle (hargs 1 _ rfl) hv1
 have b1 := sl_le p1
 have p2 := pA hle (hargs 2 _ rfl) hv2
 have b2 := sl_le p2
 have p3 := pA hle (hargs 3 _ rfl) hv3
 have b3 := sl_le p3
 clear hargs; refine wp_seq ?_
 refine gI a0 s0 ok0 (gC (Ty.bool false) (gE ok0 fun a1 s1 ok1 D1 => ?_)); have q1 := D1.kt p0 rfl; have q2 := D1.kt p1 rfl; have q3 := D1.kt p2 rfl; refine tn (wp_seq ?_)
 refine gI a1 s1 ok1 (gM q1 (gM q2 (gM q3 (gS rfl (fun A B E H I d0 d1 d2 => rP (y_call _ Try.func33 rfl rfl my3 (cMakN_fn (n) (G) (S) _ _ _ _ (ed d0 rfl rfl rfl) (ed d1 rfl rfl rfl) (ed d2 rfl rfl rfl) (by omega) (by omega)))) (gS rfl (fun A B E H I d0 => rP (y_move (ed d0 rfl rfl rfl))) (gT (Ty.val (Value.pointer none)) rfl (fun A B E H I d0 => rP (y_ext2_0 (ed d0 rfl rfl rfl))) (gT (Ty.int (mkC (n : Int) G S)) rfl (fun A B E H I d0 d1 => rP (y_ext2_1 (ed d0 rfl rfl rfl))) (gB 0 (gB 0 (gE ok1 fun a2 s2 ok2 D2 => ?_)))))))))); have q5 := D2.kt q1 rfl; have q6 := D2.kt q2 rfl; refine tn (wp_seq ?_)
 refine gI a2 s2 ok2 (gM q5 (gM q6 (gS rfl (fun A B E H I d0 d1 => rP (y_call _ Try.func24 rfl rfl my2 (rGensMay_fn (((n : Nat) : Int)) (G) _ _ _ (cvi (σ := B) (by omega) (ed d0 rfl rfl rfl)) (ed d1 rfl rfl rfl) ))) (gB 0 (gE ok2 fun a3 s3 ok3 D3 => ?_))))); refine tn (wp_seq (wp_seq ?_))
 refine gI a3 s3 ok3 (gM (D3.dn 3 rfl rfl) (gS rfl (fun A B E H I d0 => rP (y_eql (ed d0 rfl rfl rfl) rfl)) (gE ok3 fun a4 s4 ok4 D4 => ?_))); have q18 := D4.kt (D3.kt q5 rfl) rfl; have q20 := D4.kt (D3.kt (D2.kt q3 rfl) rfl) rfl; refine tn ?_
 refine cond_p (p := ((gensMay (((n : Nat) : Int)) (G)) = (0 : Int))) (D4.dn 1 rfl rfl) (fun c1 => ?_) (fun c1 => ?_)
 ·
  refine gI a4 s4 ok4 (gM q18 (gM q20 (gS rfl (fun A B E H I d0 d1 => rP (y_call _ Try.func24 rfl rfl my2 (rGensMay_fn (((n : Nat) : Int)) (S) _ _ _ (cvi (σ := B) (by omega) (ed d0 rfl rfl rfl)) (ed d1 rfl rfl rfl) ))) (gB 0 (gE ok4 fun a5 s5 ok5 D5 => ?_))))); refine tn (wp_seq ?_)
  refine gI a5 s5 ok5 (gC (Ty.int (0 : Int)) (gE ok5 fun a6 s6 ok6 D6 => ?_)); refine tn (wp_seq ?_)
  refine gI a6 s6 ok6 (gC (Ty.int (0 : Int)) (gE ok6 fun a7 s7 ok7 D7 => ?_)); have q47 := D7.kt (D6.kt (D5.dn 3 rfl rfl) rfl) rfl; refine tn (wp_seq (wp_seq ?_))
  refine gI a7 s7 ok7 (gM q47 (gS rfl (fun A B E H I d0 => rP (y_eql (ed d0 rfl rfl rfl) rfl)) (gE ok7 fun a8 s8 ok8 D8 => ?_))); have F8 := (((((((F0.step0 D1.stp).step0 D2.stp).step0 D3.stp).step0 D4.stp).step0 D5.stp).step0 D6.stp).step0 D7.stp).step0 D8.stp; have q50 := D8.kt (D7.kt (D6.kt (D5.kt q18 rfl) rfl) rfl) rfl; have q51 := D8.kt (D7.kt (D6.kt (D5.kt (D4.kt (D3.kt q6 rfl) rfl) rfl) rfl) rfl) rfl; have q54 := D8.kt (D7.kt (D6.kt (D5.kt (D4.kt (D3.kt (D2.dn 7 rfl rfl) rfl) rfl) rfl) rfl) rfl) rfl; have q55 := D8.kt (D7.kt (D6.kt (D5.kt (D4.kt (D3.kt (D2.dn 8 rfl rfl) rfl) rfl) rfl) rfl) rfl) rfl; have q56 := D8.kt q47 rfl; refine tn ?_
  refine cond_p (p := ((gensMay (((n : Nat) : Int)) (S)) = (0 : Int))) (D8.dn 1 rfl rfl) (fun c2 => ?_) (fun c2 => ?_)
  ·
   obtain ⟨_, hSl, hS⟩ := may_nat c2; have hGS : ∀ x ∈ G ++ S, RowN n x := (fun x hx => (List.mem_append.1 hx).elim (hG x) (hS x)); have hGSl : (G ++ S).length ≤ 1000 := (by rw [List.length_append]; omega); have hsA := hsb (fun y => y ∈ G ++ S)
   refine wp_seq ?_
   refine gI a8 s8 ok8 (gM q50 (gM q51 (gS rfl (fun A B E H I d0 d1 => rP (y_call _ Try.func20 rfl rfl my2 (rSizes_fn (n) (G) _ _ _ (ed d0 rfl rfl rfl) (ed d1 rfl rfl rfl) (by first | omega | assumption | exact hst1) (by first | omega | assumption | exact hst1) (by first | omega | assumption | exact hst1)))) (gB 0 (gE ok8 fun a9 s9 ok9 D9 => ?_))))); have q60 := D9.kt q50 rfl; have q62 := D9.kt (D8.kt (D7.kt (D6.kt (D5.kt q20 rfl) rfl) rfl) rfl) rfl; refine tn (wp_seq ?_)
   refine gI a9 s9 ok9 (gM q60 (gM q62 (gS rfl (fun A B E H I d0 d1 => rP (y_call _ Try.func20 rfl rfl my2 (rSizes_fn (n) (S) _ _ _ (ed d0 rfl rfl rfl) (ed d1 rfl rfl rfl) (by first | omega | assumption | exact hst1) (by first | omega | assumption | exact hst1) (by first | omega | assumption | exact hst1)))) (gB 0 (gE ok9 fun a10 s10 ok10 D10 => ?_))))); have q68 := D10.kt q60 rfl; have q69 := D10.kt (D9.kt q51 rfl) rfl; refine tn (wp_seq ?_)
   refine gI a10 s10 ok10 (gM q68 (gR (Pr.own 20 22 1 0 (List.map Ty.ints ([] : List (List Int)))) rfl (by intro A B E H I; exact rP ((y_lit0 (k := 20) Try.underlying24 Try.inf22).mono (fun _ _ h => cvo (by simp) (by simp) h))) (gM q69 (gE2 ok10 fun a11 s11 ok11 D11 => ?_))))
   obtain ⟨x1, hx1⟩ : ∃ x, a11.eval (.tmp 51) = x := ⟨_, rfl⟩
   have q87 : At (Ty.val x1) s11 a11 (.tmp 51) := hx1
   have o1 := al2 (R := (Pr.own 20 22 1 0 (List.map Ty.ints ([] : List (List Int))))) hx1 (D11.done 1 (by decide))
   refine tL ok11 (YldM.toL (m_append Try.underlying24 Try.inf22 (by decide) rfl (by decide) (al (R := (Pr.own 20 22 1 0 (List.map Ty.ints ([] : List (List Int))))) q87 o1) (D11.dn 2 (by decide) rfl rfl) (one_map (fun _ => one_sl)) (by omega) (by omega))) fun a12 s12 hs1 ok12 r1 sm1 => ?_
   have F12 := (((F8.step0 D9.stp).step0 D10.stp).step0 D11.stp).sl hs1; have q89 := kq hs1 sm1 0 (D11.kt q68 rfl); have q90 := kq hs1 sm1 1 (D11.kt q69 rfl); have q91 := kq hs1 sm1 2 (D11.kt (D10.kt q62 rfl) rfl); have q92 := kq hs1 sm1 3 (D11.kt (D10.kt (D9.kt (D8.kt (D7.kt (D6.kt (D5.kt (D4.kt (D3.kt (D2.kt (D1.kt p3 rfl) rfl) rfl) rfl) rfl) rfl) rfl) rfl) rfl) rfl) rfl); have q93 := kq hs1 sm1 9 (D11.kt (D10.kt (D9.kt q54 rfl) rfl) rfl); have q94 := kq hs1 sm1 10 (D11.kt (D10.kt (D9.kt q55 rfl) rfl) rfl); have q95 := kq hs1 sm1 11 (D11.kt (D10.kt (D9.kt q56 rfl) rfl) rfl); have q96 := kq hs1 sm1 12 (D11.kt (D10.kt (D9.dn 3 rfl rfl) rfl) rfl); have q97 := kq hs1 sm1 13 (D11.kt (D10.dn 3 rfl rfl) rfl); have q98 := kq hs1 sm1 50 (D11.dn 0 (by decide) rfl rfl)
   obtain ⟨x2, hx2⟩ : ∃ x, a12.eval (.tmp 53) = x := ⟨_, rfl⟩
   have q99 : At (Ty.val x2) s12 a12 (.tmp 53) := hx2
   have o2 := al2 (R := (Pr.own 20 22 1 (List.length G) (List.map Ty.ints G))) hx2 (cvo (by first | (simp; done) | (simp; omega)) (by first | (rw [List.map_append]; rfl) | simp) r1)
   clear r1
   refine tL ok12 (Yld.toL (y_mv q91)) fun a13 s13 hs2 ok13 r2 sm2 => ?_
   have F13 := F12.sl hs2; have q100 := kq hs2 sm2 0 q89; have q101 := kq hs2 sm2 1 q90; have q102 := kq hs2 sm2 2 q91; have q103 := kq hs2 sm2 3 q92; have q104 := kq hs2 sm2 9 q93; have q105 := kq hs2 sm2 10 q94; have q106 := kq hs2 sm2 11 q95; have q107 := kq hs2 sm2 12 q96; have q108 := kq hs2 sm2 13 q97; have q109 := kq hs2 sm2 50 q98; have q110 := kq hs2 sm2 53 q99; have o3 := Own.kl o2 hs2
   have q111 : At (Ty.lst Ty.ints S) s13 a13 (.tmp 54) := r2
   clear r2
   refine tL ok13 (YldM.toL (m_append Try.underlying24 Try.inf22 (by decide) rfl (by decide) (al (R := (Pr.own 20 22 1 (List.length G) (List.map Ty.ints G))) q110 o3) q111 (one_map (fun _ => one_sl)) (by omega) (by omega))) fun a14 s14 hs3 ok14 r3 sm3 => ?_
   have F14 := F13.sl hs3; have q112 := kq hs3 sm3 0 q100; have q113 := kq hs3 sm3 1 q101; have q114 := kq hs3 sm3 2 q102; have q115 := kq hs3 sm3 3 q103; have q116 := kq hs3 sm3 9 q104; have q117 := kq hs3 sm3 10 q105; have q118 := kq hs3 sm3 11 q106; have q119 := kq hs3 sm3 12 q107; have q120 := kq hs3 sm3 13 q108; have q121 := kq hs3 sm3 50 q109
   obtain ⟨x3, hx3⟩ : ∃ x, a14.eval (.tmp 55) = x := ⟨_, rfl⟩
   have q122 : At (Ty.val x3) s14 a14 (.tmp 55) := hx3
   have o4 := al2 (R := (Pr.own 20 22 1 (List.length (G ++ S)) (List.map Ty.ints (G ++ S)))) hx3 (cvo (by simp) (by first | (rw [List.map_append]; rfl) | simp) r3)
   clear r3
   obtain ⟨t1, e1, h1, q123⟩ := Own.seal o4 (by decide)
   rw [← e1]
   have F15 := F14.step h1 (by decide); have q124 := Ty.up (Ty.nat n) (h1.le (by decide)) q112; have q125 := Ty.up (Ty.lst Ty.ints G) (h1.le (by decide)) q113; have q126 := Ty.up (Ty.lst Ty.ints S) (h1.le (by decide)) q114; have q127 := Ty.up (Ty.lst Ty.int r) (h1.le (by decide)) q115; have q128 := Ty.up (Ty.val (Value.pointer none)) (h1.le (by decide)) q116; have q129 := Ty.up (Ty.int (mkC (n : Int) G S)) (h1.le (by decide)) q117; have q130 := Ty.up (Ty.int (gensMay (((n : Nat) : Int)) (S))) (h1.le (by decide)) q118; have q131 := Ty.up (Ty.nat (szTo n (fun y => y ∈ (G)) n)) (h1.le (by decide)) q119; have q132 := Ty.up (Ty.nat (szTo n (fun y => y ∈ (S)) n)) (h1.le (by decide)) q120; have q133 := Ty.up (Ty.nat n) (h1.le (by decide)) q121
   have q134 : At (Ty.lst Ty.ints (G ++ S)) t1 a14 (.tmp 55) := by have e : a14.eval (.tmp 55) = x3 := q122; show Ty.has _ _ _; rw [e]; exact q123
   refine tL (R := (fun v τ => Pr.has (Ty.pr (Ty.nat (szTo n (fun y => y ∈ ((G ++ S))) n))) τ v)) ok14 (Yld.toL (y_call _ Try.func20 rfl rfl my2 (rSizes_fn (n) ((G ++ S)) _ _ _ q133 q134 (by first | omega | assumption | exact hst1) (by first | omega | assumption | exact hst1) (by first | omega | assumption | exact hst1)))) fun a15 s15 hs4 ok15 r4 sm4 => ?_
   have F16 := F15.sl hs4; have q135 := kq hs4 sm4 0 q124; have q136 := kq hs4 sm4 1 q125; have q137 := kq hs4 sm4 2 q126; have q138 := kq hs4 sm4 3 q127; have q139 := kq hs4 sm4 9 q128; have q140 := kq hs4 sm4 10 q129; have q141 := kq hs4 sm4 11 q130; have q142 := kq hs4 sm4 12 q131; have q143 := kq hs4 sm4 13 q132
   have q144 : At (Ty.nat (szTo n (fun y => y ∈ ((G ++ S))) n)) s15 a15 (.tmp 56) := r4
   clear r4
   refine tL ok15 (Yld.toL (y_mv q142)) fun a16 s16 hs5 ok16 r5 sm5 => ?_
   have F17 := F16.sl hs5; have q145 := kq hs5 sm5 0 q135; have q146 := kq hs5 sm5 1 q136; have q147 := kq hs5 sm5 2 q137; have q148 := kq hs5 sm5 3 q138; have q149 := kq hs5 sm5 9 q139; have q150 := kq hs5 sm5 10 q140; have q151 := kq hs5 sm5 11 q141; have q152 := kq hs5 sm5 12 q142; have q153 := kq hs5 sm5 13 q143; have q154 := kq hs5 sm5 56 q144
   have q155 : At (Ty.nat (szTo n (fun y => y ∈ (G)) n)) s16 a16 (.tmp 57) := r5
   clear r5
   refine tL (R := (fun v τ => Pr.has (Ty.pr (Ty.bool (decide ((((szTo n (fun y => y ∈ ((G ++ S))) n) : Nat) : Int) ≠ (((szTo n (fun y => y ∈ (G)) n) : Nat) : Int))))) τ v)) ok16 (Yld.toL (y_neq q154 q155)) fun a17 s17 hs6 ok17 r6 sm6 => ?_
   have F18 := F17.sl hs6; have q156 := kq hs6 sm6 0 q145; have q157 := kq hs6 sm6 1 q146; have q158 := kq hs6 sm6 2 q147; have q159 := kq hs6 sm6 3 q148; have q160 := kq hs6 sm6 9 q149; have q161 := kq hs6 sm6 10 q150; have q162 := kq hs6 sm6 11 q151; have q163 := kq hs6 sm6 12 q152; have q164 := kq hs6 sm6 13 q153
   have q165 : At (Ty.bool (decide ((((szTo n (fun y => y ∈ ((G ++ S))) n) : Nat) : Int) ≠ (((szTo n (fun y => y ∈ (G)) n) : Nat) : Int)))) s17 a17 (.tmp 58) := r6
   clear r6; refine wpList_nil (tn ?_)
   refine cond_p (p := ((((szTo n (fun y => y ∈ ((G ++ S))) n) : Nat) : Int) ≠ (((szTo n (fun y => y ∈ (G)) n) : Nat) : Int))) q165 (fun c3 => ?_) (fun c3 => ?_)
   ·
    have hmk := mkC_3 hG0 c2 (sz_bad hn hG hS (by omega))
    refine gI a17 s17 ok17 (gC (Ty.int (14 : Int)) (gE ok17 fun a18 s18 ok18 D12 => ?_)); have q174 := D12.dn 0 rfl rfl; refine tn (wp_seq (wp_seq ?_))
    refine gI a18 s18 ok18 (gM q174 (gT (Ty.bool true) rfl (fun A B E H I d0 => rP ((y_neq (ed d0 rfl rfl rfl) rfl).mono (fun τ _ h => cvb (σ := τ) (by decide) h))) (gE ok18 fun a19 s19 ok19 D13 => ?_))); refine tn ?_
    refine cond_t (D13.dn 1 rfl rfl) (fun _ => ?_) (fun c4 => (by cases c4))
    refine wp_seq ?_
    refine gI a19 s19 ok19 (gM (D13.kt (D12.kt q161 rfl) rfl) (gM (D13.kt q174 rfl) (gS rfl (fun A B E H I d0 d1 => rP (y_eql (ed d0 rfl rfl rfl) (ed d1 rfl rfl rfl))) (gS rfl (fun A B E H I d0 => rP (y_move (ed d0 rfl rfl rfl))) (gS rfl (fun A B E H I d0 => gu H (ed d0 rfl rfl rfl) fun hg => y_move (kp (I 9 rfl) E (D13.kt (D12.kt q160 rfl) rfl))) (gT (Ty.grd ((decide ((mkC (n : Int) G S) = (14 : Int))) = true) (Ty.bool true)) rfl (fun A B E H I d0 d1 => gu H (ed d1 rfl rfl rfl) fun hg => y_nilnil Try.underlying53 ((ed d0 rfl rfl rfl).1 hg) rfl) (gS rfl (fun A B E H I d0 d1 => rP (y_pick_and (ed d0 rfl rfl rfl) (ed d1 rfl rfl rfl) rfl)) (gB 0 (gE ok19 fun a20 s20 ok20 D14 => ?_))))))))); refine tn (wp_ret (tr ?_))
    exact retL1 rfl ok20 (((F18.step0 D12.stp).step0 D13.stp).step0 D14.stp) (cvb (by (rw [hmk]; rfl)) (D14.dn 7 rfl rfl))
   ·
    have hall := (sz_app hn hG hS).1 (by omega); have hmk4 := mkC_4 hG0 c2 hall
    refine wp_seq ?_
    refine gI a17 s17 ok17 (gM q164 (gS rfl (fun A B E H I d0 => rP (y_gtr (ed d0 rfl rfl rfl) rfl)) (gS rfl (fun A B E H I d0 => rP (y_move (ed d0 rfl rfl rfl))) (gS rfl (fun A B E H I d0 => gu H (ed d0 rfl rfl rfl) fun hg => y_move (kp (I 12 rfl) E q163)) (gS rfl (fun A B E H I d0 => gu H (ed d0 rfl rfl rfl) fun hg => y_move (kp (I 13 rfl) E q164)) (gT (Ty.grd ((decide ((1000 : Int) < (((szTo n (fun y => y ∈ (S)) n) : Nat) : Int))) = false) (Ty.nat ((szTo n (fun y => y ∈ (G)) n) / (szTo n (fun y => y ∈ (S)) n)))) rfl (fun A B E H I d0 d1 d2 => guf H (ed d2 rfl rfl rfl) fun hg hp => y_quoN ((ed d0 rfl rfl rfl).1 hg) ((ed d1 rfl rfl rfl).1 hg) (by omega) (by omega)) (gS rfl (fun A B E H I d0 d1 => gu H (ed d1 rfl rfl rfl) fun hg => y_gtr ((ed d0 rfl rfl rfl).1 hg) rfl) (gS rfl (fun A B E H I d0 d1 => rP (y_pick_or (ed d0 rfl rfl rfl) rfl (ed d1 rfl rfl rfl))) (gE ok17 fun a21 s21 ok21 D15 => ?_))))))))); refine tn ?_
    refine cond_t (D15.dn 7 rfl rfl) (fun c5 => ?_) (fun c5 => ?_)
    ·
     simp only [Bool.or_eq_true, decide_eq_true_eq] at c5; have hmk : mkC (n : Int) G S = 3 := (by rw [hmk4, if_pos (by omega)])
     refine gI a21 s21 ok21 (gC (Ty.int (3 : Int)) (gE ok21 fun a22 s22 ok22 D16 => ?_)); have q204 := D16.dn 0 rfl rfl; refine tn (wp_seq (wp_seq ?_))
     refine gI a22 s22 ok22 (gM q204 (gT (Ty.bool true) rfl (fun A B E H I d0 => rP ((y_neq (ed d0 rfl rfl rfl) rfl).mono (fun τ _ h => cvb (σ := τ) (by decide) h))) (gE ok22 fun a23 s23 ok23 D17 => ?_))); refine tn ?_
     refine cond_t (D17.dn 1 rfl rfl) (fun _ => ?_) (fun c6 => (by cases c6))
     refine wp_seq ?_
     refine gI a23 s23 ok23 (gM (D17.kt (D16.kt (D15.kt q161 rfl) rfl) rfl) (gM (D17.kt q204 rfl) (gS rfl (fun A B E H I d0 d1 => rP (y_eql (ed d0 rfl rfl rfl) (ed d1 rfl rfl rfl))) (gS rfl (fun A B E H I d0 => rP (y_move (ed d0 rfl rfl rfl))) (gS rfl (fun A B E H I d0 => gu H (ed d0 rfl rfl rfl) fun hg => y_move (kp (I 9 rfl) E (D17.kt (D16.kt (D15.kt q160 rfl) rfl) rfl))) (gT (Ty.grd ((decide ((mkC (n : Int) G S) = (3 : Int))) = true) (Ty.bool true)) rfl (fun A B E H I d0 d1 => gu H (ed d1 rfl rfl rfl) fun hg => y_nilnil Try.underlying53 ((ed d0 rfl rfl rfl).1 hg) rfl) (gS rfl (fun A B E H I d0 d1 => rP (y_pick_and (ed d0 rfl rfl rfl) (ed d1 rfl rfl rfl) rfl)) (gB 0 (gE ok23 fun a24 s24 ok24 D18 => ?_))))))))); refine tn (wp_ret (tr ?_))
     exact retL1 rfl ok24 ((((F18.step0 D15.stp).step0 D16.stp).step0 D17.stp).step0 D18.stp) (cvb (by (rw [hmk]; rfl)) (D18.dn 7 rfl rfl))
    ·
     exfalso
     (simp only [Bool.or_eq_false_iff, decide_eq_false_iff_not] at c5; exact hbad (by rw [hmk4, if_neg (by omega)]))
  ·
   have hmk : mkC (n : Int) G S = gensMay (n : Int) S := mkC_2 hG0 c2
   refine wp_skip (tn (wp_seq (wp_seq ?_)))
   refine gI a8 s8 ok8 (gM q56 (gS rfl (fun A B E H I d0 => rP (y_neq (ed d0 rfl rfl rfl) rfl)) (gE ok8 fun a25 s25 ok25 D19 => ?_))); refine tn ?_
   refine cond_p (p := ((gensMay (((n : Nat) : Int)) (S)) ≠ (0 : Int))) (D19.dn 1 rfl rfl) (fun c7 => ?_) (fun c7 => ?_)
   ·
    refine wp_seq ?_
    refine gI a25 s25 ok25 (gM (D19.kt q55 rfl) (gM (D19.kt q56 rfl) (gS rfl (fun A B E H I d0 d1 => rP (y_eql (ed d0 rfl rfl rfl) (ed d1 rfl rfl rfl))) (gS rfl (fun A B E H I d0 => rP (y_move (ed d0 rfl rfl rfl))) (gS rfl (fun A B E H I d0 => gu H (ed d0 rfl rfl rfl) fun hg => y_move (kp (I 9 rfl) E (D19.kt q54 rfl))) (gT (Ty.grd ((decide ((mkC (n : Int) G S) = (gensMay (((n : Nat) : Int)) (S)))) = true) (Ty.bool true)) rfl (fun A B E H I d0 d1 => gu H (ed d1 rfl rfl rfl) fun hg => y_nilnil Try.underlying53 ((ed d0 rfl rfl rfl).1 hg) rfl) (gS rfl (fun A B E H I d0 d1 => rP (y_pick_and (ed d0 rfl rfl rfl) (ed d1 rfl rfl rfl) rfl)) (gB 0 (gE ok25 fun a26 s26 ok26 D20 => ?_))))))))); refine tn (wp_ret (tr ?_))
    exact retL1 rfl ok26 ((F8.step0 D19.stp).step0 D20.stp) (cvb (by (rw [hmk]; simp)) (D20.dn 7 rfl rfl))
   ·
    exfalso
    exact c7 c2
 ·
  exfalso
  exact c1 hG0


end Go.Proofs.Ytkjifbgofckfeaa
