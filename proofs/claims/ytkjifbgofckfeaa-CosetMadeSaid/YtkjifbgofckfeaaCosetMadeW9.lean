/- The functions that the law CosetMade reaches, each by its contract. Part 9. -/
import Derived.Test.YtkjifbgofckfeaaCosetMadeW8
namespace Go.Proofs.Ytkjifbgofckfeaa
open Go.KL

set_option maxHeartbeats 4000000 in
set_option maxRecDepth 100000 in
theorem cSaysB_fn (n : Nat) (G : List (List Int)) (S : List (List Int)) (r : List Int) (σ : GW)  (v0 v1 v2 v3 : Value) (hv0 : Ty.has (Ty.nat n) σ v0) (hv1 : Ty.has (Ty.lst Ty.ints G) σ v1) (hv2 : Ty.has (Ty.lst Ty.ints S) σ v2) (hv3 : Ty.has (Ty.lst Ty.int r) σ v3)  (hG0 : gensMay (n : Int) G = 0) (hbad : mkC (n : Int) G S ≠ 0) :
    FnC Try.prog 6 #[v0, v1, v2, v3] σ (Ty.bool true) := by
 obtain ⟨hn, hGl, hG⟩ := may_nat hG0
 have hsb := fun S_ => szTo_bd (n := n) (S := S_) (k := n) hn.2
 have hsG := hsb (fun y => y ∈ G)
 have hsS := hsb (fun y => y ∈ S)
 have hpS : 0 < szTo n (fun y => y ∈ S) n := szTo_pos hn n (Nat.le_refl _)
 have hdv : szTo n (fun y => y ∈ G) n / szTo n (fun y => y ∈ S) n ≤ szTo n (fun y => y ∈ G) n := Nat.div_le_self _ _
 refine fn_intro0 Try.func6 rfl Try.ntmps6 (Nat.le_of_ble_eq_true rfl) (fun s0 a0 hle F0 ok0 hargs => ?_)
 have p0 := pA hle (hargs 0 _ rfl) hv0
 have p1 := pA hle (hargs 1 _ rfl) hv1
 have b1 := sl_le p1
 have p2 := pA hle (hargs 2 _ rfl) hv2
 have b2 := sl_le p2
 have p3 := pA hle (hargs 3 _ rfl) hv3
 have b3 := sl_le p3
 clear hargs; refine wp_seq ?_
 refine gI a0 s0 ok0 (gC (Ty.bool false) (gE ok0 fun a1 s1 ok1 D1 => ?_)); have q1 := D1.k p0; have q2 := D1.k p1; have q3 := D1.k p2; refine tn (wp_seq ?_)
 refine gI a1 s1 ok1 (gM q1 (gM q2 (gM q3 (gS rfl (fun A B E H I d0 d1 d2 => rP (y_call _ Try.func33 rfl rfl my3 (cMakN_fn (n) (G) (S) _ _ _ _ (ef d0 rfl) (ef d1 rfl) (ef d2 rfl) (by omega) (by omega)))) (gS rfl (fun A B E H I d0 => rP (y_move (ef d0 rfl))) (gT (Ty.val (Value.pointer none)) rfl (fun A B E H I d0 => rP (y_ext2_0 (ef d0 rfl))) (gT (Ty.int (mkC (n : Int) G S)) rfl (fun A B E H I d0 d1 => rP (y_ext2_1 (ef d0 rfl))) (gB 0 (gB 0 (gE ok1 fun a2 s2 ok2 D2 => ?_)))))))))); have q5 := D2.k q1; have q6 := D2.k q2; refine tn (wp_seq ?_)
 refine gI a2 s2 ok2 (gM q5 (gM q6 (gS rfl (fun A B E H I d0 d1 => rP (y_call _ Try.func24 rfl rfl my2 (rGensMay_fn (((n : Nat) : Int)) (G) _ _ _ (cvi (σ := B) (by omega) (ef d0 rfl)) (ef d1 rfl) ))) (gB 0 (gE ok2 fun a3 s3 ok3 D3 => ?_))))); refine tn (wp_seq (wp_seq ?_))
 refine gI a3 s3 ok3 (gM (D3.m 3 rfl) (gS rfl (fun A B E H I d0 => rP (y_eql (ef d0 rfl) rfl)) (gE ok3 fun a4 s4 ok4 D4 => ?_))); have q18 := D4.k (D3.k q5); have q20 := D4.k (D3.k (D2.k q3)); refine tn ?_
 refine cond_p (p := ((gensMay (((n : Nat) : Int)) (G)) = (0 : Int))) (D4.m 1 rfl) (fun c1 => ?_) (fun c1 => ?_)
 ·
  refine gI a4 s4 ok4 (gM q18 (gM q20 (gS rfl (fun A B E H I d0 d1 => rP (y_call _ Try.func24 rfl rfl my2 (rGensMay_fn (((n : Nat) : Int)) (S) _ _ _ (cvi (σ := B) (by omega) (ef d0 rfl)) (ef d1 rfl) ))) (gB 0 (gE ok4 fun a5 s5 ok5 D5 => ?_))))); refine tn (wp_seq ?_)
  refine gI a5 s5 ok5 (gC (Ty.int (0 : Int)) (gE ok5 fun a6 s6 ok6 D6 => ?_)); refine tn (wp_seq ?_)
  refine gI a6 s6 ok6 (gC (Ty.int (0 : Int)) (gE ok6 fun a7 s7 ok7 D7 => ?_)); have q47 := D7.k (D6.k (D5.m 3 rfl)); refine tn (wp_seq (wp_seq ?_))
  refine gI a7 s7 ok7 (gM q47 (gS rfl (fun A B E H I d0 => rP (y_eql (ef d0 rfl) rfl)) (gE ok7 fun a8 s8 ok8 D8 => ?_))); have F8 := (((((((F0.step0 D1.stp).step0 D2.stp).step0 D3.stp).step0 D4.stp).step0 D5.stp).step0 D6.stp).step0 D7.stp).step0 D8.stp; have q50 := D8.k (D7.k (D6.k (D5.k q18))); have q51 := D8.k (D7.k (D6.k (D5.k (D4.k (D3.k q6))))); have q54 := D8.k (D7.k (D6.k (D5.k (D4.k (D3.k (D2.m 7 rfl)))))); have q55 := D8.k (D7.k (D6.k (D5.k (D4.k (D3.k (D2.m 8 rfl)))))); have q56 := D8.k q47; refine tn ?_
  refine cond_p (p := ((gensMay (((n : Nat) : Int)) (S)) = (0 : Int))) (D8.m 1 rfl) (fun c2 => ?_) (fun c2 => ?_)
  ·
   obtain ⟨_, hSl, hS⟩ := may_nat c2; have hGS : ∀ x ∈ G ++ S, RowN n x := (fun x hx => (List.mem_append.1 hx).elim (hG x) (hS x)); have hGSl : (G ++ S).length ≤ 1000 := (by rw [List.length_append]; omega); have hsA := hsb (fun y => y ∈ G ++ S)
   refine wp_seq ?_
   refine gI a8 s8 ok8 (gM q50 (gM q51 (gS rfl (fun A B E H I d0 d1 => rP (y_call _ Try.func20 rfl rfl my2 (rSizes_fn (n) (G) _ _ _ (ef d0 rfl) (ef d1 rfl) (by first | omega | assumption | exact hst1) (by first | omega | assumption | exact hst1) (by first | omega | assumption | exact hst1)))) (gB 0 (gE ok8 fun a9 s9 ok9 D9 => ?_))))); have q60 := D9.k q50; have q62 := D9.k (D8.k (D7.k (D6.k (D5.k q20)))); refine tn (wp_seq ?_)
   refine gI a9 s9 ok9 (gM q60 (gM q62 (gS rfl (fun A B E H I d0 d1 => rP (y_call _ Try.func20 rfl rfl my2 (rSizes_fn (n) (S) _ _ _ (ef d0 rfl) (ef d1 rfl) (by first | omega | assumption | exact hst1) (by first | omega | assumption | exact hst1) (by first | omega | assumption | exact hst1)))) (gB 0 (gE ok9 fun a10 s10 ok10 D10 => ?_))))); have q68 := D10.k q60; have q69 := D10.k (D9.k q51); refine tn (wp_seq ?_)
   refine gI a10 s10 ok10 (gM q68 (gR (Pr.own 20 22 1 0 (List.map Ty.ints ([] : List (List Int)))) rfl (by intro A B E H I; exact rP ((y_lit0 (k := 20) Try.underlying24 Try.inf22).mono (fun _ _ h => cvo (by simp) (by simp) h))) (gM q69 (gE2 ok10 fun a11 s11 ok11 D11 => ?_))))
   obtain ⟨x1, hx1⟩ : ∃ x, a11.eval (.tmp 51) = x := ⟨_, rfl⟩
   have q87 : At (Ty.val x1) s11 a11 (.tmp 51) := hx1
   have o1 := al2 (R := (Pr.own 20 22 1 0 (List.map Ty.ints ([] : List (List Int))))) hx1 (D11.done 1 (by decide))
   refine tL ok11 (YldM.toL (m_append Try.underlying24 Try.inf22 (by decide) rfl (by decide) (al (R := (Pr.own 20 22 1 0 (List.map Ty.ints ([] : List (List Int))))) q87 o1) (D11.m 2 rfl) (one_map (fun _ => one_sl)) (by omega) (by omega))) fun a12 s12 hs1 ok12 r1 sm1 => ?_
   have F12 := (((F8.step0 D9.stp).step0 D10.stp).step0 D11.stp).sl hs1; have q91 := kq hs1 sm1 2 (D11.k (D10.k q62))
   obtain ⟨x2, hx2⟩ : ∃ x, a12.eval (.tmp 53) = x := ⟨_, rfl⟩
   have q99 : At (Ty.val x2) s12 a12 (.tmp 53) := hx2
   have o2 := al2 (R := (Pr.own 20 22 1 (List.length G) (List.map Ty.ints G))) hx2 (cvo (by first | (simp; done) | (simp; omega)) (by first | (rw [List.map_append]; rfl) | simp) r1)
   clear r1
   refine tL ok12 (Yld.toL (y_mv q91)) fun a13 s13 hs2 ok13 r2 sm2 => ?_
   have F13 := F12.sl hs2
   have q111 : At (Ty.lst Ty.ints S) s13 a13 (.tmp 54) := r2
   clear r2
   refine tL ok13 (YldM.toL (m_append Try.underlying24 Try.inf22 (by decide) rfl (by decide) (al (R := (Pr.own 20 22 1 (List.length G) (List.map Ty.ints G))) (kq hs2 sm2 53 q99) (Own.kl o2 hs2)) q111 (one_map (fun _ => one_sl)) (by omega) (by omega))) fun a14 s14 hs3 ok14 r3 sm3 => ?_
   have F14 := F13.sl hs3
   obtain ⟨x3, hx3⟩ : ∃ x, a14.eval (.tmp 55) = x := ⟨_, rfl⟩
   have q122 : At (Ty.val x3) s14 a14 (.tmp 55) := hx3
   have o4 := al2 (R := (Pr.own 20 22 1 (List.length (G ++ S)) (List.map Ty.ints (G ++ S)))) hx3 (cvo (by simp) (by first | (rw [List.map_append]; rfl) | simp) r3)
   clear r3
   obtain ⟨t1, e1, h1, q123⟩ := Own.seal o4 (by decide)
   rw [← e1]
   have F15 := F14.step h1 (by decide); have q124 := Ty.up (Ty.nat n) (h1.le (by decide)) (kq hs3 sm3 0 (kq hs2 sm2 0 (kq hs1 sm1 0 (D11.k q68)))); have q125 := Ty.up (Ty.lst Ty.ints G) (h1.le (by decide)) (kq hs3 sm3 1 (kq hs2 sm2 1 (kq hs1 sm1 1 (D11.k q69)))); have q126 := Ty.up (Ty.lst Ty.ints S) (h1.le (by decide)) (kq hs3 sm3 2 (kq hs2 sm2 2 q91)); have q127 := Ty.up (Ty.lst Ty.int r) (h1.le (by decide)) (kq hs3 sm3 3 (kq hs2 sm2 3 (kq hs1 sm1 3 (D11.k (D10.k (D9.k (D8.k (D7.k (D6.k (D5.k (D4.k (D3.k (D2.k (D1.k p3)))))))))))))); have q128 := Ty.up (Ty.val (Value.pointer none)) (h1.le (by decide)) (kq hs3 sm3 9 (kq hs2 sm2 9 (kq hs1 sm1 9 (D11.k (D10.k (D9.k q54)))))); have q129 := Ty.up (Ty.int (mkC (n : Int) G S)) (h1.le (by decide)) (kq hs3 sm3 10 (kq hs2 sm2 10 (kq hs1 sm1 10 (D11.k (D10.k (D9.k q55)))))); have q130 := Ty.up (Ty.int (gensMay (((n : Nat) : Int)) (S))) (h1.le (by decide)) (kq hs3 sm3 11 (kq hs2 sm2 11 (kq hs1 sm1 11 (D11.k (D10.k (D9.k q56)))))); have q131 := Ty.up (Ty.nat (szTo n (fun y => y ∈ (G)) n)) (h1.le (by decide)) (kq hs3 sm3 12 (kq hs2 sm2 12 (kq hs1 sm1 12 (D11.k (D10.k (D9.m 3 rfl)))))); have q132 := Ty.up (Ty.nat (szTo n (fun y => y ∈ (S)) n)) (h1.le (by decide)) (kq hs3 sm3 13 (kq hs2 sm2 13 (kq hs1 sm1 13 (D11.k (D10.m 3 rfl))))); have q133 := Ty.up (Ty.nat n) (h1.le (by decide)) (kq hs3 sm3 50 (kq hs2 sm2 50 (kq hs1 sm1 50 (D11.m 0 rfl))))
   have q134 : At (Ty.lst Ty.ints (G ++ S)) t1 a14 (.tmp 55) := by have e : a14.eval (.tmp 55) = x3 := q122; show Ty.has _ _ _; rw [e]; exact q123
   refine tL (R := (fun v τ => Pr.has (Ty.pr (Ty.nat (szTo n (fun y => y ∈ ((G ++ S))) n))) τ v)) ok14 (Yld.toL (y_call _ Try.func20 rfl rfl my2 (rSizes_fn (n) ((G ++ S)) _ _ _ q133 q134 (by first | omega | assumption | exact hst1) (by first | omega | assumption | exact hst1) (by first | omega | assumption | exact hst1)))) fun a15 s15 hs4 ok15 r4 sm4 => ?_
   have F16 := F15.sl hs4; have q142 := kq hs4 sm4 12 q131
   have q144 : At (Ty.nat (szTo n (fun y => y ∈ ((G ++ S))) n)) s15 a15 (.tmp 56) := r4
   clear r4
   refine tL ok15 (Yld.toL (y_mv q142)) fun a16 s16 hs5 ok16 r5 sm5 => ?_
   have F17 := F16.sl hs5
   have q155 : At (Ty.nat (szTo n (fun y => y ∈ (G)) n)) s16 a16 (.tmp 57) := r5
   clear r5
   refine tL (R := (fun v τ => Pr.has (Ty.pr (Ty.bool (decide ((((szTo n (fun y => y ∈ ((G ++ S))) n) : Nat) : Int) ≠ (((szTo n (fun y => y ∈ (G)) n) : Nat) : Int))))) τ v)) ok16 (Yld.toL (y_neq (kq hs5 sm5 56 q144) q155)) fun a17 s17 hs6 ok17 r6 sm6 => ?_
   have F18 := F17.sl hs6; have q156 := kq hs6 sm6 0 (kq hs5 sm5 0 (kq hs4 sm4 0 q124)); have q157 := kq hs6 sm6 1 (kq hs5 sm5 1 (kq hs4 sm4 1 q125)); have q158 := kq hs6 sm6 2 (kq hs5 sm5 2 (kq hs4 sm4 2 q126)); have q159 := kq hs6 sm6 3 (kq hs5 sm5 3 (kq hs4 sm4 3 q127)); have q160 := kq hs6 sm6 9 (kq hs5 sm5 9 (kq hs4 sm4 9 q128)); have q161 := kq hs6 sm6 10 (kq hs5 sm5 10 (kq hs4 sm4 10 q129)); have q162 := kq hs6 sm6 11 (kq hs5 sm5 11 (kq hs4 sm4 11 q130)); have q164 := kq hs6 sm6 13 (kq hs5 sm5 13 (kq hs4 sm4 13 q132))
   have q165 : At (Ty.bool (decide ((((szTo n (fun y => y ∈ ((G ++ S))) n) : Nat) : Int) ≠ (((szTo n (fun y => y ∈ (G)) n) : Nat) : Int)))) s17 a17 (.tmp 58) := r6
   clear r6; refine wpList_nil (tn ?_)
   refine cond_p (p := ((((szTo n (fun y => y ∈ ((G ++ S))) n) : Nat) : Int) ≠ (((szTo n (fun y => y ∈ (G)) n) : Nat) : Int))) q165 (fun c3 => ?_) (fun c3 => ?_)
   ·
    have hmk := mkC_3 hG0 c2 (sz_bad hn hG hS (by omega))
    refine gI a17 s17 ok17 (gC (Ty.int (14 : Int)) (gE ok17 fun a18 s18 ok18 D12 => ?_)); have q174 := D12.m 0 rfl; refine tn (wp_seq (wp_seq ?_))
    refine gI a18 s18 ok18 (gM q174 (gT (Ty.bool true) rfl (fun A B E H I d0 => rP ((y_neq (ef d0 rfl) rfl).mono (fun τ _ h => cvb (σ := τ) (by decide) h))) (gE ok18 fun a19 s19 ok19 D13 => ?_))); refine tn ?_
    refine cond_t (D13.m 1 rfl) (fun _ => ?_) (fun c4 => (by cases c4))
    refine wp_seq ?_
    refine gI a19 s19 ok19 (gM (D13.k (D12.k q161)) (gM (D13.k q174) (gS rfl (fun A B E H I d0 d1 => rP (y_eql (ef d0 rfl) (ef d1 rfl))) (gS rfl (fun A B E H I d0 => rP (y_move (ef d0 rfl))) (gS rfl (fun A B E H I d0 => gu H (ef d0 rfl) fun hg => y_move (kp (I 9 rfl) E (D13.k (D12.k q160)))) (gT (Ty.grd ((decide ((mkC (n : Int) G S) = (14 : Int))) = true) (Ty.bool true)) rfl (fun A B E H I d0 d1 => gu H (ef d1 rfl) fun hg => y_nilnil Try.underlying53 ((ef d0 rfl).1 hg) rfl) (gS rfl (fun A B E H I d0 d1 => rP (y_pick_and (ef d0 rfl) (ef d1 rfl) rfl)) (gB 0 (gE ok19 fun a20 s20 ok20 D14 => ?_))))))))); refine tn (wp_ret (tr ?_))
    exact retL1 rfl ok20 (((F18.step0 D12.stp).step0 D13.stp).step0 D14.stp) (cvb (by (rw [hmk]; rfl)) (D14.m 7 rfl))
   ·
    have hall := (sz_app hn hG hS).1 (by omega); have hmk4 := mkC_4 hG0 c2 hall
    refine wp_seq ?_
    refine gI a17 s17 ok17 (gM q164 (gS rfl (fun A B E H I d0 => rP (y_gtr (ef d0 rfl) rfl)) (gS rfl (fun A B E H I d0 => rP (y_move (ef d0 rfl))) (gS rfl (fun A B E H I d0 => gu H (ef d0 rfl) fun hg => y_move (kp (I 12 rfl) E (kq hs6 sm6 12 (kq hs5 sm5 12 q142)))) (gS rfl (fun A B E H I d0 => gu H (ef d0 rfl) fun hg => y_move (kp (I 13 rfl) E q164)) (gT (Ty.grd ((decide ((1000 : Int) < (((szTo n (fun y => y ∈ (S)) n) : Nat) : Int))) = false) (Ty.nat ((szTo n (fun y => y ∈ (G)) n) / (szTo n (fun y => y ∈ (S)) n)))) rfl (fun A B E H I d0 d1 d2 => guf H (ef d2 rfl) fun hg hp => y_quoN ((ef d0 rfl).1 hg) ((ef d1 rfl).1 hg) (by omega) (by omega)) (gS rfl (fun A B E H I d0 d1 => gu H (ef d1 rfl) fun hg => y_gtr ((ef d0 rfl).1 hg) rfl) (gS rfl (fun A B E H I d0 d1 => rP (y_pick_or (ef d0 rfl) rfl (ef d1 rfl))) (gE ok17 fun a21 s21 ok21 D15 => ?_))))))))); refine tn ?_
    refine cond_t (D15.m 7 rfl) (fun c5 => ?_) (fun c5 => ?_)
    ·
     simp only [Bool.or_eq_true, decide_eq_true_eq] at c5; have hmk : mkC (n : Int) G S = 3 := (by rw [hmk4, if_pos (by omega)])
     refine gI a21 s21 ok21 (gC (Ty.int (3 : Int)) (gE ok21 fun a22 s22 ok22 D16 => ?_)); have q204 := D16.m 0 rfl; refine tn (wp_seq (wp_seq ?_))
     refine gI a22 s22 ok22 (gM q204 (gT (Ty.bool true) rfl (fun A B E H I d0 => rP ((y_neq (ef d0 rfl) rfl).mono (fun τ _ h => cvb (σ := τ) (by decide) h))) (gE ok22 fun a23 s23 ok23 D17 => ?_))); refine tn ?_
     refine cond_t (D17.m 1 rfl) (fun _ => ?_) (fun c6 => (by cases c6))
     refine wp_seq ?_
     refine gI a23 s23 ok23 (gM (D17.k (D16.k (D15.k q161))) (gM (D17.k q204) (gS rfl (fun A B E H I d0 d1 => rP (y_eql (ef d0 rfl) (ef d1 rfl))) (gS rfl (fun A B E H I d0 => rP (y_move (ef d0 rfl))) (gS rfl (fun A B E H I d0 => gu H (ef d0 rfl) fun hg => y_move (kp (I 9 rfl) E (D17.k (D16.k (D15.k q160))))) (gT (Ty.grd ((decide ((mkC (n : Int) G S) = (3 : Int))) = true) (Ty.bool true)) rfl (fun A B E H I d0 d1 => gu H (ef d1 rfl) fun hg => y_nilnil Try.underlying53 ((ef d0 rfl).1 hg) rfl) (gS rfl (fun A B E H I d0 d1 => rP (y_pick_and (ef d0 rfl) (ef d1 rfl) rfl)) (gB 0 (gE ok23 fun a24 s24 ok24 D18 => ?_))))))))); refine tn (wp_ret (tr ?_))
     exact retL1 rfl ok24 ((((F18.step0 D15.stp).step0 D16.stp).step0 D17.stp).step0 D18.stp) (cvb (by (rw [hmk]; rfl)) (D18.m 7 rfl))
    ·
     exfalso
     (simp only [Bool.or_eq_false_iff, decide_eq_false_iff_not] at c5; exact hbad (by rw [hmk4, if_neg (by omega)]))
  ·
   have hmk : mkC (n : Int) G S = gensMay (n : Int) S := mkC_2 hG0 c2
   refine wp_skip (tn (wp_seq (wp_seq ?_)))
   refine gI a8 s8 ok8 (gM q56 (gS rfl (fun A B E H I d0 => rP (y_neq (ef d0 rfl) rfl)) (gE ok8 fun a25 s25 ok25 D19 => ?_))); refine tn ?_
   refine cond_p (p := ((gensMay (((n : Nat) : Int)) (S)) ≠ (0 : Int))) (D19.m 1 rfl) (fun c7 => ?_) (fun c7 => ?_)
   ·
    refine wp_seq ?_
    refine gI a25 s25 ok25 (gM (D19.k q55) (gM (D19.k q56) (gS rfl (fun A B E H I d0 d1 => rP (y_eql (ef d0 rfl) (ef d1 rfl))) (gS rfl (fun A B E H I d0 => rP (y_move (ef d0 rfl))) (gS rfl (fun A B E H I d0 => gu H (ef d0 rfl) fun hg => y_move (kp (I 9 rfl) E (D19.k q54))) (gT (Ty.grd ((decide ((mkC (n : Int) G S) = (gensMay (((n : Nat) : Int)) (S)))) = true) (Ty.bool true)) rfl (fun A B E H I d0 d1 => gu H (ef d1 rfl) fun hg => y_nilnil Try.underlying53 ((ef d0 rfl).1 hg) rfl) (gS rfl (fun A B E H I d0 d1 => rP (y_pick_and (ef d0 rfl) (ef d1 rfl) rfl)) (gB 0 (gE ok25 fun a26 s26 ok26 D20 => ?_))))))))); refine tn (wp_ret (tr ?_))
    exact retL1 rfl ok26 ((F8.step0 D19.stp).step0 D20.stp) (cvb (by (rw [hmk]; simp)) (D20.m 7 rfl))
   ·
    exfalso
    exact c7 c2
 ·
  exfalso
  exact c1 hG0


end Go.Proofs.Ytkjifbgofckfeaa
