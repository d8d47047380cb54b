/- The functions that the law MethodReads reaches, each by its contract. Part 7. -/
import Derived.Test.YtdjihbjikpbhgaaDoorMethodReadsW6
namespace Go.Proofs.YtdjihbjikpbhgaaDoor
open Go.KL

set_option maxHeartbeats 4000000 in
set_option maxRecDepth 100000 in
theorem rParsePlaces_fn (n : Int) (s : ByteArray) (σ : GW)  (v0 v1 : Value) (hv0 : Ty.has (Ty.int n) σ v0) (hv1 : Ty.has (Ty.val (Value.string s)) σ v1)   :
    FnC Tryd.prog 35 #[v0, v1] σ (Ty.tup2 (Ty.lst Ty.ints (plM n s).2) (Ty.int (plM n s).1)) := by
 obtain ⟨L, hL⟩ : ∃ L, L = runsL s ++ [44] := ⟨_, rfl⟩
 have hrl := runsL_len s
 have hLl : L.length ≤ s.size + 1 := by rw [hL, List.length_append, List.length_singleton]; omega
 have hrn : (runsL s ++ [44]).length = (runsL s).length + 1 := by rw [List.length_append, List.length_singleton]
 refine fn_intro0 Tryd.func35 rfl Tryd.ntmps35 (Nat.le_of_ble_eq_true rfl) (fun s0 a0 hle F0 ok0 hargs => ?_)
 have p0 := pA hle (hargs 0 _ rfl) hv0
 have p1 := pA hle (hargs 1 _ rfl) hv1
 clear hargs; refine wp_seq ?_
 refine gI a0 s0 ok0 (gC (Ty.val (Value.slice none 0 0)) (gC (Ty.int (0 : Int)) (gE ok0 fun a1 s1 ok1 D1 => ?_))); have q1 := D1.kt p0 rfl; refine tn (wp_seq (wp_seq ?_))
 refine gI a1 s1 ok1 (gM q1 (gS rfl (fun A B E G H d0 => rP (y_lss (ed d0 rfl rfl rfl) rfl)) (gS rfl (fun A B E G H d0 => rP (y_move (ed d0 rfl rfl rfl))) (gS rfl (fun A B E G H d0 => gu G (ed d0 rfl rfl rfl) fun hg => y_move (kp (H 0 rfl) E q1)) (gS rfl (fun A B E G H d0 d1 => gu G (ed d1 rfl rfl rfl) fun hg => y_gtr ((ed d0 rfl rfl rfl).1 hg) rfl) (gS rfl (fun A B E G H d0 d1 => rP (y_pick_or (ed d0 rfl rfl rfl) rfl (ed d1 rfl rfl rfl))) (gE ok1 fun a2 s2 ok2 D2 => ?_))))))); have F2 := (F0.step0 D1.stp).step0 D2.stp; have q4 := D2.kt (D1.kt p1 rfl) rfl; refine tn ?_
 refine cond_t (D2.dn 5 rfl rfl) (fun c1 => ?_) (fun c1 => ?_)
 ·
  have hn1 : n < 1 ∨ 12 < n := (by simpa using c1)
  refine wp_seq ?_
  refine gI a2 s2 ok2 (gC (Ty.val (Value.slice none 0 0)) (gC (Ty.int (1 : Int)) (gE ok2 fun a3 s3 ok3 D3 => ?_))); refine tn (wp_ret (tr ?_))
  exact retL2 rfl ok3 (F2.step0 D3.stp) (hasT2 (nil_lst (by (rw [plM_1 hn1])) (D3.dn 0 rfl rfl)) (cvi (by (rw [plM_1 hn1])) (D3.dn 1 rfl rfl)))
 ·
  obtain ⟨d1, d2⟩ := Bool.or_eq_false_iff.mp c1
  replace d1 := of_decide_eq_false d1
  replace d2 := of_decide_eq_false d2
  have hn0 : ¬ (n < 1 ∨ 12 < n) := (by simp at c1; omega)
  refine wp_skip (tn (wp_seq (wp_seq ?_)))
  refine gI a2 s2 ok2 (gM q4 (gT (Ty.nat (ByteArray.size s)) rfl (fun A B E G H d0 => rP (y_len_str Tryd.underlying9 (ed d0 rfl rfl rfl))) (gS rfl (fun A B E G H d0 => rP (y_gtr (ed d0 rfl rfl rfl) rfl)) (gE ok2 fun a4 s4 ok4 D4 => ?_)))); have F4 := F2.step0 D4.stp; refine tn ?_
  refine cond_p (p := ((4000 : Int) < (((ByteArray.size s) : Nat) : Int))) (D4.dn 2 rfl rfl) (fun c2 => ?_) (fun c2 => ?_)
  ·
   have hz3 : 4000 < s.size := (by omega)
   refine wp_seq ?_
   refine gI a4 s4 ok4 (gC (Ty.val (Value.slice none 0 0)) (gC (Ty.int (3 : Int)) (gE ok4 fun a5 s5 ok5 D5 => ?_))); refine tn (wp_ret (tr ?_))
   exact retL2 rfl ok5 (F4.step0 D5.stp) (hasT2 (nil_lst (by (rw [plM_3 hn0 hz3])) (D5.dn 0 rfl rfl)) (cvi (by (rw [plM_3 hn0 hz3])) (D5.dn 1 rfl rfl)))
  ·
   have hz0 : ¬ 4000 < s.size := (by omega)
   refine wp_skip (tn (wp_seq ?_))
   refine gI a4 s4 ok4 (gC (Ty.val (Value.slice none 0 0)) (gE ok4 fun a6 s6 ok6 D6 => ?_)); refine tn (wp_seq ?_)
   refine gI a6 s6 ok6 (gC (Ty.val (Value.slice none 0 0)) (gE ok6 fun a7 s7 ok7 D7 => ?_)); refine tn (wp_seq ?_)
   refine gI a7 s7 ok7 (gC (Ty.val (Value.slice none 0 0)) (gE ok7 fun a8 s8 ok8 D8 => ?_)); refine tn (wp_seq ?_)
   refine gI a8 s8 ok8 (gC (Ty.bool false) (gE ok8 fun a9 s9 ok9 D9 => ?_)); refine tn (wp_seq ?_)
   refine gI a9 s9 ok9 (gC (Ty.bool true) (gE ok9 fun a10 s10 ok10 D10 => ?_)); refine tn (wp_seq ?_)
   refine gI a10 s10 ok10 (gC (Ty.bool false) (gE ok10 fun a11 s11 ok11 D11 => ?_)); refine tn (wp_seq ?_)
   refine gI a11 s11 ok11 (gM (D11.kt (D10.kt (D9.kt (D8.kt (D7.kt (D6.kt (D4.kt q4 rfl) rfl) rfl) rfl) rfl) rfl) rfl) (gE2 ok11 fun a12 s12 ok12 D12 => ?_))
   refine tL ok12 (y_callL (L := []) [] [(5, 61)] _ rfl (by decide) Tryd.func61 rfl rfl my1 (rRunesO_fn (s) _ (GW.low_lend _ (by decide)) _ (Ty.up _ (GW.le_lend _ _) (D12.dn 0 (by decide) rfl rfl))  (by omega))) fun a13 s13 hs1 ok13 r1 sm1 => ?_
   have F13 := (((((((F4.step0 D6.stp).step0 D7.stp).step0 D8.stp).step0 D9.stp).step0 D10.stp).step0 D11.stp).step0 D12.stp).stepL hs1 (by decide); have q54 := kpL hs1 (by decide) (sm1 0 (by decide)) (D12.kt (D11.kt (D10.kt (D9.kt (D8.kt (D7.kt (D6.kt (D4.kt (D2.kt q1 rfl) rfl) rfl) rfl) rfl) rfl) rfl) rfl) rfl); have q55 := kpL hs1 (by decide) (sm1 6 (by decide)) (D12.kt (D11.kt (D10.kt (D9.kt (D8.kt (D7.kt (D6.dn 0 rfl rfl) rfl) rfl) rfl) rfl) rfl) rfl); have q56 := kpL hs1 (by decide) (sm1 7 (by decide)) (D12.kt (D11.kt (D10.kt (D9.kt (D8.kt (D7.dn 0 rfl rfl) rfl) rfl) rfl) rfl) rfl); have q57 := kpL hs1 (by decide) (sm1 8 (by decide)) (D12.kt (D11.kt (D10.kt (D9.kt (D8.dn 0 rfl rfl) rfl) rfl) rfl) rfl); have q58 := kpL hs1 (by decide) (sm1 9 (by decide)) (D12.kt (D11.kt (D10.kt (D9.dn 0 rfl rfl) rfl) rfl) rfl); have q59 := kpL hs1 (by decide) (sm1 10 (by decide)) (D12.kt (D11.kt (D10.dn 0 rfl rfl) rfl) rfl); have q60 := kpL hs1 (by decide) (sm1 11 (by decide)) (D12.kt (D11.dn 0 rfl rfl) rfl)
   obtain ⟨t1, ⟨x1, hT1, o1⟩, B1⟩ := r1
   have q61 : At (Ty.val x1) s13 a13 (.tmp 31) := Ty.up _ B1.le hT1
   have o2 : Own s13 61 3 1 x1 (List.length (runsL s)) (List.map Ty.int (runsL s)) := Own.ren o1 (B1.ren (by decide) rfl)
   refine tL (R := (fun v τ => Pr.has (Ty.pr (Ty.sl 1 1 [(Ty.int (44 : Int))])) τ v)) ok13 (Yld.toL (y_build1o Tryd.underlying42 Tryd.inf3 rfl (one_val rfl) rfl)) fun a14 s14 hs2 ok14 r2 sm2 => ?_
   have F14 := F13.stepL hs2 (by decide); have q62 := kpL hs2 (by decide) (sm2 0 (by decide)) q54; have q63 := kpL hs2 (by decide) (sm2 6 (by decide)) q55; have q64 := kpL hs2 (by decide) (sm2 7 (by decide)) q56; have q65 := kpL hs2 (by decide) (sm2 8 (by decide)) q57; have q66 := kpL hs2 (by decide) (sm2 9 (by decide)) q58; have q67 := kpL hs2 (by decide) (sm2 10 (by decide)) q59; have q68 := kpL hs2 (by decide) (sm2 11 (by decide)) q60; have q69 := kpL hs2 (by decide) (sm2 31 (by decide)) q61; have o3 := Own.keepL o2 hs2 (by decide) (by decide)
   have q70 : At (Ty.sl 1 1 [(Ty.int (44 : Int))]) s14 a14 (.tmp 32) := r2
   clear r2
   refine tL ok14 (YldM.toL (m_append Tryd.underlying42 Tryd.inf3 (by decide) rfl (by decide) (al (R := (Pr.own 61 3 1 (List.length (runsL s)) (List.map Ty.int (runsL s)))) q69 o3) q70 (by intro U hU; simp at hU; subst hU; exact one_val rfl) (by omega) (by omega))) fun a15 s15 hs3 ok15 r3 sm3 => ?_
   have F15 := F14.stepL hs3 (by decide); have q71 := kpL hs3 (by decide) (sm3 0 (by decide)) q62; have q72 := kpL hs3 (by decide) (sm3 6 (by decide)) q63; have q73 := kpL hs3 (by decide) (sm3 7 (by decide)) q64; have q74 := kpL hs3 (by decide) (sm3 8 (by decide)) q65; have q75 := kpL hs3 (by decide) (sm3 9 (by decide)) q66; have q76 := kpL hs3 (by decide) (sm3 10 (by decide)) q67; have q77 := kpL hs3 (by decide) (sm3 11 (by decide)) q68
   obtain ⟨x2, hx1⟩ : ∃ x, a15.eval (.tmp 33) = x := ⟨_, rfl⟩
   have q78 : At (Ty.val x2) s15 a15 (.tmp 33) := hx1
   have o4 := al2 (R := (Pr.own 61 3 1 (List.length ((runsL s) ++ [(44 : Int)])) (List.map Ty.int ((runsL s) ++ [(44 : Int)])))) hx1 (cvo (by simp) (by first | (rw [List.map_append]; rfl) | simp) r3)
   clear r3
   refine tL ok15 (Yld.toL (y_as q78)) fun a16 s16 hs4 ok16 r4 sm4 => ?_
   have F16 := F15.stepL hs4 (by decide); have q79 := kpL hs4 (by decide) (sm4 0 (by decide)) q71; have q80 := kpL hs4 (by decide) (sm4 6 (by decide)) q72; have q81 := kpL hs4 (by decide) (sm4 7 (by decide)) q73; have q82 := kpL hs4 (by decide) (sm4 8 (by decide)) q74; have q83 := kpL hs4 (by decide) (sm4 9 (by decide)) q75; have q84 := kpL hs4 (by decide) (sm4 10 (by decide)) q76; have q85 := kpL hs4 (by decide) (sm4 11 (by decide)) q77; have o5 := Own.keepL o4 hs4 (by decide) (by decide)
   have q86 : At (Ty.val x2) s16 a16 (.tmp 12) := r4
   clear r4; refine wpList_nil (tn (wp_seq (wp_seq ?_)))
   refine gI a16 s16 ok16 (gC (Ty.int (0 : Int)) (gE ok16 fun a17 s17 ok17 D13 => ?_)); have o6 := Own.k0 o5 D13.stp; refine tn (wp_block ?_)
   obtain ⟨t2, e1, h1, q96⟩ := Own.seal o6 (by decide)
   rw [← e1]
   have F18 := (F16.step0 D13.stp).step h1 (by decide); have q97 := Ty.up (Ty.int n) (h1.le (by decide)) (D13.kt q79 rfl); have q98 := Ty.up (Ty.val (Value.slice none 0 0)) (h1.le (by decide)) (D13.kt q80 rfl); have q99 := Ty.up (Ty.val (Value.slice none 0 0)) (h1.le (by decide)) (D13.kt q81 rfl); have q100 := Ty.up (Ty.val (Value.slice none 0 0)) (h1.le (by decide)) (D13.kt q82 rfl); have q101 := Ty.up (Ty.bool false) (h1.le (by decide)) (D13.kt q83 rfl); have q102 := Ty.up (Ty.bool true) (h1.le (by decide)) (D13.kt q84 rfl); have q103 := Ty.up (Ty.bool false) (h1.le (by decide)) (D13.kt q85 rfl)
   have q104 : At (Ty.lst Ty.int ((runsL s) ++ [(44 : Int)])) t2 a17 (.tmp 12) := by have e : a17.eval (.tmp 12) = x2 := (D13.kt q86 rfl); show Ty.has _ _ _; rw [e]; exact q96
   have q105 := Ty.up (Ty.int (0 : Int)) (h1.le (by decide)) (D13.dn 0 rfl rfl)
   have o7 : Own t2 71 42 1 (Value.slice none 0 0) 0 (List.map Ty.ints ([] : List (List Int))) := Own.nil _ _ _ _
   have o8 : Own t2 72 42 1 (Value.slice none 0 0) 0 (List.map Ty.ints ([] : List (List Int))) := Own.nil _ _ _ _
   have o9 : Own t2 73 3 1 (Value.slice none 0 0) 0 (List.map Ty.int ([] : List Int)) := Own.nil _ _ _ _
   refine loop (fun n1 a18 w1 => ∃ (t3 : GW) (i : Nat) (all : List (List Int)) (blk : List (List Int)) (mir : Bool) (so : List Int) (beg : Bool) (dot : Bool) (x6_0 x7_0 x8_0 : Value), t3.w = w1 ∧ FromL [] s0 t3 ∧ Ok 158 [] a18 ∧ At (Ty.val x6_0) t3 a18 (.tmp 6) ∧ At (Ty.val x7_0) t3 a18 (.tmp 7) ∧ At (Ty.val x8_0) t3 a18 (.tmp 8) ∧ At (Ty.bool mir) t3 a18 (.tmp 9) ∧ At (Ty.bool beg) t3 a18 (.tmp 10) ∧ At (Ty.bool dot) t3 a18 (.tmp 11) ∧ At (Ty.lst Ty.int L) t3 a18 (.tmp 12) ∧ At (Ty.nat i) t3 a18 (.tmp 13) ∧ At (Ty.int n) t3 a18 (.tmp 0) ∧ Own t3 71 42 1 x6_0 (List.length all) (List.map Ty.ints all) ∧ Own t3 72 42 1 x7_0 (List.length blk) (List.map Ty.ints blk) ∧ Own t3 73 3 1 x8_0 (List.length so) (List.map Ty.int so) ∧ (rfF n (L.drop i) (QSt.mk all blk mir so beg dot) = plM n s) ∧ (i ≤ L.length) ∧ (all.length ≤ 200) ∧ (blk.length ≤ 200) ∧ (so.length ≤ i) ∧ (∀ k, k < so.length → 1 ≤ so.getD k 0 ∧ so.getD k 0 ≤ 12) ∧ n1 = L.length - i) (L.length - (0)) ?_ ?_
   ·
    exact ⟨t2, 0, ([] : List (List Int)), ([] : List (List Int)), false, ([] : List Int), true, false, (Value.slice none 0 0), (Value.slice none 0 0), (Value.slice none 0 0), rfl, F18, ok17, q98, q99, q100, (cvb (by (first | rfl | omega | (simp_all; done) | (simp_all; omega))) q101), (cvb (by (first | rfl | omega | (simp_all; done) | (simp_all; omega))) q102), (cvb (by (first | rfl | omega | (simp_all; done) | (simp_all; omega))) q103), (cvt (by (rw [hL])) q104), (cvi (by (rfl)) q105), q97, (cvo (by (simp)) (by (simp)) o7), (cvo (by (simp)) (by (simp)) o8), (cvo (by (simp)) (by (simp)) o9), by rw [hL]; exact rf_0 hn0 hz0, by omega, by simp, by simp, by simp, fun k h_ => absurd h_ (Nat.not_lt_zero k), rfl⟩
   ·
    rintro n2 a19 w2 ⟨t4, i, all, blk, mir, so, beg, dot, x6_0, x7_0, x8_0, rfl, F19, ok18, q106, q107, q108, q109, q110, q111, q112, q113, q114, o10, o11, o12, hX, hi0, ha, hb, hso, hsv, rfl⟩
    have hib := signIdx_bd (L.getD i 0)
    refine wp_seq (wp_seq ?_)
    refine gI a19 t4 ok18 (gM q113 (gM q112 (gS rfl (fun A B E G H d0 => rP (y_len Tryd.underlying42 (ed d0 rfl rfl rfl))) (gS rfl (fun A B E G H d0 d1 => rP (y_lss (ed d0 rfl rfl rfl) (ed d1 rfl rfl rfl))) (gE ok18 fun a20 s18 ok19 D14 => ?_))))); have F20 := F19.step0 D14.stp; have q115 := D14.kt q106 rfl; have q121 := D14.kt q112 rfl; have q122 := D14.kt q113 rfl; have o13 := Own.k0 o10 D14.stp; have o14 := Own.k0 o11 D14.stp; have o15 := Own.k0 o12 D14.stp; refine tn ?_
    refine cond_p (p := (((i : Nat) : Int) < (((List.length L) : Nat) : Int))) (D14.dn 3 rfl rfl) (fun c3 => ?_) (fun c3 => ?_)
    ·
     have hi : i < L.length := (by omega)
     refine wp_skip (tn (wp_seq (wp_block (wp_seq ?_))))
     refine gI a20 s18 ok19 (gM q121 (gM q122 (gT (Ty.ref [(Ty.int (L.getD i 0))]) rfl (fun A B E G H d0 d1 => rP (y_index1 Tryd.underlying42 Tryd.inf3 (ed d0 rfl rfl rfl) (ed d1 rfl rfl rfl) (by omega) (lst_get Ty.int L 0 i (by omega)))) (gS rfl (fun A B E G H d0 => rP (y_load Tryd.underlying3 rfl (ed d0 rfl rfl rfl) rfl)) (gB 0 (gE ok19 fun a21 s19 ok20 D15 => ?_)))))); have q131 := D15.kt q121 rfl; have q132 := D15.kt q122 rfl; have o16 := Own.k0 o13 D15.stp; have o17 := Own.k0 o14 D15.stp; have o18 := Own.k0 o15 D15.stp; refine tn (wp_seq ?_)
     refine gI a21 s19 ok20 (gM q132 (gM q131 (gS rfl (fun A B E G H d0 => rP (y_len Tryd.underlying42 (ed d0 rfl rfl rfl))) (gT (Ty.int ((((List.length L) : Nat) : Int) - (1 : Int))) rfl (fun A B E G H d0 => rP (y_sub (ed d0 rfl rfl rfl) rfl (w64 (by omega) (by omega)))) (gS rfl (fun A B E G H d0 d1 => rP (y_eql (ed d0 rfl rfl rfl) (ed d1 rfl rfl rfl))) (gB 0 (gE ok20 fun a22 s20 ok21 D16 => ?_))))))); have q144 := D16.kt (D15.dn 4 rfl rfl) rfl; have o19 := Own.k0 o16 D16.stp; have o20 := Own.k0 o17 D16.stp; have o21 := Own.k0 o18 D16.stp; refine tn (wp_seq ?_)
     refine gI a22 s20 ok21 (gM q144 (gS rfl (fun A B E G H d0 => rP (y_call _ Tryd.func62 rfl rfl my1 (rBell_fn ((L.getD i 0)) _ _ (cvi (σ := B) (by omega) (ed d0 rfl rfl rfl)) ))) (gB 0 (gE ok21 fun a23 s21 ok22 D17 => ?_)))); have o22 := Own.k0 o19 D17.stp; have o23 := Own.k0 o20 D17.stp; have o24 := Own.k0 o21 D17.stp; have q157 := D17.dn 2 rfl rfl; refine tn (wp_seq (wp_seq ?_))
     refine gI a23 s21 ok22 (gM q157 (gS rfl (fun A B E G H d0 => rP (y_geq (ed d0 rfl rfl rfl) rfl)) (gE ok22 fun a24 s22 ok23 D18 => ?_))); have F24 := (((F20.step0 D15.stp).step0 D16.stp).step0 D17.stp).step0 D18.stp; have q158 := D18.kt (D17.kt (D16.kt (D15.kt q115 rfl) rfl) rfl) rfl; have q159 := D18.kt (D17.kt (D16.kt (D15.kt (D14.kt q107 rfl) rfl) rfl) rfl) rfl; have q160 := D18.kt (D17.kt (D16.kt (D15.kt (D14.kt q108 rfl) rfl) rfl) rfl) rfl; have q161 := D18.kt (D17.kt (D16.kt (D15.kt (D14.kt q109 rfl) rfl) rfl) rfl) rfl; have q164 := D18.kt (D17.kt (D16.kt q131 rfl) rfl) rfl; have q165 := D18.kt (D17.kt (D16.kt q132 rfl) rfl) rfl; have q166 := D18.kt (D17.kt (D16.kt (D15.kt (D14.kt q114 rfl) rfl) rfl) rfl) rfl; have o25 := Own.k0 o22 D18.stp; have o26 := Own.k0 o23 D18.stp; have o27 := Own.k0 o24 D18.stp; refine tn ?_
     refine cond_p (p := ((0 : Int) ≤ (signIdx ((L.getD i 0))))) (D18.dn 1 rfl rfl) (fun c4 => ?_) (fun c4 => ?_)
     ·
      refine wp_seq ?_
      refine gI a24 s22 ok23 (gM q160 (gM (D18.kt q157 rfl) (gT (Ty.int ((signIdx ((L.getD i 0))) + (1 : Int))) rfl (fun A B E G H d0 => rP (y_add (ed d0 rfl rfl rfl) rfl (w64 (by omega) (by omega)))) (gT (Ty.sl 1 1 [(Ty.int ((signIdx ((L.getD i 0))) + (1 : Int)))]) rfl (fun A B E G H d0 => rP (y_build1o Tryd.underlying42 Tryd.inf3 rfl (one_val rfl) (ed d0 rfl rfl rfl))) (gE2 ok23 fun a25 s23 ok24 D19 => ?_))))); have o28 := Own.k0 o25 D19.stp; have o29 := Own.k0 o26 D19.stp; have o30 := Own.k0 o27 D19.stp
      have q178 : At (Ty.val x8_0) s23 a25 (.tmp 53) := D19.done 0 (by decide)
      have q179 := D19.dn 3 (by decide) rfl rfl
      have b1 := sl_le q179
      refine tL ok24 (YldM.toL (m_append Tryd.underlying42 Tryd.inf3 (by decide) rfl (by decide) (al (R := (Pr.own 73 3 1 (List.length so) (List.map Ty.int so))) q178 o30) q179 (by intro U hU; simp at hU; subst hU; exact one_val rfl) (by omega) (by omega))) fun a26 s24 hs5 ok25 r5 sm5 => ?_
      have F26 := (F24.step0 D19.stp).stepL hs5 (by decide); have q180 := kpL hs5 (by decide) (sm5 6 (by decide)) (D19.kt q158 rfl); have q181 := kpL hs5 (by decide) (sm5 7 (by decide)) (D19.kt q159 rfl); have q182 := kpL hs5 (by decide) (sm5 8 (by decide)) (D19.kt q160 rfl); have q183 := kpL hs5 (by decide) (sm5 9 (by decide)) (D19.kt q161 rfl); have q184 := kpL hs5 (by decide) (sm5 12 (by decide)) (D19.kt q164 rfl); have q185 := kpL hs5 (by decide) (sm5 13 (by decide)) (D19.kt q165 rfl); have q186 := kpL hs5 (by decide) (sm5 0 (by decide)) (D19.kt q166 rfl); have o32 := Own.keepL o28 hs5 (by decide) (by decide); have o33 := Own.keepL o29 hs5 (by decide) (by decide)
      obtain ⟨x3, hx2⟩ : ∃ x, a26.eval (.tmp 57) = x := ⟨_, rfl⟩
      have q187 : At (Ty.val x3) s24 a26 (.tmp 57) := hx2
      have o31 := al2 (R := (Pr.own 73 3 1 (List.length (so ++ [((signIdx ((L.getD i 0))) + (1 : Int))])) (List.map Ty.int (so ++ [((signIdx ((L.getD i 0))) + (1 : Int))])))) hx2 (cvo (by simp) (by first | (rw [List.map_append]; rfl) | simp) r5)
      clear r5
      refine tL ok25 (Yld.toL (y_as q187)) fun a27 s25 hs6 ok26 r6 sm6 => ?_
      have F27 := F26.stepL hs6 (by decide); have q188 := kpL hs6 (by decide) (sm6 6 (by decide)) q180; have q189 := kpL hs6 (by decide) (sm6 7 (by decide)) q181; have q190 := kpL hs6 (by decide) (sm6 9 (by decide)) q183; have q191 := kpL hs6 (by decide) (sm6 12 (by decide)) q184; have q192 := kpL hs6 (by decide) (sm6 13 (by decide)) q185; have q193 := kpL hs6 (by decide) (sm6 0 (by decide)) q186; have o34 := Own.keepL o32 hs6 (by decide) (by decide); have o35 := Own.keepL o33 hs6 (by decide) (by decide); have o36 := Own.keepL o31 hs6 (by decide) (by decide)
      have q194 : At (Ty.val x3) s25 a27 (.tmp 8) := r6
      clear r6; refine wpList_nil (tn (wp_seq ?_))
      refine gI a27 s25 ok26 (gC (Ty.bool false) (gE ok26 fun a28 s26 ok27 D20 => ?_)); have o37 := Own.k0 o34 D20.stp; have o38 := Own.k0 o35 D20.stp; have o39 := Own.k0 o36 D20.stp; refine tn (wp_seq ?_)
      refine gI a28 s26 ok27 (gC (Ty.bool false) (gE ok27 fun a29 s27 ok28 D21 => ?_)); have o40 := Own.k0 o37 D21.stp; have o41 := Own.k0 o38 D21.stp; have o42 := Own.k0 o39 D21.stp; refine tn (wp_exit (tx (bx (tn ?_))))
      refine gI a29 s27 ok28 (gM (D21.kt (D20.kt q192 rfl) rfl) (gT (Ty.nat (i + 1)) rfl (fun A B E G H d0 => rP ((y_add (ed d0 rfl rfl rfl) rfl (w64 (by omega) (by omega))).mono (fun τ _ h => cvi (σ := τ) (by first | omega | exact (Int.natCast_mul _ _).symm) h))) (gB 0 (gE ok28 fun a30 s28 ok29 D22 => ?_)))); have o43 := Own.k0 o40 D22.stp; have o44 := Own.k0 o41 D22.stp; have o45 := Own.k0 o42 D22.stp
      exact tn ⟨L.length - ((i + 1)), by omega, s28, (i + 1), all, blk, mir, (so ++ [signIdx (L.getD i 0) + 1]), false, false, x6_0, x7_0, x3, rfl, (((F27.step0 D20.stp).step0 D21.stp).step0 D22.stp), ok29, (D22.kt (D21.kt (D20.kt q188 rfl) rfl) rfl), (D22.kt (D21.kt (D20.kt q189 rfl) rfl) rfl), (D22.kt (D21.kt (D20.kt q194 rfl) rfl) rfl), (D22.kt (D21.kt (D20.kt q190 rfl) rfl) rfl), (cvb (by (first | rfl | omega | (simp_all; done) | (simp_all; omega))) (D22.kt (D21.kt (D20.dn 0 rfl rfl) rfl) rfl)), (cvb (by (first | rfl | omega | (simp_all; done) | (simp_all; omega))) (D22.kt (D21.dn 0 rfl rfl) rfl)), (D22.kt (D21.kt (D20.kt q191 rfl) rfl) rfl), (cvi (by (first | rfl | omega | (simp_all; done) | (simp_all; omega))) (D22.dn 2 rfl rfl)), (D22.kt (D21.kt (D20.kt q193 rfl) rfl) rfl), o43, o44, (cvo (by (simp)) (by (simp)) o45), rf_go hX hi (rfE_b c4) (rfS_b c4), by omega, by omega, by omega, by rw [List.length_append, List.length_singleton]; omega, sv_app hsv (by have h_ := signIdx_bd (L.getD i 0); omega), rfl⟩
     ·
      have hnb : ¬ 0 ≤ signIdx (L.getD i 0) := c4
      refine wp_skip (tn (wp_seq (wp_seq ?_)))
      refine gI a24 s22 ok23 (gM q160 (gT (Ty.nat (List.length so)) rfl (fun A B E G H d0 => rP (own_len Tryd.underlying42 (al (R := (Pr.own 73 3 1 (List.length so) (List.map Ty.int so))) (ed d0 rfl rfl rfl) (Own.k0 o27 E)))) (gS rfl (fun A B E G H d0 => rP (y_gtr (ed d0 rfl rfl rfl) rfl)) (gE ok23 fun a31 s29 ok30 D23 => ?_)))); have F31 := F24.step0 D23.stp; have q221 := D23.kt q158 rfl; have q222 := D23.kt q159 rfl; have q223 := D23.kt q160 rfl; have q224 := D23.kt q161 rfl; have q225 := D23.kt (D18.kt (D17.kt (D16.kt (D15.kt (D14.kt q110 rfl) rfl) rfl) rfl) rfl) rfl; have q226 := D23.kt (D18.kt (D17.kt (D16.kt (D15.kt (D14.kt q111 rfl) rfl) rfl) rfl) rfl) rfl; have q227 := D23.kt q164 rfl; have q228 := D23.kt q165 rfl; have q229 := D23.kt q166 rfl; have q230 := D23.kt (D18.kt (D17.kt q144 rfl) rfl) rfl; have q231 := D23.kt (D18.kt (D17.kt (D16.dn 5 rfl rfl) rfl) rfl) rfl; have o46 := Own.k0 o25 D23.stp; have o47 := Own.k0 o26 D23.stp; have o48 := Own.k0 o27 D23.stp; refine tn ?_
      refine Go.KL.join_then (Q' := fun a32 w3 => ∃ (t5 : GW) (xj7 xj8 : Value), t5.w = w3 ∧ FromL [] s0 t5 ∧ Ok 158 [] a32 ∧ At (Ty.val xj7) t5 a32 (.tmp 7) ∧ At (Ty.val xj8) t5 a32 (.tmp 8) ∧ At (Ty.val x6_0) t5 a32 (.tmp 6) ∧ At (Ty.bool mir) t5 a32 (.tmp 9) ∧ At (Ty.bool beg) t5 a32 (.tmp 10) ∧ At (Ty.bool dot) t5 a32 (.tmp 11) ∧ At (Ty.lst Ty.int L) t5 a32 (.tmp 12) ∧ At (Ty.nat i) t5 a32 (.tmp 13) ∧ At (Ty.int n) t5 a32 (.tmp 0) ∧ At (Ty.int (L.getD i 0)) t5 a32 (.tmp 14) ∧ At (Ty.bool (decide (((i : Nat) : Int) = ((((List.length L) : Nat) : Int) - (1 : Int))))) t5 a32 (.tmp 15) ∧ Own t5 72 42 1 xj7 (List.length (clB n blk so)) (List.map Ty.ints (clB n blk so)) ∧ Own t5 73 3 1 xj8 (List.length ([] : List Int)) (List.map Ty.int ([] : List Int)) ∧ Own t5 71 42 1 x6_0 (List.length all) (List.map Ty.ints all) ∧ (clE n blk so = 0) ∧ ((clB n blk so).length ≤ 200) ∧ True) ?_ ?_
      ·
       refine cond_p (p := ((0 : Int) < (((List.length so) : Nat) : Int))) (D23.dn 2 rfl rfl) (fun c5 => ?_) (fun c5 => ?_)
       ·
        have hsn : so ≠ [] := (by intro e_; rw [e_] at c5; simp at c5)
        refine wp_seq ?_
        refine gI a31 s29 ok30 (gM q229 (gM q223 (gE2 ok30 fun a33 s30 ok31 D24 => ?_))); have o49 := Own.k0 o46 D24.stp; have o50 := Own.k0 o47 D24.stp; have o51 := Own.k0 o48 D24.stp
        have q244 : At (Ty.val x8_0) s30 a33 (.tmp 63) := D24.done 1 (by decide)
        refine tL ok31 (y_callL (L := [40]) [(73, 40)] [(40, 73)] #[a33.eval (.tmp 62), a33.eval (.tmp 63)] rfl (by decide) Tryd.func63 rfl rfl my2 (ended_fn (n) (x8_0) (so) _ (GW.low_lend _ (by decide)) _ _ (Ty.up _ (GW.le_lend _ _) (D24.dn 0 (by decide) rfl rfl)) (Ty.up _ (GW.le_lend _ _) q244) (Own.ren (cvo (by (simp)) (by (simp)) o51) (GW.ren_lend _ _ (by decide) rfl)) (by omega) (by omega) (by omega) (by omega))) fun a34 s31 hs7 ok32 r7 sm7 => ?_
        have F33 := (F31.step0 D24.stp).stepL hs7 (by decide); have q245 := kpL hs7 (by decide) (sm7 6 (by decide)) (D24.kt q221 rfl); have q246 := kpL hs7 (by decide) (sm7 7 (by decide)) (D24.kt q222 rfl); have q247 := kpL hs7 (by decide) (sm7 9 (by decide)) (D24.kt q224 rfl); have q248 := kpL hs7 (by decide) (sm7 10 (by decide)) (D24.kt q225 rfl); have q249 := kpL hs7 (by decide) (sm7 11 (by decide)) (D24.kt q226 rfl); have q250 := kpL hs7 (by decide) (sm7 12 (by decide)) (D24.kt q227 rfl); have q251 := kpL hs7 (by decide) (sm7 13 (by decide)) (D24.kt q228 rfl); have q252 := kpL hs7 (by decide) (sm7 0 (by decide)) (D24.kt q229 rfl); have q253 := kpL hs7 (by decide) (sm7 14 (by decide)) (D24.kt q230 rfl); have q254 := kpL hs7 (by decide) (sm7 15 (by decide)) (D24.kt q231 rfl); have o52 := Own.keepL o49 hs7 (by decide) (by decide); have o53 := Own.keepL o50 hs7 (by decide) (by decide)
        obtain ⟨t6, hT2, B2⟩ := r7
        have q255 : At (Ty.tup2 (Ty.lst Ty.int (edL n (so))) (Ty.int (edE n (so)))) s31 a34 (.tmp 64) := Ty.up _ B2.le hT2
        refine tL ok32 (Yld.toL (y_mv q255)) fun a35 s32 hs8 ok33 r8 sm8 => ?_
        have F34 := F33.stepL hs8 (by decide); have q256 := kpL hs8 (by decide) (sm8 6 (by decide)) q245; have q257 := kpL hs8 (by decide) (sm8 7 (by decide)) q246; have q258 := kpL hs8 (by decide) (sm8 9 (by decide)) q247; have q259 := kpL hs8 (by decide) (sm8 10 (by decide)) q248; have q260 := kpL hs8 (by decide) (sm8 11 (by decide)) q249; have q261 := kpL hs8 (by decide) (sm8 12 (by decide)) q250; have q262 := kpL hs8 (by decide) (sm8 13 (by decide)) q251; have q263 := kpL hs8 (by decide) (sm8 0 (by decide)) q252; have q264 := kpL hs8 (by decide) (sm8 14 (by decide)) q253; have q265 := kpL hs8 (by decide) (sm8 15 (by decide)) q254; have o54 := Own.keepL o52 hs8 (by decide) (by decide); have o55 := Own.keepL o53 hs8 (by decide) (by decide)
        have q266 : At (Ty.tup2 (Ty.lst Ty.int (edL n (so))) (Ty.int (edE n (so)))) s32 a35 (.tmp 61) := r8
        clear r8
        refine tL (R := (fun v τ => Pr.has (Ty.pr (Ty.lst Ty.int (edL n (so)))) τ v)) ok33 (Yld.toL (y_ext2_0 q266)) fun a36 s33 hs9 ok34 r9 sm9 => ?_
        have F35 := F34.stepL hs9 (by decide); have q267 := kpL hs9 (by decide) (sm9 6 (by decide)) q256; have q268 := kpL hs9 (by decide) (sm9 7 (by decide)) q257; have q269 := kpL hs9 (by decide) (sm9 9 (by decide)) q258; have q270 := kpL hs9 (by decide) (sm9 10 (by decide)) q259; have q271 := kpL hs9 (by decide) (sm9 11 (by decide)) q260; have q272 := kpL hs9 (by decide) (sm9 12 (by decide)) q261; have q273 := kpL hs9 (by decide) (sm9 13 (by decide)) q262; have q274 := kpL hs9 (by decide) (sm9 0 (by decide)) q263; have q275 := kpL hs9 (by decide) (sm9 14 (by decide)) q264; have q276 := kpL hs9 (by decide) (sm9 15 (by decide)) q265; have q277 := kpL hs9 (by decide) (sm9 61 (by decide)) q266; have o56 := Own.keepL o54 hs9 (by decide) (by decide); have o57 := Own.keepL o55 hs9 (by decide) (by decide)
        have q278 : At (Ty.lst Ty.int (edL n (so))) s33 a36 (.tmp 65) := r9
        clear r9
        refine tL (R := (fun v τ => Pr.has (Ty.pr (Ty.int (edE n (so)))) τ v)) ok34 (Yld.toL (y_ext2_1 q277)) fun a37 s34 hs10 ok35 r10 sm10 => ?_
        have F36 := F35.stepL hs10 (by decide); have q279 := kpL hs10 (by decide) (sm10 6 (by decide)) q267; have q280 := kpL hs10 (by decide) (sm10 7 (by decide)) q268; have q281 := kpL hs10 (by decide) (sm10 9 (by decide)) q269; have q282 := kpL hs10 (by decide) (sm10 10 (by decide)) q270; have q283 := kpL hs10 (by decide) (sm10 11 (by decide)) q271; have q284 := kpL hs10 (by decide) (sm10 12 (by decide)) q272; have q285 := kpL hs10 (by decide) (sm10 13 (by decide)) q273; have q286 := kpL hs10 (by decide) (sm10 0 (by decide)) q274; have q287 := kpL hs10 (by decide) (sm10 14 (by decide)) q275; have q288 := kpL hs10 (by decide) (sm10 15 (by decide)) q276; have q289 := kpL hs10 (by decide) (sm10 65 (by decide)) q278; have o58 := Own.keepL o56 hs10 (by decide) (by decide); have o59 := Own.keepL o57 hs10 (by decide) (by decide)
        have q290 : At (Ty.int (edE n (so))) s34 a37 (.tmp 66) := r10
        clear r10
        refine tL ok35 (Yld.toL (y_as q289)) fun a38 s35 hs11 ok36 r11 sm11 => ?_
        have F37 := F36.stepL hs11 (by decide); have q291 := kpL hs11 (by decide) (sm11 6 (by decide)) q279; have q292 := kpL hs11 (by decide) (sm11 7 (by decide)) q280; have q293 := kpL hs11 (by decide) (sm11 9 (by decide)) q281; have q294 := kpL hs11 (by decide) (sm11 10 (by decide)) q282; have q295 := kpL hs11 (by decide) (sm11 11 (by decide)) q283; have q296 := kpL hs11 (by decide) (sm11 12 (by decide)) q284; have q297 := kpL hs11 (by decide) (sm11 13 (by decide)) q285; have q298 := kpL hs11 (by decide) (sm11 0 (by decide)) q286; have q299 := kpL hs11 (by decide) (sm11 14 (by decide)) q287; have q300 := kpL hs11 (by decide) (sm11 15 (by decide)) q288; have q301 := kpL hs11 (by decide) (sm11 66 (by decide)) q290; have o60 := Own.keepL o58 hs11 (by decide) (by decide); have o61 := Own.keepL o59 hs11 (by decide) (by decide)
        have q302 : At (Ty.lst Ty.int (edL n (so))) s35 a38 (.tmp 17) := r11
        clear r11
        refine tL ok36 (Yld.toL (y_as q301)) fun a39 s36 hs12 ok37 r12 sm12 => ?_
        have F38 := F37.stepL hs12 (by decide); have q303 := kpL hs12 (by decide) (sm12 6 (by decide)) q291; have q304 := kpL hs12 (by decide) (sm12 7 (by decide)) q292; have q305 := kpL hs12 (by decide) (sm12 9 (by decide)) q293; have q306 := kpL hs12 (by decide) (sm12 10 (by decide)) q294; have q307 := kpL hs12 (by decide) (sm12 11 (by decide)) q295; have q308 := kpL hs12 (by decide) (sm12 12 (by decide)) q296; have q309 := kpL hs12 (by decide) (sm12 13 (by decide)) q297; have q310 := kpL hs12 (by decide) (sm12 0 (by decide)) q298; have q311 := kpL hs12 (by decide) (sm12 14 (by decide)) q299; have q312 := kpL hs12 (by decide) (sm12 15 (by decide)) q300; have q313 := kpL hs12 (by decide) (sm12 17 (by decide)) q302; have o62 := Own.keepL o60 hs12 (by decide) (by decide); have o63 := Own.keepL o61 hs12 (by decide) (by decide)
        have q314 : At (Ty.int (edE n (so))) s36 a39 (.tmp 18) := r12
        clear r12; refine wpList_nil (tn (wp_seq (wp_seq ?_)))
        refine gI a39 s36 ok37 (gM q314 (gS rfl (fun A B E G H d0 => rP (y_neq (ed d0 rfl rfl rfl) rfl)) (gE ok37 fun a40 s37 ok38 D25 => ?_))); have F39 := F38.step0 D25.stp; have o64 := Own.k0 o62 D25.stp; have o65 := Own.k0 o63 D25.stp; refine tn ?_
        refine cond_p (p := ((edE n (so)) ≠ (0 : Int))) (D25.dn 1 rfl rfl) (fun c6 => ?_) (fun c6 => ?_)
        ·
         have he : edE n so ≠ 0 := c6
         refine wp_seq ?_
         refine gI a40 s37 ok38 (gM (D25.kt q314 rfl) (gC (Ty.val (Value.slice none 0 0)) (gB 0 (gE ok38 fun a41 s38 ok39 D26 => ?_)))); have o66 := Own.k0 o64 D26.stp; have o67 := Own.k0 o65 D26.stp; refine tn (wp_ret (tr (tr (br (tr (tr (br (tr ?_))))))))
         have hbad := rf_bad hX hi ((rfE_cl hnb (by show clE n blk so ≠ 0; rw [cl_ed hsn he]; exact he)).trans (cl_ed hsn he)) he
         exact retL2 rfl ok39 (F39.step0 D26.stp) (hasT2 (nil_lst (by (rw [hbad])) (D26.dn 1 rfl rfl)) (cvi (by (rw [hbad])) (D26.dn 2 rfl rfl)))
        ·
         have he0 : edE n so = 0 := (by omega); have hbl : (blk ++ [edL n so]).length = blk.length + 1 := (by rw [List.length_append, List.length_singleton])
         refine wp_skip (tn (wp_seq ?_))
         refine gI a40 s37 ok38 (gC (Ty.val (Value.slice none 0 0)) (gE ok38 fun a42 s39 ok40 D27 => ?_)); have q331 := D27.kt (D25.kt q304 rfl) rfl; have o68 := Own.k0 o64 D27.stp; have o69 := Own.k0 o65 D27.stp; refine tn (wp_seq ?_)
         refine gI a42 s39 ok40 (gM q331 (gM (D27.kt (D25.kt q313 rfl) rfl) (gT (Ty.sl 1 1 [(Ty.lst Ty.int (edL n (so)))]) rfl (fun A B E G H d0 => rP (y_build1o Tryd.underlying34 Tryd.inf42 rfl (one_sl) (ed d0 rfl rfl rfl))) (gE2 ok40 fun a43 s40 ok41 D28 => ?_)))); have o70 := Own.k0 o68 D28.stp; have o71 := Own.k0 o69 D28.stp
         have q353 : At (Ty.val x7_0) s40 a43 (.tmp 70) := D28.done 0 (by decide)
         have q354 := D28.dn 2 (by decide) rfl rfl
         have b2 := sl_le q354
         refine tL ok41 (YldM.toL (m_append Tryd.underlying34 Tryd.inf42 (by decide) rfl (by decide) (al (R := (Pr.own 72 42 1 (List.length blk) (List.map Ty.ints blk))) q353 o71) q354 (by intro U hU; simp at hU; subst hU; exact one_sl) (by omega) (by omega))) fun a44 s41 hs13 ok42 r13 sm13 => ?_
         have F43 := ((F39.step0 D27.stp).step0 D28.stp).stepL hs13 (by decide); have q355 := kpL hs13 (by decide) (sm13 6 (by decide)) (D28.kt (D27.kt (D25.kt q303 rfl) rfl) rfl); have q356 := kpL hs13 (by decide) (sm13 7 (by decide)) (D28.kt q331 rfl); have q357 := kpL hs13 (by decide) (sm13 9 (by decide)) (D28.kt (D27.kt (D25.kt q305 rfl) rfl) rfl); have q358 := kpL hs13 (by decide) (sm13 10 (by decide)) (D28.kt (D27.kt (D25.kt q306 rfl) rfl) rfl); have q359 := kpL hs13 (by decide) (sm13 11 (by decide)) (D28.kt (D27.kt (D25.kt q307 rfl) rfl) rfl); have q360 := kpL hs13 (by decide) (sm13 12 (by decide)) (D28.kt (D27.kt (D25.kt q308 rfl) rfl) rfl); have q361 := kpL hs13 (by decide) (sm13 13 (by decide)) (D28.kt (D27.kt (D25.kt q309 rfl) rfl) rfl); have q362 := kpL hs13 (by decide) (sm13 0 (by decide)) (D28.kt (D27.kt (D25.kt q310 rfl) rfl) rfl); have q363 := kpL hs13 (by decide) (sm13 14 (by decide)) (D28.kt (D27.kt (D25.kt q311 rfl) rfl) rfl); have q364 := kpL hs13 (by decide) (sm13 15 (by decide)) (D28.kt (D27.kt (D25.kt q312 rfl) rfl) rfl); have q365 := kpL hs13 (by decide) (sm13 8 (by decide)) (D28.kt (D27.dn 0 rfl rfl) rfl); have o73 := Own.keepL o70 hs13 (by decide) (by decide)
         obtain ⟨x4, hx3⟩ : ∃ x, a44.eval (.tmp 73) = x := ⟨_, rfl⟩
         have q366 : At (Ty.val x4) s41 a44 (.tmp 73) := hx3
         have o72 := al2 (R := (Pr.own 72 42 1 (List.length (blk ++ [(edL n (so))])) (List.map Ty.ints (blk ++ [(edL n (so))])))) hx3 (cvo (by simp) (by first | (rw [List.map_append]; rfl) | simp) r13)
         clear r13
         refine tL ok42 (Yld.toL (y_as q366)) fun a45 s42 hs14 ok43 r14 sm14 => ?_
         have F44 := F43.stepL hs14 (by decide); have q367 := kpL hs14 (by decide) (sm14 6 (by decide)) q355; have q368 := kpL hs14 (by decide) (sm14 9 (by decide)) q357; have q369 := kpL hs14 (by decide) (sm14 10 (by decide)) q358; have q370 := kpL hs14 (by decide) (sm14 11 (by decide)) q359; have q371 := kpL hs14 (by decide) (sm14 12 (by decide)) q360; have q372 := kpL hs14 (by decide) (sm14 13 (by decide)) q361; have q373 := kpL hs14 (by decide) (sm14 0 (by decide)) q362; have q374 := kpL hs14 (by decide) (sm14 14 (by decide)) q363; have q375 := kpL hs14 (by decide) (sm14 15 (by decide)) q364; have q376 := kpL hs14 (by decide) (sm14 8 (by decide)) q365; have o74 := Own.keepL o73 hs14 (by decide) (by decide); have o75 := Own.keepL o72 hs14 (by decide) (by decide)
         have q377 : At (Ty.val x4) s42 a45 (.tmp 7) := r14
         clear r14; refine wpList_nil (tn (wp_seq ?_))
         refine gI a45 s42 ok43 (gM q377 (gT (Ty.nat (List.length (blk ++ [(edL n (so))]))) rfl (fun A B E G H d0 => rP (own_len Tryd.underlying34 (al (R := (Pr.own 72 42 1 (List.length (blk ++ [(edL n (so))])) (List.map Ty.ints (blk ++ [(edL n (so))])))) (ed d0 rfl rfl rfl) (Own.k0 o75 E)))) (gS rfl (fun A B E G H d0 => rP (y_gtr (ed d0 rfl rfl rfl) rfl)) (gE ok43 fun a46 s43 ok44 D29 => ?_)))); have F45 := F44.step0 D29.stp; have o76 := Own.k0 o74 D29.stp; have o77 := Own.k0 o75 D29.stp; refine tn ?_
         refine cond_p (p := ((200 : Int) < (((List.length (blk ++ [(edL n (so))])) : Nat) : Int))) (D29.dn 2 rfl rfl) (fun c7 => ?_) (fun c7 => ?_)
         ·
          refine wp_seq ?_
          refine gI a46 s43 ok44 (gC (Ty.val (Value.slice none 0 0)) (gC (Ty.int (3 : Int)) (gE ok44 fun a47 s44 ok45 D30 => ?_))); have o78 := Own.k0 o76 D30.stp; have o79 := Own.k0 o77 D30.stp; refine tn (wp_ret (tr (br (tr (tr (br (tr ?_)))))))
          have hc3 : clE n blk so = 3 := by rw [(cl_ed0 hsn he0).1, if_pos (by omega)]
          have hbad := rf_bad hX hi ((rfE_cl hnb (by show clE n blk so ≠ 0; rw [hc3]; decide)).trans hc3) (by decide)
          exact retL2 rfl ok45 (F45.step0 D30.stp) (hasT2 (nil_lst (by (rw [hbad])) (D30.dn 0 rfl rfl)) (cvi (by (rw [hbad])) (D30.dn 1 rfl rfl)))
         ·
          refine wp_skip ?_
          have o80 : Own s43 73 3 1 (Value.slice none 0 0) 0 (List.map Ty.int ([] : List Int)) := Own.nil _ _ _ _
          exact tn ⟨s43, x4, (Value.slice none 0 0), rfl, F45, ok44, (D29.kt q377 rfl), (D29.kt q376 rfl), (D29.kt q367 rfl), (D29.kt q368 rfl), (D29.kt q369 rfl), (D29.kt q370 rfl), (D29.kt q371 rfl), (D29.kt q372 rfl), (D29.kt q373 rfl), (D29.kt q374 rfl), (D29.kt q375 rfl), (cvo (by (rw [(cl_ed0 hsn he0).2])) (by (rw [(cl_ed0 hsn he0).2])) o77), (cvo (by (simp)) (by (simp)) o80), o76, by rw [(cl_ed0 hsn he0).1, if_neg (by omega)], by rw [(cl_ed0 hsn he0).2, List.length_append, List.length_singleton]; omega, trivial⟩
       ·
        have hse : so = [] := (by cases so; rfl; simp at c5)
        refine wp_skip ?_
        exact tn ⟨s29, x7_0, x8_0, rfl, F31, ok30, q222, q223, q221, q224, q225, q226, q227, q228, q229, q230, q231, (cvo (by (rw [hse, clB_nil])) (by (rw [hse, clB_nil])) o47), (cvo (by (rw [hse])) (by (rw [hse])) o48), o46, by rw [hse]; exact clE_nil, by rw [hse, clB_nil]; exact hb, trivial⟩
      ·
       rintro a48 w4 ⟨t7, xj7, xj8, rfl, F47, ok46, q392, q393, q394, q395, q396, q397, q398, q399, q400, q401, q402, o81, o82, o83, hcl, hcb, -⟩
       refine wp_block (wp_seq ?_)
       refine gI a48 t7 ok46 (gM q396 (gS rfl (fun A B E G H d0 => rP (y_move (ed d0 rfl rfl rfl))) (gS rfl (fun A B E G H d0 => gu G (ed d0 rfl rfl rfl) fun hg => y_move (kp (H 14 rfl) E q401)) (gS rfl (fun A B E G H d0 d1 => gu G (ed d1 rfl rfl rfl) fun hg => y_eql ((ed d0 rfl rfl rfl).1 hg) rfl) (gS rfl (fun A B E G H d0 d1 d2 => gu G (ed d1 rfl rfl rfl) fun hg => y_mv ((ed d0 rfl rfl rfl).1 hg)) (gS rfl (fun A B E G H d0 => gu2 G (ed d0 rfl rfl rfl) fun hg => y_move (kp (H 14 rfl) E q401)) (gS rfl (fun A B E G H d0 d1 => gu2 G (ed d1 rfl rfl rfl) fun hg => y_eql ((ed d0 rfl rfl rfl).1 hg) rfl) (gS rfl (fun A B E G H d0 d1 d2 => gu G (ed d2 rfl rfl rfl) fun hg => y_pick_or ((ed d0 rfl rfl rfl).1 hg) rfl (grd_part hg (ed d1 rfl rfl rfl))) (gS rfl (fun A B E G H d0 d1 => rP (y_pick_and (ed d0 rfl rfl rfl) (ed d1 rfl rfl rfl) rfl)) (gB 0 (gE ok46 fun a49 s45 ok47 D31 => ?_))))))))))); have F48 := F47.step0 D31.stp; have q403 := D31.kt q392 rfl; have q404 := D31.kt q393 rfl; have q405 := D31.kt q394 rfl; have q408 := D31.kt q397 rfl; have q409 := D31.kt q398 rfl; have q410 := D31.kt q399 rfl; have q411 := D31.kt q400 rfl; have q412 := D31.kt q401 rfl; have o84 := Own.k0 o81 D31.stp; have o85 := Own.k0 o82 D31.stp; have o86 := Own.k0 o83 D31.stp; refine tn ?_
       refine cond_t (D31.dn 9 rfl rfl) (fun c8 => ?_) (fun c8 => ?_)
       ·
        obtain ⟨d3, d4⟩ := Bool.and_eq_true_iff.mp c8
        have hA : isA beg (L.getD i 0) = true := c8
        refine wp_seq ?_
        refine gI a49 s45 ok47 (gM q412 (gS rfl (fun A B E G H d0 => rP (y_eql (ed d0 rfl rfl rfl) rfl)) (gB 0 (gE ok47 fun a50 s46 ok48 D32 => ?_)))); have o87 := Own.k0 o84 D32.stp; have o88 := Own.k0 o85 D32.stp; have o89 := Own.k0 o86 D32.stp; refine tn ?_
        refine gI a50 s46 ok48 (gC (Ty.bool false) (gE ok48 fun a51 s47 ok49 D33 => ?_)); have o90 := Own.k0 o87 D33.stp; have o91 := Own.k0 o88 D33.stp; have o92 := Own.k0 o89 D33.stp; refine bn (bn (tn ?_))
        refine gI a51 s47 ok49 (gM (D33.kt (D32.kt q410 rfl) rfl) (gT (Ty.nat (i + 1)) rfl (fun A B E G H d0 => rP ((y_add (ed d0 rfl rfl rfl) rfl (w64 (by omega) (by omega))).mono (fun τ _ h => cvi (σ := τ) (by first | omega | exact (Int.natCast_mul _ _).symm) h))) (gB 0 (gE ok49 fun a52 s48 ok50 D34 => ?_)))); have o93 := Own.k0 o90 D34.stp; have o94 := Own.k0 o91 D34.stp; have o95 := Own.k0 o92 D34.stp
        exact tn ⟨L.length - ((i + 1)), by omega, s48, (i + 1), all, (clB n blk so), (decide ((L.getD i 0) = 38)), ([] : List Int), false, dot, x6_0, xj7, xj8, rfl, (((F48.step0 D32.stp).step0 D33.stp).step0 D34.stp), ok50, (D34.kt (D33.kt (D32.kt q405 rfl) rfl) rfl), (D34.kt (D33.kt (D32.kt q403 rfl) rfl) rfl), (D34.kt (D33.kt (D32.kt q404 rfl) rfl) rfl), (cvb (by (first | rfl | omega | (simp_all; done) | (simp_all; omega))) (D34.kt (D33.kt (D32.dn 2 rfl rfl) rfl) rfl)), (cvb (by (first | rfl | omega | (simp_all; done) | (simp_all; omega))) (D34.kt (D33.dn 0 rfl rfl) rfl)), (D34.kt (D33.kt (D32.kt q408 rfl) rfl) rfl), (D34.kt (D33.kt (D32.kt q409 rfl) rfl) rfl), (cvi (by (first | rfl | omega | (simp_all; done) | (simp_all; omega))) (D34.dn 2 rfl rfl)), (D34.kt (D33.kt (D32.kt q411 rfl) rfl) rfl), o95, (cvo (by (simp)) (by (simp)) o93), (cvo (by (simp)) (by (simp)) o94), rf_go hX hi (rfE_A hnb hcl hA) (rfS_A hnb hA), by omega, by omega, by omega, by simp, fun k h_ => absurd h_ (Nat.not_lt_zero k), rfl⟩
       ·
        have hA : isA beg (L.getD i 0) = false := c8
        refine wp_seq ?_
        refine gI a49 s45 ok47 (gM q412 (gS rfl (fun A B E G H d0 => rP (y_eql (ed d0 rfl rfl rfl) rfl)) (gS rfl (fun A B E G H d0 => rP (y_move (ed d0 rfl rfl rfl))) (gS rfl (fun A B E G H d0 => gu G (ed d0 rfl rfl rfl) fun hg => y_move (kp (H 14 rfl) E q412)) (gS rfl (fun A B E G H d0 d1 => gu G (ed d1 rfl rfl rfl) fun hg => y_eql ((ed d0 rfl rfl rfl).1 hg) rfl) (gS rfl (fun A B E G H d0 d1 => rP (y_pick_or (ed d0 rfl rfl rfl) rfl (ed d1 rfl rfl rfl))) (gS rfl (fun A B E G H d0 d1 => rP (y_move (ed d0 rfl rfl rfl))) (gT (Ty.grd (((decide ((L.getD i 0) = (120 : Int))) || (decide ((L.getD i 0) = (88 : Int)))) = false) (Ty.int (L.getD i 0))) rfl (by intro A B E G H d0; refine run_guard G rfl rfl (by decide) (ed d0 rfl rfl rfl) (fun hg => ?_); obtain ⟨d5, d6⟩ := Bool.or_eq_false_iff.mp hg; have d5 := of_decide_eq_false d5; have d6 := of_decide_eq_false d6; exact y_move (kp (H 14 rfl) E q412)) (gT (Ty.grd (((decide ((L.getD i 0) = (120 : Int))) || (decide ((L.getD i 0) = (88 : Int)))) = false) (Ty.bool (decide ((L.getD i 0) = (45 : Int))))) rfl (by intro A B E G H d0 d1; refine run_guard G rfl rfl (by decide) (ed d1 rfl rfl rfl) (fun hg => ?_); obtain ⟨d7, d8⟩ := Bool.or_eq_false_iff.mp hg; have d7 := of_decide_eq_false d7; have d8 := of_decide_eq_false d8; exact y_eql ((ed d0 rfl rfl rfl).1 hg) rfl) (gS rfl (fun A B E G H d0 d1 => rP (y_pick_or (ed d0 rfl rfl rfl) rfl (ed d1 rfl rfl rfl))) (gS rfl (fun A B E G H d0 d1 => rP (y_move (ed d0 rfl rfl rfl))) ?_)))))))))))
        refine gT (Ty.grd ((((decide ((L.getD i 0) = (120 : Int))) || (decide ((L.getD i 0) = (88 : Int)))) || (decide ((L.getD i 0) = (45 : Int)))) = false) (Ty.int (L.getD i 0))) rfl (by intro A B E G H d0; refine run_guard G rfl rfl (by decide) (ed d0 rfl rfl rfl) (fun hg => ?_); obtain ⟨d9, d10⟩ := Bool.or_eq_false_iff.mp hg; obtain ⟨d11, d12⟩ := Bool.or_eq_false_iff.mp d9; have d11 := of_decide_eq_false d11; have d12 := of_decide_eq_false d12; have d10 := of_decide_eq_false d10; exact y_move (kp (H 14 rfl) E q412)) (gT (Ty.grd ((((decide ((L.getD i 0) = (120 : Int))) || (decide ((L.getD i 0) = (88 : Int)))) || (decide ((L.getD i 0) = (45 : Int)))) = false) (Ty.bool (decide ((L.getD i 0) = (215 : Int))))) rfl (by intro A B E G H d0 d1; refine run_guard G rfl rfl (by decide) (ed d1 rfl rfl rfl) (fun hg => ?_); obtain ⟨d13, d14⟩ := Bool.or_eq_false_iff.mp hg; obtain ⟨d15, d16⟩ := Bool.or_eq_false_iff.mp d13; have d15 := of_decide_eq_false d15; have d16 := of_decide_eq_false d16; have d14 := of_decide_eq_false d14; exact y_eql ((ed d0 rfl rfl rfl).1 hg) rfl) (gS rfl (fun A B E G H d0 d1 => rP (y_pick_or (ed d0 rfl rfl rfl) rfl (ed d1 rfl rfl rfl))) (gB 0 (gE ok47 fun a53 s49 ok51 D35 => ?_)))); have F52 := F48.step0 D35.stp; have q441 := D35.kt q403 rfl; have q442 := D35.kt q404 rfl; have q443 := D35.kt q405 rfl; have q444 := D35.kt (D31.kt q395 rfl) rfl; have q447 := D35.kt q409 rfl; have q448 := D35.kt q410 rfl; have q449 := D35.kt q411 rfl; have q450 := D35.kt q412 rfl; have o96 := Own.k0 o84 D35.stp; have o97 := Own.k0 o85 D35.stp; have o98 := Own.k0 o86 D35.stp; refine tn ?_
        refine cond_t (D35.dn 14 rfl rfl) (fun c9 => ?_) (fun c9 => ?_)
        ·
         have hXx : isX (L.getD i 0) = true := c9
         refine wp_seq ?_
         refine gI a53 s49 ok51 (gM q449 (gS rfl (fun A B E G H d0 => rP (y_call _ Tryd.func64 rfl rfl my2 (rChangeMay_fn (n) (([] : List Int)) _ _ _ (ed d0 rfl rfl rfl) (nil_lst (σ := B) rfl rfl) (by omega)))) (gB 0 (gE ok51 fun a54 s50 ok52 D36 => ?_)))); have o99 := Own.k0 o96 D36.stp; have o100 := Own.k0 o97 D36.stp; have o101 := Own.k0 o98 D36.stp; have q460 := D36.dn 2 rfl rfl; refine tn (wp_seq (wp_seq ?_))
         refine gI a54 s50 ok52 (gM q460 (gS rfl (fun A B E G H d0 => rP (y_neq (ed d0 rfl rfl rfl) rfl)) (gE ok52 fun a55 s51 ok53 D37 => ?_))); have F54 := (F52.step0 D36.stp).step0 D37.stp; have q461 := D37.kt (D36.kt q441 rfl) rfl; have o102 := Own.k0 o99 D37.stp; have o103 := Own.k0 o100 D37.stp; have o104 := Own.k0 o101 D37.stp; refine tn ?_
         refine cond_p (p := ((chgMay n (([] : List Int))) ≠ (0 : Int))) (D37.dn 1 rfl rfl) (fun c10 => ?_) (fun c10 => ?_)
         ·
          refine wp_seq ?_
          refine gI a55 s51 ok53 (gM (D37.kt q460 rfl) (gC (Ty.val (Value.slice none 0 0)) (gB 0 (gE ok53 fun a56 s52 ok54 D38 => ?_)))); have o105 := Own.k0 o102 D38.stp; have o106 := Own.k0 o103 D38.stp; have o107 := Own.k0 o104 D38.stp; refine tn (wp_ret (tr (br (br (tr (tr (br (tr ?_))))))))
          have hbad := rf_bad hX hi ((rfE_X hnb hcl hA hXx).trans (putE_1 c10)) c10
          exact retL2 rfl ok54 (F54.step0 D38.stp) (hasT2 (nil_lst (by (rw [hbad])) (D38.dn 1 rfl rfl)) (cvi (by (rw [hbad])) (D38.dn 2 rfl rfl)))
         ·
          have hbl2 : ((clB n blk so) ++ [([] : List Int)]).length = (clB n blk so).length + 1 := (by rw [List.length_append, List.length_singleton])
          refine wp_skip (tn (wp_seq ?_))
          refine gI a55 s51 ok53 (gM q461 (gT (Ty.sl 1 1 [(Ty.lst Ty.int ([] : List Int))]) rfl (fun A B E G H => rP (y_build1o Tryd.underlying34 Tryd.inf42 rfl (one_sl) (nil_lst (f := Ty.int) (xs := ([] : List Int)) rfl rfl))) (gE2 ok53 fun a57 s53 ok55 D39 => ?_))); have o108 := Own.k0 o102 D39.stp; have o109 := Own.k0 o103 D39.stp; have o110 := Own.k0 o104 D39.stp
          have q479 : At (Ty.val xj7) s53 a57 (.tmp 109) := D39.done 0 (by decide)
          have q480 := D39.dn 1 (by decide) rfl rfl
          have b3 := sl_le q480
          refine tL ok55 (YldM.toL (m_append Tryd.underlying34 Tryd.inf42 (by decide) rfl (by decide) (al (R := (Pr.own 72 42 1 (List.length (clB n blk so)) (List.map Ty.ints (clB n blk so)))) q479 o108) q480 (by intro U hU; simp at hU; subst hU; exact one_sl) (by omega) (by omega))) fun a58 s54 hs15 ok56 r15 sm15 => ?_
          have F57 := (F54.step0 D39.stp).stepL hs15 (by decide); have q481 := kpL hs15 (by decide) (sm15 7 (by decide)) (D39.kt q461 rfl); have q482 := kpL hs15 (by decide) (sm15 8 (by decide)) (D39.kt (D37.kt (D36.kt q442 rfl) rfl) rfl); have q483 := kpL hs15 (by decide) (sm15 6 (by decide)) (D39.kt (D37.kt (D36.kt q443 rfl) rfl) rfl); have q484 := kpL hs15 (by decide) (sm15 9 (by decide)) (D39.kt (D37.kt (D36.kt q444 rfl) rfl) rfl); have q485 := kpL hs15 (by decide) (sm15 12 (by decide)) (D39.kt (D37.kt (D36.kt q447 rfl) rfl) rfl); have q486 := kpL hs15 (by decide) (sm15 13 (by decide)) (D39.kt (D37.kt (D36.kt q448 rfl) rfl) rfl); have q487 := kpL hs15 (by decide) (sm15 0 (by decide)) (D39.kt (D37.kt (D36.kt q449 rfl) rfl) rfl); have o112 := Own.keepL o109 hs15 (by decide) (by decide); have o113 := Own.keepL o110 hs15 (by decide) (by decide)
          obtain ⟨x5, hx4⟩ : ∃ x, a58.eval (.tmp 111) = x := ⟨_, rfl⟩
          have q488 : At (Ty.val x5) s54 a58 (.tmp 111) := hx4
          have o111 := al2 (R := (Pr.own 72 42 1 (List.length ((clB n blk so) ++ [([] : List Int)])) (List.map Ty.ints ((clB n blk so) ++ [([] : List Int)])))) hx4 (cvo (by simp) (by first | (rw [List.map_append]; rfl) | simp) r15)
          clear r15
          refine tL ok56 (Yld.toL (y_as q488)) fun a59 s55 hs16 ok57 r16 sm16 => ?_
          have F58 := F57.stepL hs16 (by decide); have q489 := kpL hs16 (by decide) (sm16 8 (by decide)) q482; have q490 := kpL hs16 (by decide) (sm16 6 (by decide)) q483; have q491 := kpL hs16 (by decide) (sm16 9 (by decide)) q484; have q492 := kpL hs16 (by decide) (sm16 12 (by decide)) q485; have q493 := kpL hs16 (by decide) (sm16 13 (by decide)) q486; have q494 := kpL hs16 (by decide) (sm16 0 (by decide)) q487; have o114 := Own.keepL o112 hs16 (by decide) (by decide); have o115 := Own.keepL o113 hs16 (by decide) (by decide); have o116 := Own.keepL o111 hs16 (by decide) (by decide)
          have q495 : At (Ty.val x5) s55 a59 (.tmp 7) := r16
          clear r16; refine wpList_nil (tn (wp_seq ?_))
          refine gI a59 s55 ok57 (gC (Ty.bool false) (gE ok57 fun a60 s56 ok58 D40 => ?_)); have o117 := Own.k0 o114 D40.stp; have o118 := Own.k0 o115 D40.stp; have o119 := Own.k0 o116 D40.stp; refine tn (wp_seq ?_)
          refine gI a60 s56 ok58 (gC (Ty.bool false) (gE ok58 fun a61 s57 ok59 D41 => ?_)); have q510 := D41.kt (D40.kt q495 rfl) rfl; have o120 := Own.k0 o117 D41.stp; have o121 := Own.k0 o118 D41.stp; have o122 := Own.k0 o119 D41.stp; refine tn (wp_seq ?_)
          refine gI a61 s57 ok59 (gM q510 (gT (Ty.nat (List.length ((clB n blk so) ++ [([] : List Int)]))) rfl (fun A B E G H d0 => rP (own_len Tryd.underlying34 (al (R := (Pr.own 72 42 1 (List.length ((clB n blk so) ++ [([] : List Int)])) (List.map Ty.ints ((clB n blk so) ++ [([] : List Int)])))) (ed d0 rfl rfl rfl) (Own.k0 o122 E)))) (gS rfl (fun A B E G H d0 => rP (y_gtr (ed d0 rfl rfl rfl) rfl)) (gE ok59 fun a62 s58 ok60 D42 => ?_)))); have F61 := ((F58.step0 D40.stp).step0 D41.stp).step0 D42.stp; have o123 := Own.k0 o120 D42.stp; have o124 := Own.k0 o121 D42.stp; have o125 := Own.k0 o122 D42.stp; refine tn ?_
          refine cond_p (p := ((200 : Int) < (((List.length ((clB n blk so) ++ [([] : List Int)])) : Nat) : Int))) (D42.dn 2 rfl rfl) (fun c11 => ?_) (fun c11 => ?_)
          ·
           have h2b : 200 < (clB n blk so).length + 1 := (by omega)
           refine wp_seq ?_
           refine gI a62 s58 ok60 (gC (Ty.val (Value.slice none 0 0)) (gC (Ty.int (3 : Int)) (gE ok60 fun a63 s59 ok61 D43 => ?_))); have o126 := Own.k0 o123 D43.stp; have o127 := Own.k0 o124 D43.stp; have o128 := Own.k0 o125 D43.stp; refine tn (wp_ret (br (br (tr (tr (br (tr ?_)))))))
           have hbad := rf_bad hX hi ((rfE_X hnb hcl hA hXx).trans (putE_2 c10 h2b)) (by decide)
           exact retL2 rfl ok61 (F61.step0 D43.stp) (hasT2 (nil_lst (by (rw [hbad])) (D43.dn 0 rfl rfl)) (cvi (by (rw [hbad])) (D43.dn 1 rfl rfl)))
          ·
           have h2b : ¬ 200 < (clB n blk so).length + 1 := (by omega)
           refine wp_skip (bn (bn (tn ?_)))
           refine gI a62 s58 ok60 (gM (D42.kt (D41.kt (D40.kt q493 rfl) rfl) rfl) (gT (Ty.nat (i + 1)) rfl (fun A B E G H d0 => rP ((y_add (ed d0 rfl rfl rfl) rfl (w64 (by omega) (by omega))).mono (fun τ _ h => cvi (σ := τ) (by first | omega | exact (Int.natCast_mul _ _).symm) h))) (gB 0 (gE ok60 fun a64 s60 ok62 D44 => ?_)))); have o129 := Own.k0 o123 D44.stp; have o130 := Own.k0 o124 D44.stp; have o131 := Own.k0 o125 D44.stp
           exact tn ⟨L.length - ((i + 1)), by omega, s60, (i + 1), all, ((clB n blk so) ++ [[]]), mir, ([] : List Int), false, false, x6_0, x5, xj8, rfl, (F61.step0 D44.stp), ok62, (D44.kt (D42.kt (D41.kt (D40.kt q490 rfl) rfl) rfl) rfl), (D44.kt (D42.kt q510 rfl) rfl), (D44.kt (D42.kt (D41.kt (D40.kt q489 rfl) rfl) rfl) rfl), (D44.kt (D42.kt (D41.kt (D40.kt q491 rfl) rfl) rfl) rfl), (cvb (by (first | rfl | omega | (simp_all; done) | (simp_all; omega))) (D44.kt (D42.kt (D41.kt (D40.dn 0 rfl rfl) rfl) rfl) rfl)), (cvb (by (first | rfl | omega | (simp_all; done) | (simp_all; omega))) (D44.kt (D42.kt (D41.dn 0 rfl rfl) rfl) rfl)), (D44.kt (D42.kt (D41.kt (D40.kt q492 rfl) rfl) rfl) rfl), (cvi (by (first | rfl | omega | (simp_all; done) | (simp_all; omega))) (D44.dn 2 rfl rfl)), (D44.kt (D42.kt (D41.kt (D40.kt q494 rfl) rfl) rfl) rfl), o130, (cvo (by (simp)) (by (simp)) o131), (cvo (by (simp)) (by (simp)) o129), rf_go hX hi ((rfE_X hnb hcl hA hXx).trans (putE_0 c10 h2b)) (rfS_X hnb hA hXx), by omega, by omega, by rw [List.length_append, List.length_singleton]; omega, by simp, fun k h_ => absurd h_ (Nat.not_lt_zero k), rfl⟩
        ·
         obtain ⟨d17, d18⟩ := Bool.or_eq_false_iff.mp c9
         obtain ⟨d19, d20⟩ := Bool.or_eq_false_iff.mp d17
         obtain ⟨d21, d22⟩ := Bool.or_eq_false_iff.mp d19
         replace d21 := of_decide_eq_false d21
         replace d22 := of_decide_eq_false d22
         replace d20 := of_decide_eq_false d20
         replace d18 := of_decide_eq_false d18
         have hXx : isX (L.getD i 0) = false := c9
         refine wp_seq ?_
         refine gI a53 s49 ok51 (gM q450 (gS rfl (fun A B E G H d0 => rP (y_eql (ed d0 rfl rfl rfl) rfl)) (gB 0 (gE ok51 fun a65 s61 ok63 D45 => ?_)))); have F64 := F52.step0 D45.stp; have q534 := D45.kt q441 rfl; have q535 := D45.kt q442 rfl; have q536 := D45.kt q443 rfl; have q537 := D45.kt q444 rfl; have q539 := D45.kt (D35.kt q408 rfl) rfl; have q540 := D45.kt q447 rfl; have q541 := D45.kt q448 rfl; have q542 := D45.kt q449 rfl; have o132 := Own.k0 o96 D45.stp; have o133 := Own.k0 o97 D45.stp; have o134 := Own.k0 o98 D45.stp; refine tn ?_
         refine cond_p (p := ((L.getD i 0) = (46 : Int))) (D45.dn 2 rfl rfl) (fun c12 => ?_) (fun c12 => ?_)
         ·
          have h46 : L.getD i 0 = 46 := c12
          refine wp_seq (wp_seq ?_)
          refine gI a65 s61 ok63 (gM q534 (gT (Ty.nat (List.length (clB n blk so))) rfl (fun A B E G H d0 => rP (own_len Tryd.underlying34 (al (R := (Pr.own 72 42 1 (List.length (clB n blk so)) (List.map Ty.ints (clB n blk so)))) (ed d0 rfl rfl rfl) (Own.k0 o132 E)))) (gS rfl (fun A B E G H d0 => rP (y_eql (ed d0 rfl rfl rfl) rfl)) (gS rfl (fun A B E G H d0 => rP (y_move (ed d0 rfl rfl rfl))) (gS rfl (fun A B E G H d0 => gu G (ed d0 rfl rfl rfl) fun hg => y_move (kp (H 11 rfl) E q539)) (gS rfl (fun A B E G H d0 d1 => rP (y_pick_or (ed d0 rfl rfl rfl) rfl (ed d1 rfl rfl rfl))) (gE ok63 fun a66 s62 ok64 D46 => ?_))))))); have F65 := F64.step0 D46.stp; have o135 := Own.k0 o132 D46.stp; have o136 := Own.k0 o133 D46.stp; have o137 := Own.k0 o134 D46.stp; refine tn ?_
          refine cond_t (D46.dn 5 rfl rfl) (fun c13 => ?_) (fun c13 => ?_)
          ·
           have hdd : (clB n blk so) = [] ∨ dot = true := (by simpa using c13)
           refine wp_seq ?_
           refine gI a66 s62 ok64 (gC (Ty.val (Value.slice none 0 0)) (gC (Ty.int (4 : Int)) (gE ok64 fun a67 s63 ok65 D47 => ?_))); have o138 := Own.k0 o135 D47.stp; have o139 := Own.k0 o136 D47.stp; have o140 := Own.k0 o137 D47.stp; refine tn (wp_ret (tr (br (br (tr (tr (br (tr ?_))))))))
           have hbad := rf_bad hX hi ((rfE_D hnb hcl hA hXx h46).trans (if_pos hdd)) (by decide)
           exact retL2 rfl ok65 (F65.step0 D47.stp) (hasT2 (nil_lst (by (rw [hbad])) (D47.dn 0 rfl rfl)) (cvi (by (rw [hbad])) (D47.dn 1 rfl rfl)))
          ·
           obtain ⟨d23, d24⟩ := Bool.or_eq_false_iff.mp c13
           replace d23 := of_decide_eq_false d23
           have hdd : ¬ ((clB n blk so) = [] ∨ dot = true) := (by simpa using c13)
           refine wp_skip (tn ?_)
           refine gI a66 s62 ok64 (gC (Ty.bool true) (gE ok64 fun a68 s64 ok66 D48 => ?_)); have o141 := Own.k0 o135 D48.stp; have o142 := Own.k0 o136 D48.stp; have o143 := Own.k0 o137 D48.stp; refine bn (bn (tn ?_))
           refine gI a68 s64 ok66 (gM (D48.kt (D46.kt q541 rfl) rfl) (gT (Ty.nat (i + 1)) rfl (fun A B E G H d0 => rP ((y_add (ed d0 rfl rfl rfl) rfl (w64 (by omega) (by omega))).mono (fun τ _ h => cvi (σ := τ) (by first | omega | exact (Int.natCast_mul _ _).symm) h))) (gB 0 (gE ok66 fun a69 s65 ok67 D49 => ?_)))); have o144 := Own.k0 o141 D49.stp; have o145 := Own.k0 o142 D49.stp; have o146 := Own.k0 o143 D49.stp
           exact tn ⟨L.length - ((i + 1)), by omega, s65, (i + 1), all, (clB n blk so), mir, ([] : List Int), beg, true, x6_0, xj7, xj8, rfl, ((F65.step0 D48.stp).step0 D49.stp), ok67, (D49.kt (D48.kt (D46.kt q536 rfl) rfl) rfl), (D49.kt (D48.kt (D46.kt q534 rfl) rfl) rfl), (D49.kt (D48.kt (D46.kt q535 rfl) rfl) rfl), (D49.kt (D48.kt (D46.kt q537 rfl) rfl) rfl), (D49.kt (D48.kt (D46.kt (D45.kt (D35.kt (D31.kt q396 rfl) rfl) rfl) rfl) rfl) rfl), (cvb (by (first | rfl | omega | (simp_all; done) | (simp_all; omega))) (D49.kt (D48.dn 0 rfl rfl) rfl)), (D49.kt (D48.kt (D46.kt q540 rfl) rfl) rfl), (cvi (by (first | rfl | omega | (simp_all; done) | (simp_all; omega))) (D49.dn 2 rfl rfl)), (D49.kt (D48.kt (D46.kt q542 rfl) rfl) rfl), o146, (cvo (by (simp)) (by (simp)) o144), (cvo (by (simp)) (by (simp)) o145), rf_go hX hi ((rfE_D hnb hcl hA hXx h46).trans (if_neg hdd)) (rfS_D hnb hA hXx h46), by omega, by omega, by omega, by simp, fun k h_ => absurd h_ (Nat.not_lt_zero k), rfl⟩
         ·
          have h46 : ¬ L.getD i 0 = 46 := c12
          refine wp_seq ?_
          refine gI a65 s61 ok63 (gM (D45.kt q450 rfl) (gS rfl (fun A B E G H d0 => rP (y_eql (ed d0 rfl rfl rfl) rfl)) (gB 0 (gE ok63 fun a70 s66 ok68 D50 => ?_)))); have F69 := F64.step0 D50.stp; have q575 := D50.kt q534 rfl; have q579 := D50.kt q539 rfl; have o147 := Own.k0 o132 D50.stp; have o148 := Own.k0 o133 D50.stp; have o149 := Own.k0 o134 D50.stp; refine tn ?_
          refine cond_p (p := ((L.getD i 0) = (44 : Int))) (D50.dn 2 rfl rfl) (fun c14 => ?_) (fun c14 => ?_)
          ·
           have h44 : L.getD i 0 = 44 := c14
           refine wp_seq (wp_seq ?_)
           refine gI a70 s66 ok68 (gM q575 (gT (Ty.nat (List.length (clB n blk so))) rfl (fun A B E G H d0 => rP (own_len Tryd.underlying34 (al (R := (Pr.own 72 42 1 (List.length (clB n blk so)) (List.map Ty.ints (clB n blk so)))) (ed d0 rfl rfl rfl) (Own.k0 o147 E)))) (gS rfl (fun A B E G H d0 => rP (y_eql (ed d0 rfl rfl rfl) rfl)) (gS rfl (fun A B E G H d0 => rP (y_move (ed d0 rfl rfl rfl))) (gS rfl (fun A B E G H d0 => gu G (ed d0 rfl rfl rfl) fun hg => y_move (kp (H 11 rfl) E q579)) (gS rfl (fun A B E G H d0 d1 => rP (y_pick_or (ed d0 rfl rfl rfl) rfl (ed d1 rfl rfl rfl))) (gE ok68 fun a71 s67 ok69 D51 => ?_))))))); have F70 := F69.step0 D51.stp; have q593 := D51.kt (D50.kt (D45.kt (D35.kt (D31.kt q402 rfl) rfl) rfl) rfl) rfl; have o150 := Own.k0 o147 D51.stp; have o151 := Own.k0 o148 D51.stp; have o152 := Own.k0 o149 D51.stp; have q594 := D51.dn 5 rfl rfl; refine tn ?_
           refine cond_t q594 (fun c15 => ?_) (fun c15 => ?_)
           ·
            have hdd : (clB n blk so) = [] ∨ dot = true := (by simpa using c15)
            refine wp_seq (wp_seq ?_)
            refine gI a71 s67 ok69 (gM q593 (gE ok69 fun a72 s68 ok70 D52 => ?_)); have F71 := F70.step0 D52.stp; have o153 := Own.k0 o150 D52.stp; have o154 := Own.k0 o151 D52.stp; have o155 := Own.k0 o152 D52.stp; refine tn ?_
            refine cond_p (p := (((i : Nat) : Int) = ((((List.length L) : Nat) : Int) - (1 : Int)))) (D52.dn 0 rfl rfl) (fun c16 => ?_) (fun c16 => ?_)
            ·
             have hend : decide (i + 1 = L.length) = true := (by simp only [decide_eq_true_eq] at *; omega)
             refine wp_seq ?_
             refine gI a72 s68 ok70 (gC (Ty.val (Value.slice none 0 0)) (gC (Ty.int (5 : Int)) (gE ok70 fun a73 s69 ok71 D53 => ?_))); refine tn (wp_ret (tr (tr (br (br (tr (tr (br (tr ?_)))))))))
             have hbad := rf_bad hX hi ((rfE_C hnb hcl hA hXx h46 h44).trans ((if_pos hdd).trans (if_pos hend))) (by decide)
             exact retL2 rfl ok71 (F71.step0 D53.stp) (hasT2 (nil_lst (by (rw [hbad])) (D53.dn 0 rfl rfl)) (cvi (by (rw [hbad])) (D53.dn 1 rfl rfl)))
            ·
             have hend : ¬ decide (i + 1 = L.length) = true := (by simp only [decide_eq_true_eq] at *; omega)
             refine wp_skip (tn (wp_seq ?_))
             refine gI a72 s68 ok70 (gC (Ty.val (Value.slice none 0 0)) (gC (Ty.int (4 : Int)) (gE ok70 fun a74 s70 ok72 D54 => ?_))); refine tn (wp_ret (tr (br (br (tr (tr (br (tr ?_))))))))
             have hbad := rf_bad hX hi ((rfE_C hnb hcl hA hXx h46 h44).trans ((if_pos hdd).trans (if_neg hend))) (by decide)
             exact retL2 rfl ok72 (F71.step0 D54.stp) (hasT2 (nil_lst (by (rw [hbad])) (D54.dn 0 rfl rfl)) (cvi (by (rw [hbad])) (D54.dn 1 rfl rfl)))
           ·
            obtain ⟨d25, d26⟩ := Bool.or_eq_false_iff.mp c15
            replace d25 := of_decide_eq_false d25
            have hdd : ¬ ((clB n blk so) = [] ∨ dot = true) := (by simpa using c15)
            refine wp_skip (tn (wp_seq ?_))
            obtain ⟨t8, e2, h2, q600⟩ := Own.seal o150 (by decide)
            rw [← e2]
            have F74 := F70.step h2 (by decide); have o156 := Own.keepL o151 (h2.toL (L := [72]) (by simp)) (by decide) (by decide); have o157 := Own.keepL o152 (h2.toL (L := [72]) (by simp)) (by decide) (by decide)
            have q601 : At (Ty.lst Ty.ints (clB n blk so)) t8 a71 (.tmp 7) := by have e : a71.eval (.tmp 7) = xj7 := (D51.kt q575 rfl); show Ty.has _ _ _; rw [e]; exact q600
            have q602 := Ty.up (Ty.val xj8) (h2.le (by decide)) (D51.kt (D50.kt q535 rfl) rfl); have q603 := Ty.up (Ty.val x6_0) (h2.le (by decide)) (D51.kt (D50.kt q536 rfl) rfl); have q604 := Ty.up (Ty.bool mir) (h2.le (by decide)) (D51.kt (D50.kt q537 rfl) rfl); have q605 := Ty.up (Ty.bool dot) (h2.le (by decide)) (D51.kt q579 rfl); have q606 := Ty.up (Ty.lst Ty.int L) (h2.le (by decide)) (D51.kt (D50.kt q540 rfl) rfl); have q607 := Ty.up (Ty.nat i) (h2.le (by decide)) (D51.kt (D50.kt q541 rfl) rfl); have q608 := Ty.up (Ty.int n) (h2.le (by decide)) (D51.kt (D50.kt q542 rfl) rfl); have q609 := Ty.up (Ty.bool (decide (((i : Nat) : Int) = ((((List.length L) : Nat) : Int) - (1 : Int))))) (h2.le (by decide)) q593
            have q610 := Ty.up (Ty.bool ((decide ((((List.length (clB n blk so)) : Nat) : Int) = (0 : Int))) || dot)) (h2.le (by decide)) q594
            refine gI a71 t8 ok69 (gM q603 (gM q601 (gE2 ok69 fun a75 s71 ok73 D55 => ?_))); have o158 := Own.k0 o156 D55.stp; have o159 := Own.k0 o157 D55.stp
            have q619 : At (Ty.val x6_0) s71 a75 (.tmp 134) := D55.done 0 (by decide)
            refine tL ok73 (YldM.toL (m_append Tryd.underlying34 Tryd.inf42 (by decide) rfl (by decide) (al (R := (Pr.own 71 42 1 (List.length all) (List.map Ty.ints all))) q619 o159) (D55.dn 1 (by decide) rfl rfl) (one_map (fun _ => one_sl)) (by omega) (by omega))) fun a76 s72 hs17 ok74 r17 sm17 => ?_
            have F76 := (F74.step0 D55.stp).stepL hs17 (by decide); have q621 := kpL hs17 (by decide) (sm17 7 (by decide)) (D55.kt q601 rfl); have q622 := kpL hs17 (by decide) (sm17 8 (by decide)) (D55.kt q602 rfl); have q623 := kpL hs17 (by decide) (sm17 6 (by decide)) (D55.kt q603 rfl); have q624 := kpL hs17 (by decide) (sm17 9 (by decide)) (D55.kt q604 rfl); have q625 := kpL hs17 (by decide) (sm17 11 (by decide)) (D55.kt q605 rfl); have q626 := kpL hs17 (by decide) (sm17 12 (by decide)) (D55.kt q606 rfl); have q627 := kpL hs17 (by decide) (sm17 13 (by decide)) (D55.kt q607 rfl); have q628 := kpL hs17 (by decide) (sm17 0 (by decide)) (D55.kt q608 rfl); have o161 := Own.keepL o158 hs17 (by decide) (by decide)
            obtain ⟨x6, hx5⟩ : ∃ x, a76.eval (.tmp 136) = x := ⟨_, rfl⟩
            have q629 : At (Ty.val x6) s72 a76 (.tmp 136) := hx5
            have o160 := al2 (R := (Pr.own 71 42 1 (List.length (all ++ (clB n blk so))) (List.map Ty.ints (all ++ (clB n blk so))))) hx5 (cvo (by simp) (by first | (rw [List.map_append]; rfl) | simp) r17)
            clear r17
            refine tL ok74 (Yld.toL (y_as q629)) fun a77 s73 hs18 ok75 r18 sm18 => ?_
            have F77 := F76.stepL hs18 (by decide); have q630 := kpL hs18 (by decide) (sm18 7 (by decide)) q621; have q631 := kpL hs18 (by decide) (sm18 8 (by decide)) q622; have q632 := kpL hs18 (by decide) (sm18 9 (by decide)) q624; have q633 := kpL hs18 (by decide) (sm18 11 (by decide)) q625; have q634 := kpL hs18 (by decide) (sm18 12 (by decide)) q626; have q635 := kpL hs18 (by decide) (sm18 13 (by decide)) q627; have q636 := kpL hs18 (by decide) (sm18 0 (by decide)) q628; have o162 := Own.keepL o161 hs18 (by decide) (by decide); have o163 := Own.keepL o160 hs18 (by decide) (by decide)
            have q637 : At (Ty.val x6) s73 a77 (.tmp 6) := r18
            clear r18; refine wpList_nil (tn (wp_seq (wp_seq ?_)))
            refine gI a77 s73 ok75 (gM q630 (gS rfl (fun A B E G H d0 => rP (y_len Tryd.underlying34 (ed d0 rfl rfl rfl))) (gT (Ty.int ((((List.length (clB n blk so)) : Nat) : Int) - (2 : Int))) rfl (fun A B E G H d0 => rP (y_sub (ed d0 rfl rfl rfl) rfl (w64 (by omega) (by omega)))) (gB 0 (gE ok75 fun a78 s74 ok76 D56 => ?_))))); have o164 := Own.k0 o162 D56.stp; have o165 := Own.k0 o163 D56.stp; refine tn (wp_block ?_)
            refine loop (fun n3 a79 w5 => ∃ (t9 : GW) (k : Nat) (x6_1 : Value), t9.w = w5 ∧ FromL [] s0 t9 ∧ Ok 158 [] a79 ∧ At (Ty.int ((((clB n blk so).length : Nat) : Int) - 2 - ((k : Nat) : Int))) t9 a79 (.tmp 20) ∧ At (Ty.val x6_1) t9 a79 (.tmp 6) ∧ At (Ty.lst Ty.ints (clB n blk so)) t9 a79 (.tmp 7) ∧ At (Ty.val xj8) t9 a79 (.tmp 8) ∧ At (Ty.bool mir) t9 a79 (.tmp 9) ∧ At (Ty.bool dot) t9 a79 (.tmp 11) ∧ At (Ty.lst Ty.int L) t9 a79 (.tmp 12) ∧ At (Ty.nat i) t9 a79 (.tmp 13) ∧ At (Ty.int n) t9 a79 (.tmp 0) ∧ Own t9 71 42 1 x6_1 (List.length (all ++ (clB n blk so) ++ mirP (clB n blk so) k)) (List.map Ty.ints (all ++ (clB n blk so) ++ mirP (clB n blk so) k)) ∧ Own t9 73 3 1 xj8 (List.length ([] : List Int)) (List.map Ty.int ([] : List Int)) ∧ (k ≤ (clB n blk so).length) ∧ (mir = false → k = 0) ∧ n3 = (clB n blk so).length - k) ((clB n blk so).length - (0)) ?_ ?_
            ·
             exact ⟨s74, 0, x6, rfl, (F77.step0 D56.stp), ok76, (cvi (by (omega)) (D56.dn 3 rfl rfl)), (D56.kt q637 rfl), (D56.kt q630 rfl), (D56.kt q631 rfl), (D56.kt q632 rfl), (D56.kt q633 rfl), (D56.kt q634 rfl), (D56.kt q635 rfl), (D56.kt q636 rfl), (cvo (by (first | rfl | (rw [mirP_0, List.append_nil]))) (by (first | rfl | (rw [mirP_0, List.append_nil]))) o165), o164, by omega, fun _ => rfl, rfl⟩
            ·
             rintro n4 a80 w6 ⟨t10, k, x6_1, rfl, F79, ok77, q647, q648, q649, q650, q651, q652, q653, q654, q655, o166, o167, hk, hmk, rfl⟩
             refine wp_seq (wp_seq ?_)
             refine gI a80 t10 ok77 (gM q647 (gS rfl (fun A B E G H d0 => rP (y_geq (ed d0 rfl rfl rfl) rfl)) (gS rfl (fun A B E G H d0 => rP (y_move (ed d0 rfl rfl rfl))) (gS rfl (fun A B E G H d0 => gu G (ed d0 rfl rfl rfl) fun hg => y_move (kp (H 9 rfl) E q651)) (gS rfl (fun A B E G H d0 d1 => rP (y_pick_and (ed d0 rfl rfl rfl) (ed d1 rfl rfl rfl) rfl)) (gE ok77 fun a81 s75 ok78 D57 => ?_)))))); have F80 := F79.step0 D57.stp; have q656 := D57.kt q647 rfl; have q657 := D57.kt q648 rfl; have q658 := D57.kt q649 rfl; have q659 := D57.kt q650 rfl; have q661 := D57.kt q652 rfl; have q662 := D57.kt q653 rfl; have q663 := D57.kt q654 rfl; have q664 := D57.kt q655 rfl; have o168 := Own.k0 o166 D57.stp; have o169 := Own.k0 o167 D57.stp; refine tn ?_
             refine cond_t (D57.dn 4 rfl rfl) (fun c17 => ?_) (fun c17 => ?_)
             ·
              obtain ⟨d27, d28⟩ := Bool.and_eq_true_iff.mp c17
              replace d27 := of_decide_eq_true d27
              simp only [Bool.and_eq_true, decide_eq_true_eq] at c17; have hmt : mir = true := c17.2; have hk2 : k + 2 ≤ (clB n blk so).length := (by have h_ := c17.1; omega); have hBk : (all ++ (clB n blk so) ++ mirP (clB n blk so) k).length = all.length + (clB n blk so).length + k := (by rw [List.length_append, List.length_append, mirP_len (by omega)])
              refine wp_skip (tn (wp_seq (wp_block ?_)))
              refine gI a81 s75 ok78 (gM q657 (gM q658 (gM q656 (gT (Ty.ref [(Ty.lst Ty.int ((clB n blk so).getD (((((clB n blk so).length : Nat) : Int) - 2 - ((k : Nat) : Int))).toNat []))]) rfl (fun A B E G H d0 d1 => rP (y_index1 Tryd.underlying34 Tryd.inf42 (ed d0 rfl rfl rfl) (ed d1 rfl rfl rfl) (by omega) (lst_get Ty.ints (clB n blk so) [] (((((clB n blk so).length : Nat) : Int) - 2 - ((k : Nat) : Int))).toNat (by omega)))) (gS rfl (fun A B E G H d0 => rP (y_load Tryd.underlying42 rfl (ed d0 rfl rfl rfl) rfl)) (gT (Ty.sl 1 1 [(Ty.lst Ty.int ((clB n blk so).getD (((((clB n blk so).length : Nat) : Int) - 2 - ((k : Nat) : Int))).toNat []))]) rfl (fun A B E G H d0 => rP (y_build1o Tryd.underlying34 Tryd.inf42 rfl (one_sl) (ed d0 rfl rfl rfl))) (gE2 ok78 fun a82 s76 ok79 D58 => ?_))))))); have o170 := Own.k0 o168 D58.stp; have o171 := Own.k0 o169 D58.stp
              have q675 : At (Ty.val x6_1) s76 a82 (.tmp 147) := D58.done 0 (by decide)
              have q676 := D58.dn 5 (by decide) rfl rfl
              have b4 := sl_le q676
              refine tL ok79 (YldM.toL (m_append Tryd.underlying34 Tryd.inf42 (by decide) rfl (by decide) (al (R := (Pr.own 71 42 1 (List.length (all ++ (clB n blk so) ++ mirP (clB n blk so) k)) (List.map Ty.ints (all ++ (clB n blk so) ++ mirP (clB n blk so) k)))) q675 o170) q676 (by intro U hU; simp at hU; subst hU; exact one_sl) (by omega) (by omega))) fun a83 s77 hs19 ok80 r19 sm19 => ?_
              have F82 := (F80.step0 D58.stp).stepL hs19 (by decide); have q677 := kpL hs19 (by decide) (sm19 20 (by decide)) (D58.kt q656 rfl); have q678 := kpL hs19 (by decide) (sm19 6 (by decide)) (D58.kt q657 rfl); have q679 := kpL hs19 (by decide) (sm19 7 (by decide)) (D58.kt q658 rfl); have q680 := kpL hs19 (by decide) (sm19 8 (by decide)) (D58.kt q659 rfl); have q681 := kpL hs19 (by decide) (sm19 9 (by decide)) (D58.kt (D57.kt q651 rfl) rfl); have q682 := kpL hs19 (by decide) (sm19 11 (by decide)) (D58.kt q661 rfl); have q683 := kpL hs19 (by decide) (sm19 12 (by decide)) (D58.kt q662 rfl); have q684 := kpL hs19 (by decide) (sm19 13 (by decide)) (D58.kt q663 rfl); have q685 := kpL hs19 (by decide) (sm19 0 (by decide)) (D58.kt q664 rfl); have o173 := Own.keepL o171 hs19 (by decide) (by decide)
              obtain ⟨x7, hx6⟩ : ∃ x, a83.eval (.tmp 153) = x := ⟨_, rfl⟩
              have q686 : At (Ty.val x7) s77 a83 (.tmp 153) := hx6
              have o172 := al2 (R := (Pr.own 71 42 1 (List.length ((all ++ (clB n blk so) ++ mirP (clB n blk so) k) ++ [((clB n blk so).getD (((((clB n blk so).length : Nat) : Int) - 2 - ((k : Nat) : Int))).toNat [])])) (List.map Ty.ints ((all ++ (clB n blk so) ++ mirP (clB n blk so) k) ++ [((clB n blk so).getD (((((clB n blk so).length : Nat) : Int) - 2 - ((k : Nat) : Int))).toNat [])])))) hx6 (cvo (by first | (simp; done) | (simp; omega)) (by first | (rw [List.map_append]; rfl) | simp) r19)
              clear r19
              refine tL ok80 (Yld.toL (y_as q686)) fun a84 s78 hs20 ok81 r20 sm20 => ?_
              have F83 := F82.stepL hs20 (by decide); have q687 := kpL hs20 (by decide) (sm20 20 (by decide)) q677; have q688 := kpL hs20 (by decide) (sm20 7 (by decide)) q679; have q689 := kpL hs20 (by decide) (sm20 8 (by decide)) q680; have q690 := kpL hs20 (by decide) (sm20 9 (by decide)) q681; have q691 := kpL hs20 (by decide) (sm20 11 (by decide)) q682; have q692 := kpL hs20 (by decide) (sm20 12 (by decide)) q683; have q693 := kpL hs20 (by decide) (sm20 13 (by decide)) q684; have q694 := kpL hs20 (by decide) (sm20 0 (by decide)) q685; have o174 := Own.keepL o173 hs20 (by decide) (by decide); have o175 := Own.keepL o172 hs20 (by decide) (by decide)
              have q695 : At (Ty.val x7) s78 a84 (.tmp 6) := r20
              clear r20; refine wpList_nil (bn (tn ?_))
              refine gI a84 s78 ok81 (gM q687 (gT (Ty.int (((((clB n blk so).length : Nat) : Int) - 2 - ((k : Nat) : Int)) - (1 : Int))) rfl (fun A B E G H d0 => rP (y_sub (ed d0 rfl rfl rfl) rfl (w64 (by omega) (by omega)))) (gB 0 (gE ok81 fun a85 s79 ok82 D59 => ?_)))); have o176 := Own.k0 o174 D59.stp; have o177 := Own.k0 o175 D59.stp
              exact tn ⟨(clB n blk so).length - ((k + 1)), by omega, s79, (k + 1), x7, rfl, (F83.step0 D59.stp), ok82, (cvi (by (omega)) (D59.dn 2 rfl rfl)), (D59.kt q695 rfl), (D59.kt q688 rfl), (D59.kt q689 rfl), (D59.kt q690 rfl), (D59.kt q691 rfl), (D59.kt q692 rfl), (D59.kt q693 rfl), (D59.kt q694 rfl), (cvo (by (first | (rw [mirP_succ hk2, ← List.append_assoc, el_ix hk2 rfl]; done) | (rw [mirP_succ hk2, ← List.append_assoc, el_ix hk2 rfl]))) (by (first | (rw [mirP_succ hk2, ← List.append_assoc, el_ix hk2 rfl]; done) | (rw [mirP_succ hk2, ← List.append_assoc, el_ix hk2 rfl]))) o177), o176, by omega, fun h_ => absurd h_ (by rw [hmt]; simp), rfl⟩
             ·
              simp only [Bool.and_eq_false_iff, decide_eq_false_iff_not] at c17; have hML : all ++ (clB n blk so) ++ mirP (clB n blk so) k = all ++ mirL mir (clB n blk so) := mir_all hmk (fun h_ => by rcases c17 with h1_ | h1_; omega; rw [h1_] at h_; cases h_)
              refine wp_exit (tx (tx (bx (tn (wp_seq (wp_seq ?_))))))
              refine gI a81 s75 ok78 (gM q657 (gT (Ty.nat (List.length (all ++ (clB n blk so) ++ mirP (clB n blk so) k))) rfl (fun A B E G H d0 => rP (own_len Tryd.underlying34 (al (R := (Pr.own 71 42 1 (List.length (all ++ (clB n blk so) ++ mirP (clB n blk so) k)) (List.map Ty.ints (all ++ (clB n blk so) ++ mirP (clB n blk so) k)))) (ed d0 rfl rfl rfl) (Own.k0 o168 E)))) (gS rfl (fun A B E G H d0 => rP (y_gtr (ed d0 rfl rfl rfl) rfl)) (gE ok78 fun a86 s80 ok83 D60 => ?_)))); have F85 := F80.step0 D60.stp; have o178 := Own.k0 o168 D60.stp; have o179 := Own.k0 o169 D60.stp; refine tn ?_
              refine cond_p (p := ((200 : Int) < (((List.length (all ++ (clB n blk so) ++ mirP (clB n blk so) k)) : Nat) : Int))) (D60.dn 2 rfl rfl) (fun c18 => ?_) (fun c18 => ?_)
              ·
               have h200 : 200 < (all ++ mirL mir (clB n blk so)).length := (by rw [← hML]; omega)
               refine wp_seq ?_
               refine gI a86 s80 ok83 (gC (Ty.val (Value.slice none 0 0)) (gC (Ty.int (3 : Int)) (gE ok83 fun a87 s81 ok84 D61 => ?_))); have o180 := Own.k0 o178 D61.stp; have o181 := Own.k0 o179 D61.stp; refine tn (wp_ret (tr (br (br (tr (tr (br (tr ?_))))))))
               have hbad := rf_bad hX hi ((rfE_C hnb hcl hA hXx h46 h44).trans ((if_neg hdd).trans (if_pos h200))) (by decide)
               exact retL2 rfl ok84 (F85.step0 D61.stp) (hasT2 (nil_lst (by (rw [hbad])) (D61.dn 0 rfl rfl)) (cvi (by (rw [hbad])) (D61.dn 1 rfl rfl)))
              ·
               have h200 : ¬ 200 < (all ++ mirL mir (clB n blk so)).length := (by rw [← hML]; omega)
               refine wp_skip (tn (wp_seq ?_))
               refine gI a86 s80 ok83 (gC (Ty.val (Value.slice none 0 0)) (gE ok83 fun a88 s82 ok85 D62 => ?_)); have o182 := Own.k0 o178 D62.stp; have o183 := Own.k0 o179 D62.stp; refine tn (wp_seq ?_)
               refine gI a88 s82 ok85 (gC (Ty.bool false) (gE ok85 fun a89 s83 ok86 D63 => ?_)); have o184 := Own.k0 o182 D63.stp; have o185 := Own.k0 o183 D63.stp; refine tn ?_
               refine gI a89 s83 ok86 (gC (Ty.bool true) (gE ok86 fun a90 s84 ok87 D64 => ?_)); have o186 := Own.k0 o184 D64.stp; have o187 := Own.k0 o185 D64.stp; refine bn (bn (tn ?_))
               refine gI a90 s84 ok87 (gM (D64.kt (D63.kt (D62.kt (D60.kt q663 rfl) rfl) rfl) rfl) (gT (Ty.nat (i + 1)) rfl (fun A B E G H d0 => rP ((y_add (ed d0 rfl rfl rfl) rfl (w64 (by omega) (by omega))).mono (fun τ _ h => cvi (σ := τ) (by first | omega | exact (Int.natCast_mul _ _).symm) h))) (gB 0 (gE ok87 fun a91 s85 ok88 D65 => ?_)))); have o188 := Own.k0 o186 D65.stp; have o189 := Own.k0 o187 D65.stp
               have o190 : Own s85 72 42 1 (Value.slice none 0 0) 0 (List.map Ty.ints ([] : List (List Int))) := Own.nil _ _ _ _
               exact tn ⟨L.length - ((i + 1)), by omega, s85, (i + 1), (all ++ mirL mir (clB n blk so)), ([] : List (List Int)), false, ([] : List Int), true, dot, x6_1, (Value.slice none 0 0), xj8, rfl, ((((F85.step0 D62.stp).step0 D63.stp).step0 D64.stp).step0 D65.stp), ok88, (D65.kt (D64.kt (D63.kt (D62.kt (D60.kt q657 rfl) rfl) rfl) rfl) rfl), (D65.kt (D64.kt (D63.kt (D62.dn 0 rfl rfl) rfl) rfl) rfl), (D65.kt (D64.kt (D63.kt (D62.kt (D60.kt q659 rfl) rfl) rfl) rfl) rfl), (cvb (by (first | rfl | omega | (simp_all; done) | (simp_all; omega))) (D65.kt (D64.kt (D63.dn 0 rfl rfl) rfl) rfl)), (cvb (by (first | rfl | omega | (simp_all; done) | (simp_all; omega))) (D65.kt (D64.dn 0 rfl rfl) rfl)), (D65.kt (D64.kt (D63.kt (D62.kt (D60.kt q661 rfl) rfl) rfl) rfl) rfl), (D65.kt (D64.kt (D63.kt (D62.kt (D60.kt q662 rfl) rfl) rfl) rfl) rfl), (cvi (by (first | rfl | omega | (simp_all; done) | (simp_all; omega))) (D65.dn 2 rfl rfl)), (D65.kt (D64.kt (D63.kt (D62.kt (D60.kt q664 rfl) rfl) rfl) rfl) rfl), (cvo (by (rw [hML])) (by (rw [hML])) o188), (cvo (by (simp)) (by (simp)) o190), (cvo (by (simp)) (by (simp)) o189), rf_go hX hi ((rfE_C hnb hcl hA hXx h46 h44).trans ((if_neg hdd).trans (if_neg h200))) (rfS_C hnb hA hXx h46), by omega, by omega, by simp, by simp, fun k h_ => absurd h_ (Nat.not_lt_zero k), rfl⟩
          ·
           have h44 : ¬ L.getD i 0 = 44 := c14
           refine wp_seq ?_
           refine gI a70 s66 ok68 (gC (Ty.val (Value.slice none 0 0)) (gC (Ty.int (4 : Int)) (gE ok68 fun a92 s86 ok89 D66 => ?_))); have o191 := Own.k0 o147 D66.stp; have o192 := Own.k0 o148 D66.stp; have o193 := Own.k0 o149 D66.stp; refine tn (wp_ret (br (br (tr (tr (br (tr ?_)))))))
           have hbad := rf_bad hX hi (rfE_4 hnb hcl hA hXx h46 h44) (by decide)
           exact retL2 rfl ok89 (F69.step0 D66.stp) (hasT2 (nil_lst (by (rw [hbad])) (D66.dn 0 rfl rfl)) (cvi (by (rw [hbad])) (D66.dn 1 rfl rfl)))
    ·
     refine wp_exit (tx (tx (bx (tn (wp_seq ?_)))))
     refine gI a20 s18 ok19 (gM q115 (gB 0 (gC (Ty.int (0 : Int)) (gE ok19 fun a93 s87 ok90 D67 => ?_)))); have o194 := Own.k0 o13 D67.stp; have o195 := Own.k0 o14 D67.stp; have o196 := Own.k0 o15 D67.stp
     have q749 : At (Ty.val x6_0) s87 a93 (.tmp 4) := D67.done 1
     refine tn (wp_ret ?_)
     obtain ⟨t11, e3, h3, q751⟩ := Own.seal o194 (by decide)
     rw [← e3]
     have F93 := (F20.step0 D67.stp).step h3 (by decide)
     have q752 : At (Ty.lst Ty.ints all) t11 a93 (.tmp 4) := by have e : a93.eval (.tmp 4) = x6_0 := q749; show Ty.has _ _ _; rw [e]; exact q751
     have q753 := Ty.up (Ty.int (0 : Int)) (h3.le (by decide)) (D67.dn 2 rfl rfl)
     exact retL2 rfl ok90 F93 (hasT2 (cvt (by (rw [rf_end hX (by omega)])) q752) (cvi (by (rw [rf_end hX (by omega)])) q753))


end Go.Proofs.YtdjihbjikpbhgaaDoor
