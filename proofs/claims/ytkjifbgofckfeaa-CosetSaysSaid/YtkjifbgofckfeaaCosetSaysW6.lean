/- The functions that the law CosetSays reaches, each by its contract. Part 6. -/
import Derived.Test.YtkjifbgofckfeaaCosetSaysW5
namespace Go.Proofs.Ytkjifbgofckfeaa
open Go.KL

set_option maxHeartbeats 4000000 in
set_option maxRecDepth 100000 in
theorem rSizes_fn (n : Nat) (gens : List (List Int)) (σ : GW)  (v0 v1 : Value) (hv0 : Ty.has (Ty.nat n) σ v0) (hv1 : Ty.has (Ty.lst Ty.ints gens) σ v1)  (hn : 1 ≤ n ∧ n ≤ 12) (hg : ∀ x ∈ gens, RowN n x) (hgl : gens.length ≤ 1000) :
    FnC Try.prog 20 #[v0, v1] σ (Ty.nat (szTo n (fun y => y ∈ gens) n)) := by
 have hn12 := hn.2
 have hsb := fun k => szTo_bd (n := n) (S := fun y => y ∈ gens) (k := k) hn.2
 refine fn_intro0 Try.func20 rfl Try.ntmps20 (Nat.le_of_ble_eq_true rfl) (fun s0 a0 hle F0 ok0 hargs => ?_)
 have p0 := pA hle (hargs 0 _ rfl) hv0
 have p1 := pA hle (hargs 1 _ rfl) hv1
 have b1 := sl_le p1
 clear hargs; refine wp_seq ?_
 refine gI a0 s0 ok0 (gC (Ty.int (0 : Int)) (gE ok0 fun a1 s1 ok1 D1 => ?_)); refine tn (wp_seq ?_)
 refine gI a1 s1 ok1 (gC (Ty.int (1 : Int)) (gE ok1 fun a2 s2 ok2 D2 => ?_)); refine tn (wp_seq ?_)
 refine gI a2 s2 ok2 (gC (Ty.int (0 : Int)) (gE ok2 fun a3 s3 ok3 D3 => ?_)); refine tn (wp_seq (wp_block ?_))
 refine loop (fun n1 a4 w1 => ∃ (t1 : GW) (k : Nat) (G : (List (List Int))), t1.w = w1 ∧ FromL [] s0 t1 ∧ Ok 131 [] a4 ∧ At (Ty.nat k) t1 a4 (.tmp 6) ∧ At (Ty.lst Ty.ints G) t1 a4 (.tmp 1) ∧ At (Ty.nat (szTo n (fun y => y ∈ gens) k)) t1 a4 (.tmp 5) ∧ At (Ty.nat n) t1 a4 (.tmp 0) ∧ (k ≤ n) ∧ (SzI n gens k G) ∧ n1 = n - k) (n - (0)) ?_ ?_
 ·
  exact ⟨s3, 0, gens, rfl, (((F0.step0 D1.stp).step0 D2.stp).step0 D3.stp), ok3, (cvi (by (first | rfl | omega | (simp_all; done) | (simp_all; omega))) (D3.dn 0 rfl rfl)), (cvt (by (first | rfl | omega | (simp_all; done) | (simp_all; omega))) (D3.kt (D2.kt (D1.kt p1 rfl) rfl) rfl)), (cvi (by (rfl)) (D3.kt (D2.dn 0 rfl rfl) rfl)), (D3.kt (D2.kt (D1.kt p0 rfl) rfl) rfl), by omega, SzI.start hg (by omega), rfl⟩
 ·
  rintro n2 a5 w2 ⟨t2, k, G, rfl, F4, ok4, q10, q11, q12, q13, hk, hZ, rfl⟩
  have hGl := hZ.len
  have hGr := hZ.rows
  refine wp_seq (wp_seq ?_)
  refine gI a5 t2 ok4 (gM q10 (gM q13 (gS rfl (fun A B E H I d0 d1 => rP (y_lss (ed d0 rfl rfl rfl) (ed d1 rfl rfl rfl))) (gE ok4 fun a6 s4 ok5 D4 => ?_)))); have F5 := F4.step0 D4.stp; have q14 := D4.kt q10 rfl; have q16 := D4.kt q12 rfl; refine tn ?_
  refine cond_p (p := (((k : Nat) : Int) < ((n : Nat) : Int))) (D4.dn 2 rfl rfl) (fun c1 => ?_) (fun c1 => ?_)
  ·
   refine wp_skip (tn (wp_block (wp_seq ?_)))
   refine gI a6 s4 ok5 (gM q14 (gR (Pr.own 20 3 1 1 (List.map Ty.int [((k : Nat) : Int)])) rfl (by intro A B E H I d0; exact rP ((y_lit1 (k := 20) Try.underlying22 Try.inf3 rfl (one_val rfl) (ed d0 rfl rfl rfl)).mono (fun _ _ h => cvo (by simp) (by first | (simp; done) | rfl) h))) (gE2 ok5 fun a7 s5 ok6 D5 => ?_)))
   obtain ⟨x1, hx1⟩ : ∃ x, a7.eval (.tmp 22) = x := ⟨_, rfl⟩
   have q23 : At (Ty.val x1) s5 a7 (.tmp 22) := hx1
   have o1 := al2 (R := (Pr.own 20 3 1 1 (List.map Ty.int [((k : Nat) : Int)]))) hx1 (D5.done 1 (by decide))
   refine tL ok6 (Yld.toL (y_as q23)) fun a8 s6 hs1 ok7 r1 sm1 => ?_
   have F7 := (F5.step0 D5.stp).sl hs1; have q24 := kq hs1 sm1 6 (D5.kt q14 rfl); have q25 := kq hs1 sm1 1 (D5.kt (D4.kt q11 rfl) rfl); have q26 := kq hs1 sm1 5 (D5.kt q16 rfl); have q27 := kq hs1 sm1 0 (D5.kt (D4.kt q13 rfl) rfl); have o2 := Own.kl o1 hs1
   have q28 : At (Ty.val x1) s6 a8 (.tmp 7) := r1
   clear r1; refine wpList_nil (tn (wp_seq ?_))
   refine gI a8 s6 ok7 (gM q27 (gS rfl (fun A B E H I d0 => rP (y_call _ Try.func39 rfl rfl my1 (rRounds_fn (n) _ _ (ed d0 rfl rfl rfl) (by omega)))) (gR (Pr.own 21 22 1 1 (List.map Ty.ints [(roundsL n)])) rfl (by intro A B E H I d0; exact rP ((y_lit1 (k := 21) Try.underlying24 Try.inf22 rfl (one_sl) (ed d0 rfl rfl rfl)).mono (fun _ _ h => cvo (by simp) (by first | (simp; done) | rfl) h))) (gE2 ok7 fun a9 s7 ok8 D6 => ?_)))); have o3 := Own.k0 o2 D6.stp
   obtain ⟨x2, hx2⟩ : ∃ x, a9.eval (.tmp 25) = x := ⟨_, rfl⟩
   have q34 : At (Ty.val x2) s7 a9 (.tmp 25) := hx2
   have o4 := al2 (R := (Pr.own 21 22 1 1 (List.map Ty.ints [(roundsL n)]))) hx2 (D6.done 2 (by decide))
   refine tL ok8 (Yld.toL (y_as q34)) fun a10 s8 hs2 ok9 r2 sm2 => ?_
   have F9 := (F7.step0 D6.stp).sl hs2; have q35 := kq hs2 sm2 6 (D6.kt q24 rfl); have q36 := kq hs2 sm2 1 (D6.kt q25 rfl); have q37 := kq hs2 sm2 5 (D6.kt q26 rfl); have q38 := kq hs2 sm2 0 (D6.kt q27 rfl); have q39 := kq hs2 sm2 7 (D6.kt q28 rfl); have o5 := Own.kl o3 hs2; have o6 := Own.kl o4 hs2
   have q40 : At (Ty.val x2) s8 a10 (.tmp 8) := r2
   clear r2; refine wpList_nil (tn (wp_seq ?_))
   refine gI a10 s8 ok9 (gM q38 (gR (Pr.own 22 3 1 n (List.map Ty.int (List.replicate n 0))) rfl (by intro A B E H I d0 d1; have e0 := ed d0 rfl rfl rfl; exact rP ((y_make (k := 22) (T := Ty.int 0) (n := n) Try.underlying22 Try.inf3 rfl (fun _ => rfl) e0 e0 (by omega) (by omega)).mono (fun _ _ h => cvo (by simp) (by simp) h))) (gE2 ok9 fun a11 s9 ok10 D7 => ?_))); have o7 := Own.k0 o5 D7.stp; have o8 := Own.k0 o6 D7.stp
   obtain ⟨x3, hx3⟩ : ∃ x, a11.eval (.tmp 27) = x := ⟨_, rfl⟩
   have q47 : At (Ty.val x3) s9 a11 (.tmp 27) := hx3
   have o9 := al2 (R := (Pr.own 22 3 1 n (List.map Ty.int (List.replicate n 0)))) hx3 (D7.done 1 (by decide))
   refine tL ok10 (Yld.toL (y_as q47)) fun a12 s10 hs3 ok11 r3 sm3 => ?_
   have F11 := (F9.step0 D7.stp).sl hs3; have q48 := kq hs3 sm3 6 (D7.kt q35 rfl); have q49 := kq hs3 sm3 1 (D7.kt q36 rfl); have q50 := kq hs3 sm3 5 (D7.kt q37 rfl); have q51 := kq hs3 sm3 0 (D7.kt q38 rfl); have q52 := kq hs3 sm3 7 (D7.kt q39 rfl); have q53 := kq hs3 sm3 8 (D7.kt q40 rfl); have o10 := Own.kl o7 hs3; have o11 := Own.kl o8 hs3; have o12 := Own.kl o9 hs3
   have q54 : At (Ty.val x3) s10 a12 (.tmp 9) := r3
   clear r3; refine wpList_nil (tn (wp_seq ?_))
   refine gI a12 s10 ok11 (gM q54 (gM q48 (gT (Ty.val (cellPtr x3 k)) rfl (fun A B E H I d0 d1 d2 d3 => rP (own_index1 (i := ((k : Nat) : Int)) Try.underlying22 Try.inf3 (Own.k0 o12 E) (ed d0 rfl rfl rfl) (ed d1 rfl rfl rfl) (by omega) (by omega))) (gE2 ok11 fun a13 s11 ok12 D8 => ?_)))); have o13 := Own.k0 o10 D8.stp; have o14 := Own.k0 o11 D8.stp; have o15 := Own.k0 o12 D8.stp
   refine tailL0 (L := [22]) (R := (fun _ τ => Own τ 22 3 1 x3 n ((List.map Ty.int (List.replicate n 0)).set k (Ty.int (1 : Int))))) rfl rfl (YldM.toL (m_store Try.inf3 (by decide) o15 (D8.dn 2 (by decide) rfl rfl) (by simp only [List.length_map, List.length_set]; first | omega | (simp only [List.length_replicate]; omega)) rfl (one_val rfl))) (fun v1 s12 hs4 r4 => ?_)
   have F13 := (F11.step0 D8.stp).sl hs4; have q63 := kpL hs4 (by decide) rfl (D8.kt q48 rfl); have q64 := kpL hs4 (by decide) rfl (D8.kt q49 rfl); have q65 := kpL hs4 (by decide) rfl (D8.kt q50 rfl); have q66 := kpL hs4 (by decide) rfl (D8.kt q51 rfl); have q67 := kpL hs4 (by decide) rfl (D8.kt q52 rfl); have q68 := kpL hs4 (by decide) rfl (D8.kt q53 rfl); have q69 := kpL hs4 (by decide) rfl (D8.kt q54 rfl); have o17 := Own.kl o13 hs4; have o18 := Own.kl o14 hs4
   have o16 : Own s12 22 3 1 x3 n (List.map Ty.int ((List.replicate n 0).set k (1 : Int))) := (cvo (by simp) (by first | (simp; done) | (rw [List.map_set]; done) | (rw [List.map_set]; rfl)) r4)
   clear r4; refine wpList_nil (tn (wp_seq ?_))
   refine gI a13 s12 ok12 (gC (Ty.val (Value.slice none 0 0)) (gE ok12 fun a14 s13 ok13 D9 => ?_)); have o19 := Own.k0 o17 D9.stp; have o20 := Own.k0 o18 D9.stp; have o21 := Own.k0 o16 D9.stp; refine tn (wp_seq (wp_seq ?_))
   refine gI a14 s13 ok13 (gC (Ty.int (0 : Int)) (gE ok13 fun a15 s14 ok14 D10 => ?_)); have o22 := Own.k0 o19 D10.stp; have o23 := Own.k0 o20 D10.stp; have o24 := Own.k0 o21 D10.stp; refine tn (wp_block ?_)
   refine loop (fun n3 a16 w3 => ∃ (t3 : GW) (i : Nat) (sp : (List Int)) (rw1 : (List (List Int))) (wh : (List Int)) (x7_1 x8_1 x9_1 : Value), t3.w = w3 ∧ FromL [] s0 t3 ∧ Ok 131 [] a16 ∧ At (Ty.nat i) t3 a16 (.tmp 11) ∧ At (Ty.val x7_1) t3 a16 (.tmp 7) ∧ At (Ty.val x8_1) t3 a16 (.tmp 8) ∧ At (Ty.val x9_1) t3 a16 (.tmp 9) ∧ At (Ty.nat k) t3 a16 (.tmp 6) ∧ At (Ty.lst Ty.ints G) t3 a16 (.tmp 1) ∧ At (Ty.nat (szTo n (fun y => y ∈ gens) k)) t3 a16 (.tmp 5) ∧ At (Ty.nat n) t3 a16 (.tmp 0) ∧ At (Ty.val (Value.slice none 0 0)) t3 a16 (.tmp 10) ∧ Own t3 20 3 1 x7_1 (List.length sp) (List.map Ty.int sp) ∧ Own t3 21 22 1 x8_1 (List.length rw1) (List.map Ty.ints rw1) ∧ Own t3 22 3 1 x9_1 (List.length wh) (List.map Ty.int wh) ∧ (i ≤ sp.length) ∧ (Orb n k G sp rw1 wh i 0) ∧ n3 = n - i) (n - (0)) ?_ ?_
   ·
    exact ⟨s14, 0, [((k : Nat) : Int)], [roundsL n], ((List.replicate n 0).set k 1), x1, x2, x3, rfl, ((F13.step0 D9.stp).step0 D10.stp), ok14, (cvi (by (first | rfl | omega | (simp_all; done) | (simp_all; omega))) (D10.dn 0 rfl rfl)), (D10.kt (D9.kt q67 rfl) rfl), (D10.kt (D9.kt q68 rfl) rfl), (D10.kt (D9.kt q69 rfl) rfl), (D10.kt (D9.kt q63 rfl) rfl), (D10.kt (D9.kt q64 rfl) rfl), (D10.kt (D9.kt q65 rfl) rfl), (D10.kt (D9.kt q66 rfl) rfl), (D10.kt (D9.dn 0 rfl rfl) rfl), (cvo (by (first | rfl | simp)) (by (first | rfl | simp)) o22), (cvo (by (first | rfl | simp)) (by (first | rfl | simp)) o23), (cvo (by (first | rfl | simp)) (by (first | rfl | simp)) o24), by simp, orb_start hn (by omega), rfl⟩
   ·
    rintro n4 a17 w4 ⟨t4, i, sp, rw1, wh, x7_1, x8_1, x9_1, rfl, F16, ok15, q88, q89, q90, q91, q92, q93, q94, q95, q96, o25, o26, o27, hi, hO, rfl⟩
    have hsl := hO.spl (by omega)
    have hrl := hO.len
    have hwl := hO.whl
    refine wp_seq (wp_seq ?_)
    refine gI a17 t4 ok15 (gM q88 (gM q89 (gT (Ty.nat (List.length sp)) rfl (fun A B E H I d0 => rP (own_len Try.underlying22 (al (R := (Pr.own 20 3 1 (List.length sp) (List.map Ty.int sp))) (ed d0 rfl rfl rfl) (Own.k0 o25 E)))) (gS rfl (fun A B E H I d0 d1 => rP (y_lss (ed d0 rfl rfl rfl) (ed d1 rfl rfl rfl))) (gE ok15 fun a18 s15 ok16 D11 => ?_))))); have F17 := F16.step0 D11.stp; have q98 := D11.kt q89 rfl; have q99 := D11.kt q90 rfl; have q100 := D11.kt q91 rfl; have q101 := D11.kt q92 rfl; have q102 := D11.kt q93 rfl; have q103 := D11.kt q94 rfl; have q104 := D11.kt q95 rfl; have q105 := D11.kt q96 rfl; have o28 := Own.k0 o25 D11.stp; have o29 := Own.k0 o26 D11.stp; have o30 := Own.k0 o27 D11.stp; refine tn ?_
    refine cond_p (p := (((i : Nat) : Int) < (((List.length sp) : Nat) : Int))) (D11.dn 3 rfl rfl) (fun c2 => ?_) (fun c2 => ?_)
    ·
     refine wp_skip (tn (wp_seq (wp_block (wp_seq ?_))))
     refine gI a18 s15 ok16 (gC (Ty.int (0 : Int)) (gE ok16 fun a19 s16 ok17 D12 => ?_)); have o31 := Own.k0 o28 D12.stp; have o32 := Own.k0 o29 D12.stp; have o33 := Own.k0 o30 D12.stp; refine tn (wp_block ?_)
     refine loop (fun n5 a20 w5 => ∃ (t5 : GW) (j : Nat) (sp2 : (List Int)) (rw2 : (List (List Int))) (wh2 : (List Int)) (x7_2 x8_2 x9_2 : Value), t5.w = w5 ∧ FromL [] s0 t5 ∧ Ok 131 [] a20 ∧ At (Ty.nat j) t5 a20 (.tmp 12) ∧ At (Ty.val x7_2) t5 a20 (.tmp 7) ∧ At (Ty.val x8_2) t5 a20 (.tmp 8) ∧ At (Ty.val x9_2) t5 a20 (.tmp 9) ∧ At (Ty.nat i) t5 a20 (.tmp 11) ∧ At (Ty.nat k) t5 a20 (.tmp 6) ∧ At (Ty.lst Ty.ints G) t5 a20 (.tmp 1) ∧ At (Ty.nat (szTo n (fun y => y ∈ gens) k)) t5 a20 (.tmp 5) ∧ At (Ty.nat n) t5 a20 (.tmp 0) ∧ At (Ty.val (Value.slice none 0 0)) t5 a20 (.tmp 10) ∧ Own t5 20 3 1 x7_2 (List.length sp2) (List.map Ty.int sp2) ∧ Own t5 21 22 1 x8_2 (List.length rw2) (List.map Ty.ints rw2) ∧ Own t5 22 3 1 x9_2 (List.length wh2) (List.map Ty.int wh2) ∧ (j ≤ G.length) ∧ (i < sp2.length) ∧ (Orb n k G sp2 rw2 wh2 i j) ∧ n5 = G.length - j) (G.length - (0)) ?_ ?_
     ·
      exact ⟨s16, 0, sp, rw1, wh, x7_1, x8_1, x9_1, rfl, (F17.step0 D12.stp), ok17, (cvi (by (first | rfl | omega | (simp_all; done) | (simp_all; omega))) (D12.dn 0 rfl rfl)), (D12.kt q98 rfl), (D12.kt q99 rfl), (D12.kt q100 rfl), (D12.kt (D11.kt q88 rfl) rfl), (D12.kt q101 rfl), (D12.kt q102 rfl), (D12.kt q103 rfl), (D12.kt q104 rfl), (D12.kt q105 rfl), (cvo (by (simp)) (by (simp)) o31), (cvo (by (simp)) (by (simp)) o32), (cvo (by (simp)) (by (simp)) o33), by omega, by omega, hO, rfl⟩
     ·
      rintro n6 a21 w6 ⟨t6, j, sp2, rw2, wh2, x7_2, x8_2, x9_2, rfl, F19, ok18, q117, q118, q119, q120, q121, q122, q123, q124, q125, q126, o34, o35, o36, hj, hil, hO2, rfl⟩
      have hsl2 := hO2.spl (by omega)
      have hrl2 := hO2.len
      have hwl2 := hO2.whl
      refine wp_seq (wp_seq ?_)
      refine gI a21 t6 ok18 (gM q117 (gM q123 (gS rfl (fun A B E H I d0 => rP (y_len Try.underlying24 (ed d0 rfl rfl rfl))) (gS rfl (fun A B E H I d0 d1 => rP (y_lss (ed d0 rfl rfl rfl) (ed d1 rfl rfl rfl))) (gE ok18 fun a22 s17 ok19 D13 => ?_))))); have F20 := F19.step0 D13.stp; have q127 := D13.kt q117 rfl; have q128 := D13.kt q118 rfl; have q129 := D13.kt q119 rfl; have q130 := D13.kt q120 rfl; have q131 := D13.kt q121 rfl; have q132 := D13.kt q122 rfl; have q133 := D13.kt q123 rfl; have q134 := D13.kt q124 rfl; have q135 := D13.kt q125 rfl; have q136 := D13.kt q126 rfl; have o37 := Own.k0 o34 D13.stp; have o38 := Own.k0 o35 D13.stp; have o39 := Own.k0 o36 D13.stp; refine tn ?_
      refine cond_p (p := (((j : Nat) : Int) < (((List.length G) : Nat) : Int))) (D13.dn 3 rfl rfl) (fun c3 => ?_) (fun c3 => ?_)
      ·
       obtain ⟨hg1, hg2, hg3, hg4, hg5⟩ := hO2.go3 (by omega) hGr hil (by omega)
       refine wp_skip (tn (wp_seq (wp_block (wp_seq ?_))))
       refine gI a22 s17 ok19 (gM q133 (gM q127 (gT (Ty.ref [(Ty.lst Ty.int (G.getD j []))]) rfl (fun A B E H I d0 d1 => rP (y_index1 Try.underlying24 Try.inf22 (ed d0 rfl rfl rfl) (ed d1 rfl rfl rfl) (by omega) (lst_get Ty.ints G [] j (by omega)))) (gS rfl (fun A B E H I d0 => rP (y_load Try.underlying22 rfl (ed d0 rfl rfl rfl) rfl)) (gM q128 (gM q131 (gT (Ty.val (cellPtr x7_2 i)) rfl (fun A B E H I d0 d1 => rP (own_index1 (i := ((i : Nat) : Int)) Try.underlying22 Try.inf3 (Own.k0 o37 E) (ed d0 rfl rfl rfl) (ed d1 rfl rfl rfl) (by omega) (by omega))) (gS rfl (fun A B E H I d0 => rP (own_load Try.underlying3 rfl (Own.k0 o37 E) (ed d0 rfl rfl rfl) (lst_get Ty.int sp2 0 i (by first | omega | (simp only [List.length_replicate]; omega))))) (gT (Ty.ref [(Ty.int ((G.getD j []).getD ((sp2.getD i 0)).toNat 0))]) rfl (fun A B E H I d0 d1 => rP (y_index1 Try.underlying22 Try.inf3 (ed d0 rfl rfl rfl) (ed d1 rfl rfl rfl) (by omega) (lst_get Ty.int (G.getD j []) 0 ((sp2.getD i 0)).toNat (by omega)))) (gS rfl (fun A B E H I d0 => rP (y_load Try.underlying3 rfl (ed d0 rfl rfl rfl) rfl)) (gB 0 (gE ok19 fun a23 s18 ok20 D14 => ?_)))))))))))); have q141 := D14.kt q130 rfl; have o40 := Own.k0 o37 D14.stp; have o41 := Own.k0 o38 D14.stp; have o42 := Own.k0 o39 D14.stp; have q148 := D14.dn 10 rfl rfl; refine tn (wp_seq ?_)
       refine gI a23 s18 ok20 (gM q141 (gM q148 (gT (Ty.val (cellPtr x9_2 (((G.getD j []).getD ((sp2.getD i 0)).toNat 0)).toNat)) rfl (fun A B E H I d0 d1 => rP (own_index1 (i := ((G.getD j []).getD ((sp2.getD i 0)).toNat 0)) Try.underlying22 Try.inf3 (Own.k0 o42 E) (ed d0 rfl rfl rfl) (ed d1 rfl rfl rfl) (by omega) (by omega))) (gS rfl (fun A B E H I d0 => rP (own_load Try.underlying3 rfl (Own.k0 o42 E) (ed d0 rfl rfl rfl) (lst_get Ty.int wh2 0 (((G.getD j []).getD ((sp2.getD i 0)).toNat 0)).toNat (by first | omega | (simp only [List.length_replicate]; omega))))) (gS rfl (fun A B E H I d0 => rP (y_eql (ed d0 rfl rfl rfl) rfl)) (gE ok20 fun a24 s19 ok21 D15 => ?_)))))); have F22 := (F20.step0 D14.stp).step0 D15.stp; have q149 := D15.kt (D14.kt q127 rfl) rfl; have q150 := D15.kt (D14.kt q128 rfl) rfl; have q151 := D15.kt (D14.kt q129 rfl) rfl; have q152 := D15.kt q141 rfl; have q153 := D15.kt (D14.kt q131 rfl) rfl; have q154 := D15.kt (D14.kt q132 rfl) rfl; have q155 := D15.kt (D14.kt q133 rfl) rfl; have q156 := D15.kt (D14.kt q134 rfl) rfl; have q157 := D15.kt (D14.kt q135 rfl) rfl; have q158 := D15.kt (D14.kt q136 rfl) rfl; have q159 := D15.kt q148 rfl; have o43 := Own.k0 o40 D15.stp; have o44 := Own.k0 o41 D15.stp; have o45 := Own.k0 o42 D15.stp; refine tn ?_
       refine cond_p (p := ((wh2.getD (((G.getD j []).getD ((sp2.getD i 0)).toNat 0)).toNat 0) = (0 : Int))) (D15.dn 4 rfl rfl) (fun c4 => ?_) (fun c4 => ?_)
       ·
        refine wp_seq ?_
        refine gI a24 s19 ok21 (gM q152 (gM q159 (gM q150 (gT (Ty.nat (List.length sp2)) rfl (fun A B E H I d0 => rP (own_len Try.underlying22 (al (R := (Pr.own 20 3 1 (List.length sp2) (List.map Ty.int sp2))) (ed d0 rfl rfl rfl) (Own.k0 o43 E)))) (gT (Ty.nat ((List.length sp2) + 1)) rfl (fun A B E H I d0 => rP ((y_add (ed d0 rfl rfl rfl) rfl (w64 (by omega) (by omega))).mono (fun τ _ h => cvi (σ := τ) (by first | omega | exact (Int.natCast_mul _ _).symm) h))) (gT (Ty.val (cellPtr x9_2 (((G.getD j []).getD ((sp2.getD i 0)).toNat 0)).toNat)) rfl (fun A B E H I d0 d1 d2 d3 d4 d5 d6 => rP (own_index1 (i := ((G.getD j []).getD ((sp2.getD i 0)).toNat 0)) Try.underlying22 Try.inf3 (Own.k0 o45 E) (ed d0 rfl rfl rfl) (ed d1 rfl rfl rfl) (by omega) (by omega))) (gE2 ok21 fun a25 s20 ok22 D16 => ?_))))))); have o46 := Own.k0 o43 D16.stp; have o47 := Own.k0 o44 D16.stp; have o48 := Own.k0 o45 D16.stp
        refine tailL0 (L := [22]) (R := (fun _ τ => Own τ 22 3 1 x9_2 (List.length wh2) ((List.map Ty.int wh2).set (((G.getD j []).getD ((sp2.getD i 0)).toNat 0)).toNat (Ty.nat ((List.length sp2) + 1))))) rfl rfl (YldM.toL (m_store Try.inf3 (by decide) o48 (D16.dn 5 (by decide) rfl rfl) (by simp only [List.length_map, List.length_set]; first | omega | (simp only [List.length_replicate]; omega)) (D16.dn 4 (by decide) rfl rfl) (one_val rfl))) (fun v2 s21 hs5 r5 => ?_)
        have F24 := (F22.step0 D16.stp).sl hs5; have q174 := kpL hs5 (by decide) rfl (D16.kt q149 rfl); have q175 := kpL hs5 (by decide) rfl (D16.kt q150 rfl); have q176 := kpL hs5 (by decide) rfl (D16.kt q151 rfl); have q177 := kpL hs5 (by decide) rfl (D16.kt q152 rfl); have q178 := kpL hs5 (by decide) rfl (D16.kt q153 rfl); have q179 := kpL hs5 (by decide) rfl (D16.kt q154 rfl); have q180 := kpL hs5 (by decide) rfl (D16.kt q155 rfl); have q181 := kpL hs5 (by decide) rfl (D16.kt q156 rfl); have q182 := kpL hs5 (by decide) rfl (D16.kt q157 rfl); have q183 := kpL hs5 (by decide) rfl (D16.kt q158 rfl); have q184 := kpL hs5 (by decide) rfl (D16.kt q159 rfl); have o50 := Own.kl o46 hs5; have o51 := Own.kl o47 hs5
        have o49 : Own s21 22 3 1 x9_2 (List.length (wh2.set (((G.getD j []).getD ((sp2.getD i 0)).toNat 0)).toNat ((((List.length sp2) + 1) : Nat) : Int))) (List.map Ty.int (wh2.set (((G.getD j []).getD ((sp2.getD i 0)).toNat 0)).toNat ((((List.length sp2) + 1) : Nat) : Int))) := (cvo (by simp) (by first | (simp; done) | (rw [List.map_set]; done) | (rw [List.map_set]; rfl)) r5)
        clear r5; refine wpList_nil (tn (wp_seq ?_))
        refine gI a25 s21 ok22 (gM q175 (gM q184 (gT (Ty.sl 1 1 [(Ty.int ((G.getD j []).getD ((sp2.getD i 0)).toNat 0))]) rfl (fun A B E H I d0 => rP (y_build1o Try.underlying22 Try.inf3 rfl (one_val rfl) (ed d0 rfl rfl rfl))) (gE2 ok22 fun a26 s22 ok23 D17 => ?_)))); have o52 := Own.k0 o50 D17.stp; have o53 := Own.k0 o51 D17.stp; have o54 := Own.k0 o49 D17.stp
        have q196 : At (Ty.val x7_2) s22 a26 (.tmp 64) := D17.done 0 (by decide)
        have q197 := D17.dn 2 (by decide) rfl rfl
        have b2 := sl_le q197
        refine tL ok23 (YldM.toL (m_append Try.underlying22 Try.inf3 (by decide) rfl (by decide) (al (R := (Pr.own 20 3 1 (List.length sp2) (List.map Ty.int sp2))) q196 o52) q197 (by intro U hU; simp at hU; subst hU; exact one_val rfl) (by omega) (by omega))) fun a27 s23 hs6 ok24 r6 sm4 => ?_
        have F26 := (F24.step0 D17.stp).sl hs6; have q198 := kq hs6 sm4 12 (D17.kt q174 rfl); have q199 := kq hs6 sm4 7 (D17.kt q175 rfl); have q200 := kq hs6 sm4 8 (D17.kt q176 rfl); have q201 := kq hs6 sm4 9 (D17.kt q177 rfl); have q202 := kq hs6 sm4 11 (D17.kt q178 rfl); have q203 := kq hs6 sm4 6 (D17.kt q179 rfl); have q204 := kq hs6 sm4 1 (D17.kt q180 rfl); have q205 := kq hs6 sm4 5 (D17.kt q181 rfl); have q206 := kq hs6 sm4 0 (D17.kt q182 rfl); have q207 := kq hs6 sm4 10 (D17.kt q183 rfl); have o56 := Own.kl o53 hs6; have o57 := Own.kl o54 hs6
        obtain ⟨x4, hx4⟩ : ∃ x, a27.eval (.tmp 67) = x := ⟨_, rfl⟩
        have q208 : At (Ty.val x4) s23 a27 (.tmp 67) := hx4
        have o55 := al2 (R := (Pr.own 20 3 1 (List.length (sp2 ++ [((G.getD j []).getD ((sp2.getD i 0)).toNat 0)])) (List.map Ty.int (sp2 ++ [((G.getD j []).getD ((sp2.getD i 0)).toNat 0)])))) hx4 (cvo (by simp) (by first | (rw [List.map_append]; rfl) | simp) r6)
        clear r6
        refine tL ok24 (Yld.toL (y_as q208)) fun a28 s24 hs7 ok25 r7 sm5 => ?_
        have F27 := F26.sl hs7; have q209 := kq hs7 sm5 12 q198; have q210 := kq hs7 sm5 8 q200; have q211 := kq hs7 sm5 9 q201; have q212 := kq hs7 sm5 11 q202; have q213 := kq hs7 sm5 6 q203; have q214 := kq hs7 sm5 1 q204; have q215 := kq hs7 sm5 5 q205; have q216 := kq hs7 sm5 0 q206; have q217 := kq hs7 sm5 10 q207; have o58 := Own.kl o56 hs7; have o59 := Own.kl o57 hs7; have o60 := Own.kl o55 hs7
        have q218 : At (Ty.val x4) s24 a28 (.tmp 7) := r7
        clear r7; refine wpList_nil (tn ?_)
        refine gI a28 s24 ok25 (gM q210 (gM q214 (gM q209 (gT (Ty.ref [(Ty.lst Ty.int (G.getD j []))]) rfl (fun A B E H I d0 d1 => rP (y_index1 Try.underlying24 Try.inf22 (ed d0 rfl rfl rfl) (ed d1 rfl rfl rfl) (by omega) (lst_get Ty.ints G [] j (by omega)))) (gS rfl (fun A B E H I d0 => rP (y_load Try.underlying22 rfl (ed d0 rfl rfl rfl) rfl)) (gM q210 (gM q212 (gT (Ty.val (cellPtr x8_2 i)) rfl (fun A B E H I d0 d1 => rP (own_index1 (i := ((i : Nat) : Int)) Try.underlying24 Try.inf22 (Own.k0 o58 E) (ed d0 rfl rfl rfl) (ed d1 rfl rfl rfl) (by omega) (by omega))) (gS rfl (fun A B E H I d0 => rP (own_load Try.underlying22 rfl (Own.k0 o58 E) (ed d0 rfl rfl rfl) (lst_get Ty.ints rw2 [] i (by first | omega | (simp only [List.length_replicate]; omega))))) (gS rfl (fun A B E H I d0 d1 => rP (y_call _ Try.func22 rfl rfl my2 (rBy_fn ((G.getD j [])) ((rw2.getD i [])) _ _ _ (ed d0 rfl rfl rfl) (ed d1 rfl rfl rfl) (by first | assumption | omega) (by first | assumption | omega)))) (gT (Ty.sl 1 1 [(Ty.lst Ty.int (byL ((G.getD j [])) ((rw2.getD i []))))]) rfl (fun A B E H I d0 => rP (y_build1o Try.underlying24 Try.inf22 rfl (one_sl) (ed d0 rfl rfl rfl))) (gE2 ok25 fun a29 s25 ok26 D18 => ?_)))))))))))); have o61 := Own.k0 o58 D18.stp; have o62 := Own.k0 o59 D18.stp; have o63 := Own.k0 o60 D18.stp
        have q229 : At (Ty.val x8_2) s25 a29 (.tmp 68) := D18.done 0 (by decide)
        have q230 := D18.dn 10 (by decide) rfl rfl
        have b3 := sl_le q230
        refine tL ok26 (YldM.toL (m_append Try.underlying24 Try.inf22 (by decide) rfl (by decide) (al (R := (Pr.own 21 22 1 (List.length rw2) (List.map Ty.ints rw2))) q229 o61) q230 (by intro U hU; simp at hU; subst hU; exact one_sl) (by omega) (by omega))) fun a30 s26 hs8 ok27 r8 sm6 => ?_
        have F29 := (F27.step0 D18.stp).sl hs8; have q231 := kq hs8 sm6 12 (D18.kt q209 rfl); have q232 := kq hs8 sm6 8 (D18.kt q210 rfl); have q233 := kq hs8 sm6 9 (D18.kt q211 rfl); have q234 := kq hs8 sm6 11 (D18.kt q212 rfl); have q235 := kq hs8 sm6 6 (D18.kt q213 rfl); have q236 := kq hs8 sm6 1 (D18.kt q214 rfl); have q237 := kq hs8 sm6 5 (D18.kt q215 rfl); have q238 := kq hs8 sm6 0 (D18.kt q216 rfl); have q239 := kq hs8 sm6 10 (D18.kt q217 rfl); have q240 := kq hs8 sm6 7 (D18.kt q218 rfl); have o65 := Own.kl o62 hs8; have o66 := Own.kl o63 hs8
        obtain ⟨x5, hx5⟩ : ∃ x, a30.eval (.tmp 79) = x := ⟨_, rfl⟩
        have q241 : At (Ty.val x5) s26 a30 (.tmp 79) := hx5
        have o64 := al2 (R := (Pr.own 21 22 1 (List.length (rw2 ++ [(byL ((G.getD j [])) ((rw2.getD i [])))])) (List.map Ty.ints (rw2 ++ [(byL ((G.getD j [])) ((rw2.getD i [])))])))) hx5 (cvo (by simp) (by first | (rw [List.map_append]; rfl) | simp) r8)
        clear r8
        refine tL ok27 (Yld.toL (y_as q241)) fun a31 s27 hs9 ok28 r9 sm7 => ?_
        have F30 := F29.sl hs9; have q242 := kq hs9 sm7 12 q231; have q243 := kq hs9 sm7 9 q233; have q244 := kq hs9 sm7 11 q234; have q245 := kq hs9 sm7 6 q235; have q246 := kq hs9 sm7 1 q236; have q247 := kq hs9 sm7 5 q237; have q248 := kq hs9 sm7 0 q238; have q249 := kq hs9 sm7 10 q239; have q250 := kq hs9 sm7 7 q240; have o67 := Own.kl o65 hs9; have o68 := Own.kl o66 hs9; have o69 := Own.kl o64 hs9
        have q251 : At (Ty.val x5) s27 a31 (.tmp 8) := r9
        clear r9; refine wpList_nil (bn (tn ?_))
        refine gI a31 s27 ok28 (gM q242 (gT (Ty.nat (j + 1)) rfl (fun A B E H I d0 => rP ((y_add (ed d0 rfl rfl rfl) rfl (w64 (by omega) (by omega))).mono (fun τ _ h => cvi (σ := τ) (by first | omega | exact (Int.natCast_mul _ _).symm) h))) (gB 0 (gE ok28 fun a32 s28 ok29 D19 => ?_)))); have o70 := Own.k0 o67 D19.stp; have o71 := Own.k0 o68 D19.stp; have o72 := Own.k0 o69 D19.stp
        exact tn ⟨G.length - ((j+1)), by omega, s28, (j+1), (sp2 ++ [((G.getD j []).getD (sp2.getD i 0).toNat 0)]), (rw2 ++ [byL (G.getD j []) (rw2.getD i [])]), (wh2.set ((G.getD j []).getD (sp2.getD i 0).toNat 0).toNat (((sp2.length : Nat) : Int) + 1)), x4, x5, x9_2, rfl, (F30.step0 D19.stp), ok29, (cvi (by (first | rfl | omega | (simp_all; done) | (simp_all; omega))) (D19.dn 2 rfl rfl)), (D19.kt q250 rfl), (D19.kt q251 rfl), (D19.kt q243 rfl), (D19.kt q244 rfl), (D19.kt q245 rfl), (D19.kt q246 rfl), (D19.kt q247 rfl), (D19.kt q248 rfl), (D19.kt q249 rfl), (cvo (by (first | rfl | simp)) (by (first | rfl | simp)) o71), (cvo (by (first | rfl | simp)) (by (first | rfl | simp)) o72), (cvo (by (first | rfl | simp)) (by (first | rfl | simp)) o70), by omega, by (rw [List.length_append]; omega), hO2.new (by omega) hGr hil (by omega) c4, rfl⟩
       ·
        refine wp_skip (bn (tn ?_))
        refine gI a24 s19 ok21 (gM q149 (gT (Ty.nat (j + 1)) rfl (fun A B E H I d0 => rP ((y_add (ed d0 rfl rfl rfl) rfl (w64 (by omega) (by omega))).mono (fun τ _ h => cvi (σ := τ) (by first | omega | exact (Int.natCast_mul _ _).symm) h))) (gB 0 (gE ok21 fun a33 s29 ok30 D20 => ?_)))); have o73 := Own.k0 o43 D20.stp; have o74 := Own.k0 o44 D20.stp; have o75 := Own.k0 o45 D20.stp
        exact tn ⟨G.length - ((j+1)), by omega, s29, (j+1), sp2, rw2, wh2, x7_2, x8_2, x9_2, rfl, (F22.step0 D20.stp), ok30, (cvi (by (first | rfl | omega | (simp_all; done) | (simp_all; omega))) (D20.dn 2 rfl rfl)), (D20.kt q150 rfl), (D20.kt q151 rfl), (D20.kt q152 rfl), (D20.kt q153 rfl), (D20.kt q154 rfl), (D20.kt q155 rfl), (D20.kt q156 rfl), (D20.kt q157 rfl), (D20.kt q158 rfl), o73, o74, o75, by omega, hil, hO2.old c4, rfl⟩
      ·
       have ej : j = G.length := (by omega); have hO4 := (ej ▸ hO2 : Orb n k G sp2 rw2 wh2 i G.length).next
       refine wp_exit (tx (tx (bx (bn (tn ?_)))))
       refine gI a22 s17 ok19 (gM q131 (gT (Ty.nat (i + 1)) rfl (fun A B E H I d0 => rP ((y_add (ed d0 rfl rfl rfl) rfl (w64 (by omega) (by omega))).mono (fun τ _ h => cvi (σ := τ) (by first | omega | exact (Int.natCast_mul _ _).symm) h))) (gB 0 (gE ok19 fun a34 s30 ok31 D21 => ?_)))); have o76 := Own.k0 o37 D21.stp; have o77 := Own.k0 o38 D21.stp; have o78 := Own.k0 o39 D21.stp
       exact tn ⟨n - ((i + 1)), by omega, s30, (i + 1), sp2, rw2, wh2, x7_2, x8_2, x9_2, rfl, (F20.step0 D21.stp), ok31, (cvi (by (first | rfl | omega | (simp_all; done) | (simp_all; omega))) (D21.dn 2 rfl rfl)), (D21.kt q128 rfl), (D21.kt q129 rfl), (D21.kt q130 rfl), (D21.kt q132 rfl), (D21.kt q133 rfl), (D21.kt q134 rfl), (D21.kt q135 rfl), (D21.kt q136 rfl), (cvo (by (simp)) (by (simp)) o76), (cvo (by (simp)) (by (simp)) o77), (cvo (by (simp)) (by (simp)) o78), by omega, hO4, rfl⟩
    ·
     have ei : i = sp.length := (by omega); have hO9 : Orb n k G sp rw1 wh sp.length 0 := ei ▸ hO; have hrl9 := hO9.len; have hwl9 := hO9.whl; have hsl9 := hO9.spl (by omega); have hml := hZ.mul hO9 (by omega) hn; have hsb1 := hsb (k + 1) (by omega)
     refine wp_exit (tx (tx (bx (tn (wp_seq (wp_seq ?_))))))
     refine gI a18 s15 ok16 (gC (Ty.int (0 : Int)) (gE ok16 fun a35 s31 ok32 D22 => ?_)); have o79 := Own.k0 o28 D22.stp; have o80 := Own.k0 o29 D22.stp; have o81 := Own.k0 o30 D22.stp; refine tn (wp_block ?_)
     have o82 : Own s31 23 22 1 (Value.slice none 0 0) 0 (List.map Ty.ints ([] : List (List Int))) := Own.nil _ _ _ _
     refine loop (fun n7 a36 w7 => ∃ (t7 : GW) (a : Nat) (st : (List (List Int))) (x10_3 : Value), t7.w = w7 ∧ FromL [] s0 t7 ∧ Ok 131 [] a36 ∧ At (Ty.nat a) t7 a36 (.tmp 14) ∧ At (Ty.val x10_3) t7 a36 (.tmp 10) ∧ At (Ty.val x7_1) t7 a36 (.tmp 7) ∧ At (Ty.val x8_1) t7 a36 (.tmp 8) ∧ At (Ty.val x9_1) t7 a36 (.tmp 9) ∧ At (Ty.nat k) t7 a36 (.tmp 6) ∧ At (Ty.lst Ty.ints G) t7 a36 (.tmp 1) ∧ At (Ty.nat (szTo n (fun y => y ∈ gens) k)) t7 a36 (.tmp 5) ∧ At (Ty.nat n) t7 a36 (.tmp 0) ∧ Own t7 23 22 1 x10_3 (List.length st) (List.map Ty.ints st) ∧ Own t7 20 3 1 x7_1 (List.length sp) (List.map Ty.int sp) ∧ Own t7 21 22 1 x8_1 (List.length rw1) (List.map Ty.ints rw1) ∧ Own t7 22 3 1 x9_1 (List.length wh) (List.map Ty.int wh) ∧ (a ≤ sp.length) ∧ (Stl k G rw1 wh sp.length a 0 st) ∧ n7 = sp.length - a) (sp.length - (0)) ?_ ?_
     ·
      exact ⟨s31, 0, ([] : List (List Int)), (Value.slice none 0 0), rfl, (F17.step0 D22.stp), ok32, (cvi (by (first | rfl | omega | (simp_all; done) | (simp_all; omega))) (D22.dn 0 rfl rfl)), (D22.kt q105 rfl), (D22.kt q98 rfl), (D22.kt q99 rfl), (D22.kt q100 rfl), (D22.kt q101 rfl), (D22.kt q102 rfl), (D22.kt q103 rfl), (D22.kt q104 rfl), (cvo (by (simp)) (by (simp)) o82), o79, o80, o81, by omega, Stl.start, rfl⟩
     ·
      rintro n8 a37 w8 ⟨t8, a, st, x10_3, rfl, F35, ok33, q290, q291, q292, q293, q294, q295, q296, q297, q298, o83, o84, o85, o86, ha, hS, rfl⟩
      have hstl := hS.len
      have hag : a * G.length ≤ 12 * 1000 := Nat.mul_le_mul (by omega) hGl
      refine wp_seq (wp_seq ?_)
      refine gI a37 t8 ok33 (gM q290 (gM q292 (gT (Ty.nat (List.length sp)) rfl (fun A B E H I d0 => rP (own_len Try.underlying22 (al (R := (Pr.own 20 3 1 (List.length sp) (List.map Ty.int sp))) (ed d0 rfl rfl rfl) (Own.k0 o84 E)))) (gS rfl (fun A B E H I d0 d1 => rP (y_lss (ed d0 rfl rfl rfl) (ed d1 rfl rfl rfl))) (gE ok33 fun a38 s32 ok34 D23 => ?_))))); have F36 := F35.step0 D23.stp; have q300 := D23.kt q291 rfl; have q301 := D23.kt q292 rfl; have q304 := D23.kt q295 rfl; have q306 := D23.kt q297 rfl; have q307 := D23.kt q298 rfl; have o87 := Own.k0 o83 D23.stp; have o88 := Own.k0 o84 D23.stp; have o89 := Own.k0 o85 D23.stp; have o90 := Own.k0 o86 D23.stp; refine tn ?_
      refine cond_p (p := (((a : Nat) : Int) < (((List.length sp) : Nat) : Int))) (D23.dn 3 rfl rfl) (fun c5 => ?_) (fun c5 => ?_)
      ·
       refine wp_skip (tn (wp_seq (wp_block (wp_seq ?_))))
       refine gI a38 s32 ok34 (gC (Ty.int (0 : Int)) (gE ok34 fun a39 s33 ok35 D24 => ?_)); have o91 := Own.k0 o87 D24.stp; have o92 := Own.k0 o88 D24.stp; have o93 := Own.k0 o89 D24.stp; have o94 := Own.k0 o90 D24.stp; refine tn (wp_block ?_)
       refine loop (fun n9 a40 w9 => ∃ (t9 : GW) (b : Nat) (st2 : (List (List Int))) (x10_4 : Value), t9.w = w9 ∧ FromL [] s0 t9 ∧ Ok 131 [] a40 ∧ At (Ty.nat b) t9 a40 (.tmp 15) ∧ At (Ty.val x10_4) t9 a40 (.tmp 10) ∧ At (Ty.nat a) t9 a40 (.tmp 14) ∧ At (Ty.val x7_1) t9 a40 (.tmp 7) ∧ At (Ty.val x8_1) t9 a40 (.tmp 8) ∧ At (Ty.val x9_1) t9 a40 (.tmp 9) ∧ At (Ty.nat k) t9 a40 (.tmp 6) ∧ At (Ty.lst Ty.ints G) t9 a40 (.tmp 1) ∧ At (Ty.nat (szTo n (fun y => y ∈ gens) k)) t9 a40 (.tmp 5) ∧ At (Ty.nat n) t9 a40 (.tmp 0) ∧ Own t9 23 22 1 x10_4 (List.length st2) (List.map Ty.ints st2) ∧ Own t9 20 3 1 x7_1 (List.length sp) (List.map Ty.int sp) ∧ Own t9 21 22 1 x8_1 (List.length rw1) (List.map Ty.ints rw1) ∧ Own t9 22 3 1 x9_1 (List.length wh) (List.map Ty.int wh) ∧ (b ≤ G.length) ∧ (Stl k G rw1 wh sp.length a b st2) ∧ n9 = G.length - b) (G.length - (0)) ?_ ?_
       ·
        exact ⟨s33, 0, st, x10_3, rfl, (F36.step0 D24.stp), ok35, (cvi (by (first | rfl | omega | (simp_all; done) | (simp_all; omega))) (D24.dn 0 rfl rfl)), (D24.kt q300 rfl), (D24.kt (D23.kt q290 rfl) rfl), (D24.kt q301 rfl), (D24.kt (D23.kt q293 rfl) rfl), (D24.kt (D23.kt q294 rfl) rfl), (D24.kt q304 rfl), (D24.kt (D23.kt q296 rfl) rfl), (D24.kt q306 rfl), (D24.kt q307 rfl), (cvo (by (simp)) (by (simp)) o91), o92, o93, o94, by omega, hS, rfl⟩
       ·
        rintro n10 a41 w10 ⟨t10, b, st2, x10_4, rfl, F38, ok36, q319, q320, q321, q322, q323, q324, q325, q326, q327, q328, o95, o96, o97, o98, hb, hS2, rfl⟩
        have hstl2 := hS2.len
        refine wp_seq (wp_seq ?_)
        refine gI a41 t10 ok36 (gM q319 (gM q326 (gS rfl (fun A B E H I d0 => rP (y_len Try.underlying24 (ed d0 rfl rfl rfl))) (gS rfl (fun A B E H I d0 d1 => rP (y_lss (ed d0 rfl rfl rfl) (ed d1 rfl rfl rfl))) (gE ok36 fun a42 s34 ok37 D25 => ?_))))); have F39 := F38.step0 D25.stp; have q329 := D25.kt q319 rfl; have q330 := D25.kt q320 rfl; have q331 := D25.kt q321 rfl; have q332 := D25.kt q322 rfl; have q333 := D25.kt q323 rfl; have q334 := D25.kt q324 rfl; have q335 := D25.kt q325 rfl; have q336 := D25.kt q326 rfl; have q337 := D25.kt q327 rfl; have q338 := D25.kt q328 rfl; have o99 := Own.k0 o95 D25.stp; have o100 := Own.k0 o96 D25.stp; have o101 := Own.k0 o97 D25.stp; have o102 := Own.k0 o98 D25.stp; refine tn ?_
        refine cond_p (p := (((b : Nat) : Int) < (((List.length G) : Nat) : Int))) (D25.dn 3 rfl rfl) (fun c6 => ?_) (fun c6 => ?_)
        ·
         obtain ⟨hg1, hg2, hg3, hg4, hg5, hg6, hg7, hg8, hg9, hg10, hg11⟩ := hO9.go5 (a := a) (b := b) (by omega) hn hGr (by omega) (by omega)
         refine wp_skip (tn (wp_seq (wp_block (wp_seq ?_))))
         refine gI a42 s34 ok37 (gM q336 (gM q329 (gT (Ty.ref [(Ty.lst Ty.int (G.getD b []))]) rfl (fun A B E H I d0 d1 => rP (y_index1 Try.underlying24 Try.inf22 (ed d0 rfl rfl rfl) (ed d1 rfl rfl rfl) (by omega) (lst_get Ty.ints G [] b (by omega)))) (gS rfl (fun A B E H I d0 => rP (y_load Try.underlying22 rfl (ed d0 rfl rfl rfl) rfl)) (gM q333 (gM q331 (gT (Ty.val (cellPtr x8_1 a)) rfl (fun A B E H I d0 d1 => rP (own_index1 (i := ((a : Nat) : Int)) Try.underlying24 Try.inf22 (Own.k0 o101 E) (ed d0 rfl rfl rfl) (ed d1 rfl rfl rfl) (by omega) (by omega))) (gS rfl (fun A B E H I d0 => rP (own_load Try.underlying22 rfl (Own.k0 o101 E) (ed d0 rfl rfl rfl) (lst_get Ty.ints rw1 [] a (by first | omega | (simp only [List.length_replicate]; omega))))) (gS rfl (fun A B E H I d0 d1 => rP (y_call _ Try.func22 rfl rfl my2 (rBy_fn ((G.getD b [])) ((rw1.getD a [])) _ _ _ (ed d0 rfl rfl rfl) (ed d1 rfl rfl rfl) (by first | assumption | omega) (by first | assumption | omega)))) (gB 0 (gE ok37 fun a43 s35 ok38 D26 => ?_))))))))))); have q344 := D26.kt q333 rfl; have q345 := D26.kt q334 rfl; have q346 := D26.kt q335 rfl; have o103 := Own.k0 o99 D26.stp; have o104 := Own.k0 o100 D26.stp; have o105 := Own.k0 o101 D26.stp; have o106 := Own.k0 o102 D26.stp; have q350 := D26.dn 9 rfl rfl; refine tn (wp_seq ?_)
         refine gI a43 s35 ok38 (gM q344 (gM q345 (gM q350 (gM q346 (gT (Ty.ref [(Ty.int ((byL ((G.getD b [])) ((rw1.getD a []))).getD k 0))]) rfl (fun A B E H I d0 d1 => rP (y_index1 Try.underlying22 Try.inf3 (ed d0 rfl rfl rfl) (ed d1 rfl rfl rfl) (by omega) (lst_get Ty.int (byL ((G.getD b [])) ((rw1.getD a []))) 0 k (by omega)))) (gS rfl (fun A B E H I d0 => rP (y_load Try.underlying3 rfl (ed d0 rfl rfl rfl) rfl)) (gT (Ty.val (cellPtr x9_1 (((byL ((G.getD b [])) ((rw1.getD a []))).getD k 0)).toNat)) rfl (fun A B E H I d0 d1 => rP (own_index1 (i := ((byL ((G.getD b [])) ((rw1.getD a []))).getD k 0)) Try.underlying22 Try.inf3 (Own.k0 o106 E) (ed d0 rfl rfl rfl) (ed d1 rfl rfl rfl) (by omega) (by omega))) (gS rfl (fun A B E H I d0 => rP (own_load Try.underlying3 rfl (Own.k0 o106 E) (ed d0 rfl rfl rfl) (lst_get Ty.int wh 0 (((byL ((G.getD b [])) ((rw1.getD a []))).getD k 0)).toNat (by first | omega | (simp only [List.length_replicate]; omega))))) (gT (Ty.int ((wh.getD (((byL ((G.getD b [])) ((rw1.getD a []))).getD k 0)).toNat 0) - (1 : Int))) rfl (fun A B E H I d0 => rP (y_sub (ed d0 rfl rfl rfl) rfl (w64 (by omega) (by omega)))) (gT (Ty.val (cellPtr x8_1 (((wh.getD (((byL ((G.getD b [])) ((rw1.getD a []))).getD k 0)).toNat 0) - (1 : Int))).toNat)) rfl (fun A B E H I d0 d1 => rP (own_index1 (i := ((wh.getD (((byL ((G.getD b [])) ((rw1.getD a []))).getD k 0)).toNat 0) - (1 : Int))) Try.underlying24 Try.inf22 (Own.k0 o105 E) (ed d0 rfl rfl rfl) (ed d1 rfl rfl rfl) (by omega) (by omega))) (gS rfl (fun A B E H I d0 => rP (own_load Try.underlying22 rfl (Own.k0 o105 E) (ed d0 rfl rfl rfl) (lst_get Ty.ints rw1 [] (((wh.getD (((byL ((G.getD b [])) ((rw1.getD a []))).getD k 0)).toNat 0) - (1 : Int))).toNat (by first | omega | (simp only [List.length_replicate]; omega))))) ?_)))))))))))
         refine gS rfl (fun A B E H I d0 => rP (y_call _ Try.func23 rfl rfl my1 (rUndo_fn ((rw1.getD (((wh.getD (((byL ((G.getD b [])) ((rw1.getD a []))).getD k 0)).toNat 0) - (1 : Int))).toNat [])) _ _ (ed d0 rfl rfl rfl) (by assumption)))) (gM q350 (gS rfl (fun A B E H I d0 d1 d2 => rP (y_call _ Try.func22 rfl rfl my2 (rBy_fn ((undoL ((rw1.getD (((wh.getD (((byL ((G.getD b [])) ((rw1.getD a []))).getD k 0)).toNat 0) - (1 : Int))).toNat [])))) ((byL ((G.getD b [])) ((rw1.getD a [])))) _ _ _ (ed d0 rfl rfl rfl) (ed d1 rfl rfl rfl) (by first | assumption | omega) (by first | assumption | omega)))) (gB 0 (gE ok38 fun a44 s36 ok39 D27 => ?_)))); have q352 := D27.kt (D26.kt q330 rfl) rfl; have o107 := Own.k0 o103 D27.stp; have o108 := Own.k0 o104 D27.stp; have o109 := Own.k0 o105 D27.stp; have o110 := Own.k0 o106 D27.stp
         have q362 : At (Ty.lst Ty.int (stl k G rw1 wh a b)) s36 a44 (.tmp 17) := (cvt (by (rfl)) (D27.dn 14 rfl rfl))
         refine tn ?_
         refine gI a44 s36 ok39 (gM q352 (gM q362 (gT (Ty.sl 1 1 [(Ty.lst Ty.int (stl k G rw1 wh a b))]) rfl (fun A B E H I d0 => rP (y_build1o Try.underlying24 Try.inf22 rfl (one_sl) (ed d0 rfl rfl rfl))) (gE2 ok39 fun a45 s37 ok40 D28 => ?_)))); have o111 := Own.k0 o107 D28.stp; have o112 := Own.k0 o108 D28.stp; have o113 := Own.k0 o109 D28.stp; have o114 := Own.k0 o110 D28.stp
         have q373 : At (Ty.val x10_4) s37 a45 (.tmp 115) := D28.done 0 (by decide)
         have q374 := D28.dn 2 (by decide) rfl rfl
         have b4 := sl_le q374
         refine tL ok40 (YldM.toL (m_append Try.underlying24 Try.inf22 (by decide) rfl (by decide) (al (R := (Pr.own 23 22 1 (List.length st2) (List.map Ty.ints st2))) q373 o111) q374 (by intro U hU; simp at hU; subst hU; exact one_sl) (by omega) (by omega))) fun a46 s38 hs10 ok41 r10 sm8 => ?_
         have F43 := (((F39.step0 D26.stp).step0 D27.stp).step0 D28.stp).sl hs10; have q375 := kq hs10 sm8 15 (D28.kt (D27.kt (D26.kt q329 rfl) rfl) rfl); have q376 := kq hs10 sm8 10 (D28.kt q352 rfl); have q377 := kq hs10 sm8 14 (D28.kt (D27.kt (D26.kt q331 rfl) rfl) rfl); have q378 := kq hs10 sm8 7 (D28.kt (D27.kt (D26.kt q332 rfl) rfl) rfl); have q379 := kq hs10 sm8 8 (D28.kt (D27.kt q344 rfl) rfl); have q380 := kq hs10 sm8 9 (D28.kt (D27.kt q345 rfl) rfl); have q381 := kq hs10 sm8 6 (D28.kt (D27.kt q346 rfl) rfl); have q382 := kq hs10 sm8 1 (D28.kt (D27.kt (D26.kt q336 rfl) rfl) rfl); have q383 := kq hs10 sm8 5 (D28.kt (D27.kt (D26.kt q337 rfl) rfl) rfl); have q384 := kq hs10 sm8 0 (D28.kt (D27.kt (D26.kt q338 rfl) rfl) rfl); have o116 := Own.kl o112 hs10; have o117 := Own.kl o113 hs10; have o118 := Own.kl o114 hs10
         obtain ⟨x6, hx6⟩ : ∃ x, a46.eval (.tmp 118) = x := ⟨_, rfl⟩
         have q385 : At (Ty.val x6) s38 a46 (.tmp 118) := hx6
         have o115 := al2 (R := (Pr.own 23 22 1 (List.length (st2 ++ [(stl k G rw1 wh a b)])) (List.map Ty.ints (st2 ++ [(stl k G rw1 wh a b)])))) hx6 (cvo (by simp) (by first | (rw [List.map_append]; rfl) | simp) r10)
         clear r10
         refine tL ok41 (Yld.toL (y_as q385)) fun a47 s39 hs11 ok42 r11 sm9 => ?_
         have F44 := F43.sl hs11; have q386 := kq hs11 sm9 15 q375; have q387 := kq hs11 sm9 14 q377; have q388 := kq hs11 sm9 7 q378; have q389 := kq hs11 sm9 8 q379; have q390 := kq hs11 sm9 9 q380; have q391 := kq hs11 sm9 6 q381; have q392 := kq hs11 sm9 1 q382; have q393 := kq hs11 sm9 5 q383; have q394 := kq hs11 sm9 0 q384; have o119 := Own.kl o116 hs11; have o120 := Own.kl o117 hs11; have o121 := Own.kl o118 hs11; have o122 := Own.kl o115 hs11
         have q395 : At (Ty.val x6) s39 a47 (.tmp 10) := r11
         clear r11; refine wpList_nil (bn (tn ?_))
         refine gI a47 s39 ok42 (gM q386 (gT (Ty.nat (b + 1)) rfl (fun A B E H I d0 => rP ((y_add (ed d0 rfl rfl rfl) rfl (w64 (by omega) (by omega))).mono (fun τ _ h => cvi (σ := τ) (by first | omega | exact (Int.natCast_mul _ _).symm) h))) (gB 0 (gE ok42 fun a48 s40 ok43 D29 => ?_)))); have o123 := Own.k0 o119 D29.stp; have o124 := Own.k0 o120 D29.stp; have o125 := Own.k0 o121 D29.stp; have o126 := Own.k0 o122 D29.stp
         exact tn ⟨G.length - ((b+1)), by omega, s40, (b+1), (st2 ++ [stl k G rw1 wh a b]), x6, rfl, (F44.step0 D29.stp), ok43, (cvi (by (first | rfl | omega | (simp_all; done) | (simp_all; omega))) (D29.dn 2 rfl rfl)), (D29.kt q395 rfl), (D29.kt q387 rfl), (D29.kt q388 rfl), (D29.kt q389 rfl), (D29.kt q390 rfl), (D29.kt q391 rfl), (D29.kt q392 rfl), (D29.kt q393 rfl), (D29.kt q394 rfl), (cvo (by (simp)) (by (simp)) o126), o123, o124, o125, by omega, hS2.step (by omega) (by omega), rfl⟩
        ·
         have eb : b = G.length := (by omega); have hS4 := (eb ▸ hS2 : Stl k G rw1 wh sp.length a G.length st2).next
         refine wp_exit (tx (tx (bx (bn (tn ?_)))))
         refine gI a42 s34 ok37 (gM q331 (gT (Ty.nat (a + 1)) rfl (fun A B E H I d0 => rP ((y_add (ed d0 rfl rfl rfl) rfl (w64 (by omega) (by omega))).mono (fun τ _ h => cvi (σ := τ) (by first | omega | exact (Int.natCast_mul _ _).symm) h))) (gB 0 (gE ok37 fun a49 s41 ok44 D30 => ?_)))); have o127 := Own.k0 o99 D30.stp; have o128 := Own.k0 o100 D30.stp; have o129 := Own.k0 o101 D30.stp; have o130 := Own.k0 o102 D30.stp
         exact tn ⟨sp.length - ((a+1)), by omega, s41, (a+1), st2, x10_4, rfl, (F39.step0 D30.stp), ok44, (cvi (by (first | rfl | omega | (simp_all; done) | (simp_all; omega))) (D30.dn 2 rfl rfl)), (D30.kt q330 rfl), (D30.kt q332 rfl), (D30.kt q333 rfl), (D30.kt q334 rfl), (D30.kt q335 rfl), (D30.kt q336 rfl), (D30.kt q337 rfl), (D30.kt q338 rfl), (cvo (by (simp)) (by (simp)) o127), o128, o129, o130, by omega, hS4, rfl⟩
      ·
       have ea : a = sp.length := (by omega); have hS9 : Stl k G rw1 wh sp.length sp.length 0 st := ea ▸ hS; obtain ⟨hst1, hst2⟩ := hO9.still (by omega) hn hGr hS9
       refine wp_exit (tx (tx (bx (tn (wp_seq ?_)))))
       refine gI a38 s32 ok34 (gM q306 (gM q301 (gT (Ty.nat (List.length sp)) rfl (fun A B E H I d0 => rP (own_len Try.underlying22 (al (R := (Pr.own 20 3 1 (List.length sp) (List.map Ty.int sp))) (ed d0 rfl rfl rfl) (Own.k0 o88 E)))) (gT (Ty.nat ((szTo n (fun y => y ∈ gens) k) * (List.length sp))) rfl (fun A B E H I d0 d1 => rP ((y_mul (ed d0 rfl rfl rfl) (ed d1 rfl rfl rfl) (w64 (by omega) (by omega))).mono (fun τ _ h => cvi (σ := τ) (by first | omega | exact (Int.natCast_mul _ _).symm) h))) (gB 0 (gE ok34 fun a50 s42 ok45 D31 => ?_)))))); have o131 := Own.k0 o87 D31.stp; have o132 := Own.k0 o88 D31.stp; have o133 := Own.k0 o89 D31.stp; have o134 := Own.k0 o90 D31.stp
       have q419 : At (Ty.nat (szTo n (fun y => y ∈ gens) (k + 1))) s42 a50 (.tmp 5) := (cvi (by (rw [hml])) (D31.dn 4 rfl rfl))
       refine tn (wp_seq ?_)
       obtain ⟨t11, e1, h1, q420⟩ := Own.seal o131 (by decide)
       rw [← e1]
       have F48 := (F36.step0 D31.stp).step h1 (by decide)
       have q421 : At (Ty.lst Ty.ints st) t11 a50 (.tmp 10) := by have e : a50.eval (.tmp 10) = x10_3 := (D31.kt q300 rfl); show Ty.has _ _ _; rw [e]; exact q420
       have q422 := Ty.up (Ty.nat k) (h1.le (by decide)) (D31.kt q304 rfl); have q423 := Ty.up (Ty.nat n) (h1.le (by decide)) (D31.kt q307 rfl); have q424 := Ty.up (Ty.nat (szTo n (fun y => y ∈ gens) (k + 1))) (h1.le (by decide)) q419
       refine gI a50 t11 ok45 (gM q423 (gM q421 (gM q422 (gT (Ty.nat (k + 1)) rfl (fun A B E H I d0 => rP ((y_add (ed d0 rfl rfl rfl) rfl (w64 (by omega) (by omega))).mono (fun τ _ h => cvi (σ := τ) (by first | omega | exact (Int.natCast_mul _ _).symm) h))) (gE2 ok45 fun a51 s43 ok46 D32 => ?_)))))
       refine tL ok46 (y_callL (L := []) [] [] _ rfl (by decide) Try.func66 rfl rfl my3 (rThin_fn (n) (st) ((k + 1)) _ (GW.low_lend _ (by decide)) _ _ _ (Ty.up _ (GW.le_lend _ _) (D32.dn 0 (by decide) rfl rfl)) (Ty.up _ (GW.le_lend _ _) (D32.dn 1 (by decide) rfl rfl)) (Ty.up _ (GW.le_lend _ _) (cvi (σ := s43) (by first | omega | assumption) (D32.dn 3 (by decide) rfl rfl)))  (by first | omega | assumption) (by first | omega | assumption) (by first | omega | assumption) (by first | omega | assumption))) fun a52 s44 hs12 ok47 r12 sm10 => ?_
       have F50 := (F48.step0 D32.stp).sl hs12; have q431 := kq hs12 sm10 6 (D32.kt q422 rfl); have q432 := kq hs12 sm10 0 (D32.kt q423 rfl); have q433 := kq hs12 sm10 5 (D32.kt q424 rfl)
       obtain ⟨t12, ⟨g1, hT1, hp1⟩, B1⟩ := r12
       have q434 : At (Ty.lst Ty.ints (outT (g1) (n * n))) s44 a52 (.tmp 127) := Ty.up _ B1.le hT1
       refine tL ok47 (Yld.toL (y_as q434)) fun a53 s45 hs13 ok48 r13 sm11 => ?_
       have F51 := F50.sl hs13; have q435 := kq hs13 sm11 6 q431; have q436 := kq hs13 sm11 0 q432; have q437 := kq hs13 sm11 5 q433
       have q438 : At (Ty.lst Ty.ints (outT (g1) (n * n))) s45 a53 (.tmp 1) := r13
       clear r13; refine wpList_nil ?_
       obtain ⟨ho1, ho2, ho3⟩ := Thin.done hp1 hst1
       have hnn1 : n * n ≤ 144 := Nat.mul_le_mul hn12 hn12
       have hZ2 := hZ.step hst2 ho1 ho2 (by omega)
       refine tn ?_
       refine gI a53 s45 ok48 (gM q435 (gT (Ty.nat (k + 1)) rfl (fun A B E H I d0 => rP ((y_add (ed d0 rfl rfl rfl) rfl (w64 (by omega) (by omega))).mono (fun τ _ h => cvi (σ := τ) (by first | omega | exact (Int.natCast_mul _ _).symm) h))) (gB 0 (gE ok48 fun a54 s46 ok49 D33 => ?_)))); refine bn ?_
       exact tn ⟨n - ((k+1)), by omega, s46, (k+1), (outT g1 (n * n)), rfl, (F51.step0 D33.stp), ok49, (cvi (by (first | rfl | omega | (simp_all; done) | (simp_all; omega))) (D33.dn 2 rfl rfl)), (cvt (by (first | rfl | omega | (simp_all; done) | (simp_all; omega))) (D33.kt q438 rfl)), (cvi (by (first | rfl | omega | (simp_all; done) | (simp_all; omega))) (D33.kt q437 rfl)), (D33.kt q436 rfl), by omega, hZ2, rfl⟩
  ·
   refine wp_exit (tx (tx (bx (tn (wp_seq ?_)))))
   refine gI a6 s4 ok5 (gM q16 (gB 0 (gE ok5 fun a55 s47 ok50 D34 => ?_))); refine tn (wp_ret ?_)
   exact retL1 rfl ok50 (F5.step0 D34.stp) (cvi (by (rw [show k = n by omega])) (D34.dn 1 rfl rfl))


set_option maxHeartbeats 4000000 in
set_option maxRecDepth 100000 in
theorem rFact_fn : ∀ (m : Nat) (n : Nat) (σ : GW)  (v0 : Value) (hv0 : Ty.has (Ty.nat n) σ v0)  (hm : m = n) (hn : n ≤ 12), FnC Try.prog 58 #[v0] σ (Ty.nat (fct n)) := by
 intro m
 induction m using Nat.strongRecOn with
 | _ m ih =>
 intro n σ v0 hv0 hm hn
 refine fn_intro0 Try.func58 rfl Try.ntmps58 (Nat.le_of_ble_eq_true rfl) (fun s0 a0 hle F0 ok0 hargs => ?_)
 have p0 := pA hle (hargs 0 _ rfl) hv0
 clear hargs; refine wp_seq ?_
 refine gI a0 s0 ok0 (gC (Ty.int (0 : Int)) (gE ok0 fun a1 s1 ok1 D1 => ?_)); have q1 := D1.kt p0 rfl; refine tn (wp_seq (wp_seq ?_))
 refine gI a1 s1 ok1 (gM q1 (gS rfl (fun A B E H I d0 => rP (y_lss (ed d0 rfl rfl rfl) rfl)) (gE ok1 fun a2 s2 ok2 D2 => ?_))); have F2 := (F0.step0 D1.stp).step0 D2.stp; have q2 := D2.kt q1 rfl; refine tn ?_
 refine cond_p (p := (((n : Nat) : Int) < (2 : Int))) (D2.dn 1 rfl rfl) (fun c1 => ?_) (fun c1 => ?_)
 ·
  refine wp_seq ?_
  refine gI a2 s2 ok2 (gC (Ty.int (1 : Int)) (gE ok2 fun a3 s3 ok3 D3 => ?_)); refine tn (wp_ret (tr ?_))
  exact retL1 rfl ok3 (F2.step0 D3.stp) (cvi (by (rw [fct_small (by omega)]; rfl)) (D3.dn 0 rfl rfl))
 ·
  have hm2 : ((n : Nat) : Int) * ((fct (n - 1) : Nat) : Int) ≤ 479001600 ∧ 0 ≤ ((n : Nat) : Int) * ((fct (n - 1) : Nat) : Int) := (by have h1 := fct_le12 hn; have h2 := fct_rec (n := n) (by omega); rw [← Int.natCast_mul]; omega)
  refine wp_skip (tn (wp_seq ?_))
  refine gI a2 s2 ok2 (gM q2 (gM q2 (gT (Ty.nat (n - 1)) rfl (fun A B E H I d0 => rP ((y_sub (ed d0 rfl rfl rfl) rfl (w64 (by omega) (by omega))).mono (fun τ _ h => cvi (σ := τ) (by omega) h))) (gS rfl (fun A B E H I d0 => rP (y_call _ Try.func58 rfl rfl my1 (ih (((n - 1))) (by omega) ((n - 1)) _ _ (cvi (σ := B) (by omega) (ed d0 rfl rfl rfl)) (by omega) (by omega)))) (gT (Ty.nat (n * (fct ((n - 1))))) rfl (fun A B E H I d0 d1 => rP ((y_mul (ed d0 rfl rfl rfl) (ed d1 rfl rfl rfl) (w64 (by omega) (by omega))).mono (fun τ _ h => cvi (σ := τ) (by first | omega | exact (Int.natCast_mul _ _).symm) h))) (gB 0 (gE ok2 fun a4 s4 ok4 D4 => ?_))))))); refine tn (wp_ret ?_)
  exact retL1 rfl ok4 (F2.step0 D4.stp) (cvi (by (rw [fct_rec (by omega)])) (D4.dn 5 rfl rfl))


set_option maxHeartbeats 4000000 in
set_option maxRecDepth 100000 in
theorem rRank_fn (r : List Int) (σ : GW)  (v0 : Value) (hv0 : Ty.has (Ty.lst Ty.int r) σ v0)  (hr : IsRow r) :
    FnC Try.prog 21 #[v0] σ (Ty.nat (rankL r)) := by
 have hln := hr.le
 refine fn_intro0 Try.func21 rfl Try.ntmps21 (Nat.le_of_ble_eq_true rfl) (fun s0 a0 hle F0 ok0 hargs => ?_)
 have p0 := pA hle (hargs 0 _ rfl) hv0
 have b1 := sl_le p0
 clear hargs; refine wp_seq ?_
 refine gI a0 s0 ok0 (gC (Ty.int (0 : Int)) (gE ok0 fun a1 s1 ok1 D1 => ?_)); refine tn (wp_seq ?_)
 refine gI a1 s1 ok1 (gC (Ty.int (0 : Int)) (gE ok1 fun a2 s2 ok2 D2 => ?_)); refine tn (wp_seq (wp_seq ?_))
 refine gI a2 s2 ok2 (gC (Ty.int (0 : Int)) (gE ok2 fun a3 s3 ok3 D3 => ?_)); refine tn (wp_block ?_)
 refine loop (fun n1 a4 w1 => ∃ (t1 : GW) (i : Nat) (q : Nat), t1.w = w1 ∧ FromL [] s0 t1 ∧ Ok 44 [] a4 ∧ At (Ty.nat i) t1 a4 (.tmp 4) ∧ At (Ty.nat q) t1 a4 (.tmp 3) ∧ At (Ty.lst Ty.int r) t1 a4 (.tmp 0) ∧ (i ≤ r.length) ∧ (q + rankL (r.drop i) = rankL r) ∧ n1 = r.length - i) (r.length - (0)) ?_ ?_
 ·
  exact ⟨s3, 0, 0, rfl, (((F0.step0 D1.stp).step0 D2.stp).step0 D3.stp), ok3, (cvi (by (first | rfl | omega | (simp_all; done) | (simp_all; omega))) (D3.dn 0 rfl rfl)), (cvi (by (first | rfl | omega | (simp_all; done) | (simp_all; omega))) (D3.kt (D2.dn 0 rfl rfl) rfl)), (D3.kt (D2.kt (D1.kt p0 rfl) rfl) rfl), by omega, by simp, rfl⟩
 ·
  rintro n2 a5 w2 ⟨t2, i, q, rfl, F4, ok4, q7, q8, q9, hi, hq, rfl⟩
  have hrl := rank_le12 hln
  refine wp_seq (wp_seq ?_)
  refine gI a5 t2 ok4 (gM q7 (gM q9 (gS rfl (fun A B E H I d0 => rP (y_len Try.underlying22 (ed d0 rfl rfl rfl))) (gS rfl (fun A B E H I d0 d1 => rP (y_lss (ed d0 rfl rfl rfl) (ed d1 rfl rfl rfl))) (gE ok4 fun a6 s4 ok5 D4 => ?_))))); have F5 := F4.step0 D4.stp; have q10 := D4.kt q7 rfl; have q11 := D4.kt q8 rfl; have q12 := D4.kt q9 rfl; refine tn ?_
  refine cond_p (p := (((i : Nat) : Int) < (((List.length r) : Nat) : Int))) (D4.dn 3 rfl rfl) (fun c1 => ?_) (fun c1 => ?_)
  ·
   have hmb := rank_mul hln (by omega) hq; have hbd := hr.at (i := i) (by omega)
   refine wp_skip (tn (wp_seq (wp_block (wp_seq ?_))))
   refine gI a6 s4 ok5 (gM q12 (gM q10 (gT (Ty.ref [(Ty.int (r.getD i 0))]) rfl (fun A B E H I d0 d1 => rP (y_index1 Try.underlying22 Try.inf3 (ed d0 rfl rfl rfl) (ed d1 rfl rfl rfl) (by omega) (lst_get Ty.int r 0 i (by omega)))) (gS rfl (fun A B E H I d0 => rP (y_load Try.underlying3 rfl (ed d0 rfl rfl rfl) rfl)) (gB 0 (gE ok5 fun a7 s5 ok6 D5 => ?_)))))); refine tn (wp_seq (wp_seq ?_))
   refine gI a7 s5 ok6 (gC (Ty.int (0 : Int)) (gE ok6 fun a8 s6 ok7 D6 => ?_)); refine tn (wp_block ?_)
   refine loop (fun n3 a9 w3 => ∃ (t3 : GW) (j : Nat), t3.w = w3 ∧ FromL [] s0 t3 ∧ Ok 44 [] a9 ∧ At (Ty.nat j) t3 a9 (.tmp 6) ∧ At (Ty.int (r.getD i 0 - ((lessN (r.getD i 0) (r.take j) : Nat) : Int))) t3 a9 (.tmp 5) ∧ At (Ty.nat i) t3 a9 (.tmp 4) ∧ At (Ty.nat q) t3 a9 (.tmp 3) ∧ At (Ty.lst Ty.int r) t3 a9 (.tmp 0) ∧ (j ≤ i) ∧ n3 = i - j) (i - (0)) ?_ ?_
   ·
    exact ⟨s6, 0, rfl, ((F5.step0 D5.stp).step0 D6.stp), ok7, (cvi (by (first | rfl | omega | (simp_all; done) | (simp_all; omega))) (D6.dn 0 rfl rfl)), (cvi (by (simp [lessN])) (D6.kt (D5.dn 4 rfl rfl) rfl)), (D6.kt (D5.kt q10 rfl) rfl), (D6.kt (D5.kt q11 rfl) rfl), (D6.kt (D5.kt q12 rfl) rfl), by omega, rfl⟩
   ·
    rintro n4 a10 w4 ⟨t4, j, rfl, F8, ok8, q23, q24, q25, q26, q27, hj, rfl⟩
    have hll := lessN_le (r.getD i 0) (r.take j)
    have htl := List.length_take_le j r
    refine wp_seq (wp_seq ?_)
    refine gI a10 t4 ok8 (gM q23 (gM q25 (gS rfl (fun A B E H I d0 d1 => rP (y_lss (ed d0 rfl rfl rfl) (ed d1 rfl rfl rfl))) (gE ok8 fun a11 s7 ok9 D7 => ?_)))); have F9 := F8.step0 D7.stp; have q28 := D7.kt q23 rfl; have q29 := D7.kt q24 rfl; have q30 := D7.kt q25 rfl; have q31 := D7.kt q26 rfl; have q32 := D7.kt q27 rfl; refine tn ?_
    refine cond_p (p := (((j : Nat) : Int) < ((i : Nat) : Int))) (D7.dn 2 rfl rfl) (fun c2 => ?_) (fun c2 => ?_)
    ·
     refine wp_skip (tn (wp_seq (wp_block (wp_seq ?_))))
     refine gI a11 s7 ok9 (gM q32 (gM q28 (gT (Ty.ref [(Ty.int (r.getD j 0))]) rfl (fun A B E H I d0 d1 => rP (y_index1 Try.underlying22 Try.inf3 (ed d0 rfl rfl rfl) (ed d1 rfl rfl rfl) (by omega) (lst_get Ty.int r 0 j (by omega)))) (gS rfl (fun A B E H I d0 => rP (y_load Try.underlying3 rfl (ed d0 rfl rfl rfl) rfl)) (gM q32 (gM q30 (gT (Ty.ref [(Ty.int (r.getD i 0))]) rfl (fun A B E H I d0 d1 => rP (y_index1 Try.underlying22 Try.inf3 (ed d0 rfl rfl rfl) (ed d1 rfl rfl rfl) (by omega) (lst_get Ty.int r 0 i (by omega)))) (gS rfl (fun A B E H I d0 => rP (y_load Try.underlying3 rfl (ed d0 rfl rfl rfl) rfl)) (gS rfl (fun A B E H I d0 d1 => rP (y_lss (ed d0 rfl rfl rfl) (ed d1 rfl rfl rfl))) (gE ok9 fun a12 s8 ok10 D8 => ?_)))))))))); have F10 := F9.step0 D8.stp; have q34 := D8.kt q28 rfl; have q35 := D8.kt q29 rfl; have q36 := D8.kt q30 rfl; have q37 := D8.kt q31 rfl; have q38 := D8.kt q32 rfl; refine tn ?_
     refine cond_p (p := ((r.getD j 0) < (r.getD i 0))) (D8.dn 8 rfl rfl) (fun c3 => ?_) (fun c3 => ?_)
     ·
      refine gI a12 s8 ok10 (gM q35 (gT (Ty.int ((r.getD i 0 - ((lessN (r.getD i 0) (r.take j) : Nat) : Int)) - (1 : Int))) rfl (fun A B E H I d0 => rP (y_sub (ed d0 rfl rfl rfl) rfl (w64 (by omega) (by omega)))) (gB 0 (gE ok10 fun a13 s9 ok11 D9 => ?_)))); refine bn (tn ?_)
      refine gI a13 s9 ok11 (gM (D9.kt q34 rfl) (gT (Ty.nat (j + 1)) rfl (fun A B E H I d0 => rP ((y_add (ed d0 rfl rfl rfl) rfl (w64 (by omega) (by omega))).mono (fun τ _ h => cvi (σ := τ) (by first | omega | exact (Int.natCast_mul _ _).symm) h))) (gB 0 (gE ok11 fun a14 s10 ok12 D10 => ?_))))
      exact tn ⟨i - ((j+1)), by omega, s10, (j+1), rfl, ((F10.step0 D9.stp).step0 D10.stp), ok12, (cvi (by (first | rfl | omega | (simp_all; done) | (simp_all; omega))) (D10.dn 2 rfl rfl)), (cvi (by (rw [lessN_snoc _ _ _ (by omega), if_pos (by assumption)]; omega)) (D10.kt (D9.dn 2 rfl rfl) rfl)), (D10.kt (D9.kt q36 rfl) rfl), (D10.kt (D9.kt q37 rfl) rfl), (D10.kt (D9.kt q38 rfl) rfl), by omega, rfl⟩
     ·
      refine wp_skip (bn (tn ?_))
      refine gI a12 s8 ok10 (gM q34 (gT (Ty.nat (j + 1)) rfl (fun A B E H I d0 => rP ((y_add (ed d0 rfl rfl rfl) rfl (w64 (by omega) (by omega))).mono (fun τ _ h => cvi (σ := τ) (by first | omega | exact (Int.natCast_mul _ _).symm) h))) (gB 0 (gE ok10 fun a15 s11 ok13 D11 => ?_))))
      exact tn ⟨i - ((j+1)), by omega, s11, (j+1), rfl, (F10.step0 D11.stp), ok13, (cvi (by (first | rfl | omega | (simp_all; done) | (simp_all; omega))) (D11.dn 2 rfl rfl)), (cvi (by (rw [lessN_snoc _ _ _ (by omega), if_neg (by assumption)]; rfl)) (D11.kt q35 rfl)), (D11.kt q36 rfl), (D11.kt q37 rfl), (D11.kt q38 rfl), by omega, rfl⟩
    ·
     have q55 : At (Ty.nat (lessN (r.getD i 0) (r.drop (i + 1)))) s7 a11 (.tmp 5) := cvt (T := (Ty.int (r.getD i 0 - ((lessN (r.getD i 0) (r.take j) : Nat) : Int)))) (U := (Ty.nat (lessN (r.getD i 0) (r.drop (i + 1))))) (by have e : j = i := (by omega); rw [e]; exact congrArg Ty.int (less_after hr (by omega))) q29
     refine wp_exit (tx (tx (bx (tn ?_))))
     refine gI a11 s7 ok9 (gM q31 (gM q55 (gM q32 (gS rfl (fun A B E H I d0 => rP (y_len Try.underlying22 (ed d0 rfl rfl rfl))) (gT (Ty.nat ((List.length r) - 1)) rfl (fun A B E H I d0 => rP ((y_sub (ed d0 rfl rfl rfl) rfl (w64 (by omega) (by omega))).mono (fun τ _ h => cvi (σ := τ) (by omega) h))) (gM q30 (gT (Ty.nat (((List.length r) - 1) - i)) rfl (fun A B E H I d0 d1 => rP ((y_sub (ed d0 rfl rfl rfl) (ed d1 rfl rfl rfl) (w64 (by omega) (by omega))).mono (fun τ _ h => cvi (σ := τ) (by omega) h))) (gS rfl (fun A B E H I d0 => rP (y_call _ Try.func58 rfl rfl my1 (rFact_fn (((((List.length r) - 1) - i))) ((((List.length r) - 1) - i)) _ _ (cvi (σ := B) (by omega) (ed d0 rfl rfl rfl)) (by omega) (by omega)))) (gT (Ty.nat ((lessN (r.getD i 0) (r.drop (i + 1))) * (fct ((((List.length r) - 1) - i))))) rfl (fun A B E H I d0 d1 => rP ((y_mul (ed d0 rfl rfl rfl) (ed d1 rfl rfl rfl) (w64 (by omega) (by omega))).mono (fun τ _ h => cvi (σ := τ) (by first | omega | exact (Int.natCast_mul _ _).symm) h))) (gT (Ty.nat (q + ((lessN (r.getD i 0) (r.drop (i + 1))) * (fct ((((List.length r) - 1) - i)))))) rfl (fun A B E H I d0 d1 => rP ((y_add (ed d0 rfl rfl rfl) (ed d1 rfl rfl rfl) (w64 (by omega) (by omega))).mono (fun τ _ h => cvi (σ := τ) (by first | omega | exact (Int.natCast_mul _ _).symm) h))) (gB 0 (gE ok9 fun a16 s12 ok14 D12 => ?_)))))))))))); refine bn (tn ?_)
     refine gI a16 s12 ok14 (gM (D12.kt q30 rfl) (gT (Ty.nat (i + 1)) rfl (fun A B E H I d0 => rP ((y_add (ed d0 rfl rfl rfl) rfl (w64 (by omega) (by omega))).mono (fun τ _ h => cvi (σ := τ) (by first | omega | exact (Int.natCast_mul _ _).symm) h))) (gB 0 (gE ok14 fun a17 s13 ok15 D13 => ?_))))
     exact tn ⟨r.length - ((i+1)), by omega, s13, (i+1), (q + lessN (r.getD i 0) (r.drop (i + 1)) * fct (r.length - 1 - i)), rfl, ((F9.step0 D12.stp).step0 D13.stp), ok15, (cvi (by (first | rfl | omega | (simp_all; done) | (simp_all; omega))) (D13.dn 2 rfl rfl)), (cvi (by (first | rfl | omega | (simp_all; done) | (simp_all; omega))) (D13.kt (D12.dn 10 rfl rfl) rfl)), (D13.kt (D12.kt q32 rfl) rfl), by omega, rank_step' (by omega) hq, rfl⟩
  ·
   refine wp_exit (tx (tx (bx (tn (wp_seq ?_)))))
   refine gI a6 s4 ok5 (gM q11 (gB 0 (gE ok5 fun a18 s14 ok16 D14 => ?_))); refine tn (wp_ret ?_)
   exact retL1 rfl ok16 (F5.step0 D14.stp) (cvi (by (obtain rfl : i = r.length := (by omega); exact congrArg _ (by rw [List.drop_length] at hq; exact hq))) (D14.dn 1 rfl rfl))

theorem Try.inf4 : Info Try.prog 4 (.bool false) 1 1 := by unfold Info; kernel_rfl
set_option maxHeartbeats 4000000 in
set_option maxRecDepth 100000 in
theorem rClosed_fn (n : Nat) (gens : List (List Int)) (most : Nat) (σ : GW) (hlow : Low [] σ) (v0 v1 v2 : Value) (hv0 : Ty.has (Ty.nat n) σ v0) (hv1 : Ty.has (Ty.lst Ty.ints gens) σ v1) (hv2 : Ty.has (Ty.nat most) σ v2)  (hn : 1 ≤ n ∧ n ≤ 12) (hg : ∀ x ∈ gens, RowN n x) (hgl : gens.length ≤ 1000) (hms : 1 ≤ most ∧ most ≤ 100000) :
    FnL Try.prog 19 #[v0, v1, v2] σ [] (fun v τ => ∃ (R : (List (List Int))), ∃ (W : (List (List Int))), (Ty.has (Ty.tup2 (Ty.lst Ty.ints R) (Ty.lst Ty.ints W)) τ v) ∧ (ClosedP n gens most R W)) := by
 refine fn_introL hlow Try.func19 rfl Try.ntmps19 (Nat.le_of_ble_eq_true rfl) (fun a0 F0 ok0 hargs => ?_)
 have p0 := pB (hargs 0 _ rfl) hv0
 have p1 := pB (hargs 1 _ rfl) hv1
 have b1 := sl_le p1
 have p2 := pB (hargs 2 _ rfl) hv2
 clear hargs; refine wp_seq ?_
 refine gI a0 σ ok0 (gC (Ty.val (Value.slice none 0 0)) (gC (Ty.val (Value.slice none 0 0)) (gE ok0 fun a1 s1 ok1 D1 => ?_))); refine tn (wp_seq ?_)
 refine gI a1 s1 ok1 (gM (D1.kt p0 rfl) (gS rfl (fun A B E H I d0 => rP (y_call _ Try.func39 rfl rfl my1 (rRounds_fn (n) _ _ (ed d0 rfl rfl rfl) (by omega)))) (gR (Pr.own 20 22 1 1 (List.map Ty.ints [(roundsL n)])) rfl (by intro A B E H I d0; exact rP ((y_lit1 (k := 20) Try.underlying24 Try.inf22 rfl (one_sl) (ed d0 rfl rfl rfl)).mono (fun _ _ h => cvo (by simp) (by first | (simp; done) | rfl) h))) (gE2 ok1 fun a2 s2 ok2 D2 => ?_))))
 obtain ⟨x1, hx1⟩ : ∃ x, a2.eval (.tmp 19) = x := ⟨_, rfl⟩
 have q6 : At (Ty.val x1) s2 a2 (.tmp 19) := hx1
 have o1 := al2 (R := (Pr.own 20 22 1 1 (List.map Ty.ints [(roundsL n)]))) hx1 (D2.done 2 (by decide))
 refine tL ok2 (Yld.toL (y_as q6)) fun a3 s3 hs1 ok3 r1 sm1 => ?_
 have F3 := ((F0.step0 D1.stp).step0 D2.stp).sl hs1; have q7 := kq hs1 sm1 1 (D2.kt (D1.kt p1 rfl) rfl); have q8 := kq hs1 sm1 2 (D2.kt (D1.kt p2 rfl) rfl); have o2 := Own.kl o1 hs1
 have q9 : At (Ty.val x1) s3 a3 (.tmp 8) := r1
 clear r1; refine wpList_nil (tn (wp_seq ?_))
 refine gI a3 s3 ok3 (gR (Pr.own 21 22 1 1 (List.map Ty.ints [([] : List Int)])) rfl (by intro A B E H I; exact rP ((y_lit1 (k := 21) Try.underlying24 Try.inf22 rfl (one_sl) (nil_lst (f := Ty.int) (xs := ([] : List Int)) rfl (show Ty.has (Ty.val (Value.slice none 0 0)) B (A.eval ((Operand.const (Value.slice none 0 0)))) from rfl))).mono (fun _ _ h => cvo (by simp) (by first | (simp; done) | rfl) h))) (gE2 ok3 fun a4 s4 ok4 D3 => ?_)); have o3 := Own.k0 o2 D3.stp
 obtain ⟨x2, hx2⟩ : ∃ x, a4.eval (.tmp 20) = x := ⟨_, rfl⟩
 have q13 : At (Ty.val x2) s4 a4 (.tmp 20) := hx2
 have o4 := al2 (R := (Pr.own 21 22 1 1 (List.map Ty.ints [([] : List Int)]))) hx2 (D3.done 0 (by decide))
 refine tL ok4 (Yld.toL (y_as q13)) fun a5 s5 hs2 ok5 r2 sm2 => ?_
 have F5 := (F3.step0 D3.stp).sl hs2; have q14 := kq hs2 sm2 1 (D3.kt q7 rfl); have q15 := kq hs2 sm2 2 (D3.kt q8 rfl); have q16 := kq hs2 sm2 8 (D3.kt q9 rfl); have o5 := Own.kl o3 hs2; have o6 := Own.kl o4 hs2
 have q17 : At (Ty.val x2) s5 a5 (.tmp 9) := r2
 clear r2; refine wpList_nil (tn (wp_seq ?_))
 refine gI a5 s5 ok5 (gR (Pr.ownm Ty.bool kI 22 (fun _ => none : Int → Option Bool)) rfl (by intro A B E H I; exact rP (y_makemap 22)) (gE2 ok5 fun a6 s6 ok6 D4 => ?_)); have o7 := Own.k0 o5 D4.stp; have o8 := Own.k0 o6 D4.stp
 obtain ⟨x3, hx3⟩ : ∃ x, a6.eval (.tmp 21) = x := ⟨_, rfl⟩
 have q22 : At (Ty.val x3) s6 a6 (.tmp 21) := hx3
 have o9 := al2 (R := (Pr.ownm Ty.bool kI 22 (fun _ => none : Int → Option Bool))) hx3 (D4.done 0 (by decide))
 refine tailL0 (L := [22]) (R := (fun _ τ => OwnM Ty.bool kI τ 22 x3 (fun x_ => if x_ = (0 : Int) then some true else (fun _ => none : Int → Option Bool) x_))) rfl rfl (YldM.toL (m_mapins (i := (0 : Int)) Try.underlying35 (keyInt Try.underlying3) (by decide) o9 q22 rfl rfl)) (fun v1 s7 hs3 r3 => ?_)
 have F7 := (F5.step0 D4.stp).sl hs3; have q23 := kpL hs3 (by decide) rfl (D4.kt q14 rfl); have q24 := kpL hs3 (by decide) rfl (D4.kt q15 rfl); have q25 := kpL hs3 (by decide) rfl (D4.kt q16 rfl); have q26 := kpL hs3 (by decide) rfl (D4.kt q17 rfl); have q27 := kpL hs3 (by decide) rfl q22; have o11 := Own.kl o7 hs3; have o12 := Own.kl o8 hs3
 have o10 : OwnM Ty.bool kI s7 22 x3 (fun x_ => if x_ = (0 : Int) then some true else (fun _ => none : Int → Option Bool) x_) := r3
 clear r3
 refine tL ok6 (Yld.toL (y_mv q27)) fun a7 s8 hs4 ok7 r4 sm3 => ?_
 have F8 := F7.sl hs4; have q29 := kq hs4 sm3 1 q23; have q30 := kq hs4 sm3 2 q24; have q31 := kq hs4 sm3 8 q25; have q32 := kq hs4 sm3 9 q26; have o13 := Own.kl o11 hs4; have o14 := Own.kl o12 hs4; have o15 := OwnM.kl o10 hs4
 have q33 : At (Ty.val x3) s8 a7 (.tmp 22) := r4
 clear r4
 refine tL ok7 (Yld.toL (y_as q33)) fun a8 s9 hs5 ok8 r5 sm4 => ?_
 have F9 := F8.sl hs5; have q34 := kq hs5 sm4 1 q29; have q35 := kq hs5 sm4 2 q30; have q36 := kq hs5 sm4 8 q31; have q37 := kq hs5 sm4 9 q32; have o16 := Own.kl o13 hs5; have o17 := Own.kl o14 hs5; have o18 := OwnM.kl o15 hs5
 have q38 : At (Ty.val x3) s9 a8 (.tmp 10) := r5
 clear r5; refine wpList_nil (tn (wp_seq (wp_seq ?_)))
 refine gI a8 s9 ok8 (gC (Ty.int (0 : Int)) (gE ok8 fun a9 s10 ok9 D5 => ?_)); have o19 := Own.k0 o16 D5.stp; have o20 := Own.k0 o17 D5.stp; have o21 := OwnM.k0 o18 D5.stp; refine tn (wp_block ?_)
 refine loop (fun n1 a10 w1 => ∃ (t1 : GW) (i : Nat) (L : (List (List Int))) (W : (List (List Int))) (f : (Int → Option Bool)) (x8_0 x9_0 : Value), t1.w = w1 ∧ FromL [] σ t1 ∧ Ok 86 [] a10 ∧ At (Ty.nat i) t1 a10 (.tmp 11) ∧ At (Ty.val x8_0) t1 a10 (.tmp 8) ∧ At (Ty.val x9_0) t1 a10 (.tmp 9) ∧ At (Ty.lst Ty.ints gens) t1 a10 (.tmp 1) ∧ At (Ty.nat most) t1 a10 (.tmp 2) ∧ At (Ty.val x3) t1 a10 (.tmp 10) ∧ Own t1 20 22 1 x8_0 (List.length L) (List.map Ty.ints L) ∧ Own t1 21 22 1 x9_0 (List.length W) (List.map Ty.ints W) ∧ OwnM Ty.bool kI t1 22 x3 f ∧ (i ≤ L.length) ∧ (L.length ≤ most) ∧ (ClI n gens L W i 0) ∧ (SeenB n L f) ∧ (WordsB W) ∧ n1 = most - i) (most - (0)) ?_ ?_
 ·
  exact ⟨s10, 0, [roundsL n], [[]], (fun x => if x = (0 : Int) then some true else (fun _ => none) x), x1, x2, rfl, (F9.step0 D5.stp), ok9, (cvi (by (first | rfl | omega | (simp_all; done) | (simp_all; omega))) (D5.dn 0 rfl rfl)), (D5.kt q36 rfl), (D5.kt q37 rfl), (D5.kt q34 rfl), (D5.kt q35 rfl), (D5.kt q38 rfl), (cvo (by (first | rfl | simp)) (by (first | rfl | simp)) o19), (cvo (by (first | rfl | simp)) (by (first | rfl | simp)) o20), (cvm (by (rfl)) o21), by simp, hms.1, ClI.start, seenC_start hn, wordsB_start, rfl⟩
 ·
  rintro n2 a11 w2 ⟨t2, i, L, W, f, x8_0, x9_0, rfl, F11, ok10, q45, q46, q47, q48, q49, q50, o22, o23, o24, hi, hl, hC, hsn, hwb, rfl⟩
  have hwl := hC.wl
  refine wp_seq (wp_seq ?_)
  refine gI a11 t2 ok10 (gM q45 (gM q46 (gT (Ty.nat (List.length L)) rfl (fun A B E H I d0 => rP (own_len Try.underlying24 (al (R := (Pr.own 20 22 1 (List.length L) (List.map Ty.ints L))) (ed d0 rfl rfl rfl) (Own.k0 o22 E)))) (gS rfl (fun A B E H I d0 d1 => rP (y_lss (ed d0 rfl rfl rfl) (ed d1 rfl rfl rfl))) (gE ok10 fun a12 s11 ok11 D6 => ?_))))); have F12 := F11.step0 D6.stp; have q52 := D6.kt q46 rfl; have q53 := D6.kt q47 rfl; have o25 := Own.k0 o22 D6.stp; have o26 := Own.k0 o23 D6.stp; have o27 := OwnM.k0 o24 D6.stp; refine tn ?_
  refine cond_p (p := (((i : Nat) : Int) < (((List.length L) : Nat) : Int))) (D6.dn 3 rfl rfl) (fun c1 => ?_) (fun c1 => ?_)
  ·
   refine wp_skip (tn (wp_seq (wp_block (wp_seq ?_))))
   refine gI a12 s11 ok11 (gC (Ty.int (0 : Int)) (gE ok11 fun a13 s12 ok12 D7 => ?_)); have o28 := Own.k0 o25 D7.stp; have o29 := Own.k0 o26 D7.stp; have o30 := OwnM.k0 o27 D7.stp; refine tn (wp_block ?_)
   refine loop (fun n3 a14 w3 => ∃ (t3 : GW) (j : Nat) (L2 : (List (List Int))) (W2 : (List (List Int))) (f2 : (Int → Option Bool)) (x8_1 x9_1 : Value), t3.w = w3 ∧ FromL [] σ t3 ∧ Ok 86 [] a14 ∧ At (Ty.nat j) t3 a14 (.tmp 12) ∧ At (Ty.val x8_1) t3 a14 (.tmp 8) ∧ At (Ty.val x9_1) t3 a14 (.tmp 9) ∧ At (Ty.nat i) t3 a14 (.tmp 11) ∧ At (Ty.lst Ty.ints gens) t3 a14 (.tmp 1) ∧ At (Ty.nat most) t3 a14 (.tmp 2) ∧ At (Ty.val x3) t3 a14 (.tmp 10) ∧ Own t3 20 22 1 x8_1 (List.length L2) (List.map Ty.ints L2) ∧ Own t3 21 22 1 x9_1 (List.length W2) (List.map Ty.ints W2) ∧ OwnM Ty.bool kI t3 22 x3 f2 ∧ (j ≤ 2 * gens.length) ∧ (i < L2.length) ∧ (L2.length ≤ most) ∧ (ClI n gens L2 W2 i j) ∧ (SeenB n L2 f2) ∧ (WordsB W2) ∧ n3 = 2 * gens.length - j) (2 * gens.length - (0)) ?_ ?_
   ·
    exact ⟨s12, 0, L, W, f, x8_0, x9_0, rfl, (F12.step0 D7.stp), ok12, (cvi (by (first | rfl | omega | (simp_all; done) | (simp_all; omega))) (D7.dn 0 rfl rfl)), (D7.kt q52 rfl), (D7.kt q53 rfl), (D7.kt (D6.kt q45 rfl) rfl), (D7.kt (D6.kt q48 rfl) rfl), (D7.kt (D6.kt q49 rfl) rfl), (D7.kt (D6.kt q50 rfl) rfl), (cvo (by (simp)) (by (simp)) o28), (cvo (by (simp)) (by (simp)) o29), (cvm (by (rfl)) o30), by omega, by omega, hl, hC, hsn, hwb, rfl⟩
   ·
    rintro n4 a15 w4 ⟨t4, j, L2, W2, f2, x8_1, x9_1, rfl, F14, ok13, q65, q66, q67, q68, q69, q70, q71, o31, o32, o33, hj, hil, hl2, hC2, hsn2, hwb2, rfl⟩
    have hwl2 := hC2.wl
    refine wp_seq (wp_seq ?_)
    refine gI a15 t4 ok13 (gM q65 (gM q69 (gS rfl (fun A B E H I d0 => rP (y_len Try.underlying24 (ed d0 rfl rfl rfl))) (gT (Ty.nat (2 * (List.length gens))) rfl (fun A B E H I d0 => rP ((y_mul rfl (ed d0 rfl rfl rfl) (w64 (by omega) (by omega))).mono (fun τ _ h => cvi (σ := τ) (by first | omega | exact (Int.natCast_mul _ _).symm) h))) (gS rfl (fun A B E H I d0 d1 => rP (y_lss (ed d0 rfl rfl rfl) (ed d1 rfl rfl rfl))) (gE ok13 fun a16 s13 ok14 D8 => ?_)))))); have F15 := F14.step0 D8.stp; have q72 := D8.kt q65 rfl; have q73 := D8.kt q66 rfl; have q74 := D8.kt q67 rfl; have q75 := D8.kt q68 rfl; have q76 := D8.kt q69 rfl; have q77 := D8.kt q70 rfl; have q78 := D8.kt q71 rfl; have o34 := Own.k0 o31 D8.stp; have o35 := Own.k0 o32 D8.stp; have o36 := OwnM.k0 o33 D8.stp; refine tn ?_
    refine cond_p (p := (((j : Nat) : Int) < (((2 * (List.length gens)) : Nat) : Int))) (D8.dn 4 rfl rfl) (fun c2 => ?_) (fun c2 => ?_)
    ·
     obtain ⟨hf1, hf2, hf3, hf4, hf5, hf6⟩ := hC2.fits hn hg hil (by omega)
     refine wp_skip (tn (wp_seq (wp_block (wp_seq ?_))))
     refine gI a16 s13 ok14 (gM q76 (gM q72 (gT (Ty.nat (j / 2)) rfl (fun A B E H I d0 => rP (y_quoN (ed d0 rfl rfl rfl) (toN (σ := B) rfl (by omega)) (by omega) (by omega))) (gT (Ty.ref [(Ty.lst Ty.int (gens.getD (j / 2) []))]) rfl (fun A B E H I d0 d1 => rP (y_index1 Try.underlying24 Try.inf22 (ed d0 rfl rfl rfl) (ed d1 rfl rfl rfl) (by omega) (lst_get Ty.ints gens [] (j / 2) (by omega)))) (gS rfl (fun A B E H I d0 => rP (y_load Try.underlying22 rfl (ed d0 rfl rfl rfl) rfl)) (gB 0 (gE ok14 fun a17 s14 ok15 D9 => ?_))))))); have q80 := D9.kt q72 rfl; have o37 := Own.k0 o34 D9.stp; have o38 := Own.k0 o35 D9.stp; have o39 := OwnM.k0 o36 D9.stp; refine tn (wp_seq ?_)
     refine gI a17 s14 ok15 (gM q80 (gT (Ty.nat (j / 2)) rfl (fun A B E H I d0 => rP (y_quoN (ed d0 rfl rfl rfl) (toN (σ := B) rfl (by omega)) (by omega) (by omega))) (gT (Ty.nat ((j / 2) + 1)) rfl (fun A B E H I d0 => rP ((y_add (ed d0 rfl rfl rfl) rfl (w64 (by omega) (by omega))).mono (fun τ _ h => cvi (σ := τ) (by first | omega | exact (Int.natCast_mul _ _).symm) h))) (gB 0 (gE ok15 fun a18 s15 ok16 D10 => ?_))))); have q88 := D10.kt q80 rfl; have o40 := Own.k0 o37 D10.stp; have o41 := Own.k0 o38 D10.stp; have o42 := OwnM.k0 o39 D10.stp; refine tn (wp_seq (wp_seq ?_))
     refine gI a18 s15 ok16 (gM q88 (gT (Ty.nat (j % 2)) rfl (fun A B E H I d0 => rP (y_remN (ed d0 rfl rfl rfl) (toN (σ := B) rfl (by omega)) (by omega))) (gS rfl (fun A B E H I d0 => rP (y_eql (ed d0 rfl rfl rfl) rfl)) (gE ok16 fun a19 s16 ok17 D11 => ?_)))); have F18 := ((F15.step0 D9.stp).step0 D10.stp).step0 D11.stp; have q97 := D11.kt q88 rfl; have q98 := D11.kt (D10.kt (D9.kt q73 rfl) rfl) rfl; have q99 := D11.kt (D10.kt (D9.kt q74 rfl) rfl) rfl; have q100 := D11.kt (D10.kt (D9.kt q75 rfl) rfl) rfl; have q101 := D11.kt (D10.kt (D9.kt q76 rfl) rfl) rfl; have q102 := D11.kt (D10.kt (D9.kt q77 rfl) rfl) rfl; have q103 := D11.kt (D10.kt (D9.kt q78 rfl) rfl) rfl; have q104 := D11.kt (D10.kt (D9.dn 5 rfl rfl) rfl) rfl; have q105 := D11.kt (D10.dn 3 rfl rfl) rfl; have o43 := Own.k0 o40 D11.stp; have o44 := Own.k0 o41 D11.stp; have o45 := OwnM.k0 o42 D11.stp; refine tn ?_
     refine Go.KL.join_then (Q' := fun a20 w5 => ∃ (t5 : GW), t5.w = w5 ∧ FromL [] σ t5 ∧ Ok 86 [] a20 ∧ At (Ty.lst Ty.int (ltr gens j)) t5 a20 (.tmp 13) ∧ At (Ty.int (ltrN j)) t5 a20 (.tmp 14) ∧ At (Ty.nat j) t5 a20 (.tmp 12) ∧ At (Ty.val x8_1) t5 a20 (.tmp 8) ∧ At (Ty.val x9_1) t5 a20 (.tmp 9) ∧ At (Ty.nat i) t5 a20 (.tmp 11) ∧ At (Ty.lst Ty.ints gens) t5 a20 (.tmp 1) ∧ At (Ty.nat most) t5 a20 (.tmp 2) ∧ At (Ty.val x3) t5 a20 (.tmp 10) ∧ Own t5 20 22 1 x8_1 (List.length L2) (List.map Ty.ints L2) ∧ Own t5 21 22 1 x9_1 (List.length W2) (List.map Ty.ints W2) ∧ OwnM Ty.bool kI t5 22 x3 f2 ∧ True) ?_ ?_
     ·
      refine cond_p (p := ((((j % 2) : Nat) : Int) = (1 : Int))) (D11.dn 2 rfl rfl) (fun c3 => ?_) (fun c3 => ?_)
      ·
       refine wp_seq ?_
       refine gI a19 s16 ok17 (gM q104 (gS rfl (fun A B E H I d0 => rP (y_call _ Try.func23 rfl rfl my1 (rUndo_fn ((gens.getD (j / 2) [])) _ _ (ed d0 rfl rfl rfl) (by assumption)))) (gB 0 (gE ok17 fun a21 s17 ok18 D12 => ?_)))); have o46 := Own.k0 o43 D12.stp; have o47 := Own.k0 o44 D12.stp; have o48 := OwnM.k0 o45 D12.stp; refine tn ?_
       refine gI a21 s17 ok18 (gM (D12.kt q105 rfl) (gT (Ty.int (-((((j / 2) + 1) : Nat) : Int))) rfl (fun A B E H I d0 => rP (y_neg (ed d0 rfl rfl rfl) (w64 (by omega) (by omega)))) (gB 0 (gE ok18 fun a22 s18 ok19 D13 => ?_)))); have o49 := Own.k0 o46 D13.stp; have o50 := Own.k0 o47 D13.stp; have o51 := OwnM.k0 o48 D13.stp
       exact tn ⟨s18, rfl, ((F18.step0 D12.stp).step0 D13.stp), ok19, (cvt (by (unfold ltr; rw [if_pos (by omega)])) (D13.kt (D12.dn 2 rfl rfl) rfl)), (cvi (by (unfold ltrN; rw [if_pos (by omega)])) (D13.dn 2 rfl rfl)), (D13.kt (D12.kt q97 rfl) rfl), (D13.kt (D12.kt q98 rfl) rfl), (D13.kt (D12.kt q99 rfl) rfl), (D13.kt (D12.kt q100 rfl) rfl), (D13.kt (D12.kt q101 rfl) rfl), (D13.kt (D12.kt q102 rfl) rfl), (D13.kt (D12.kt q103 rfl) rfl), o49, o50, o51, trivial⟩
      ·
       refine wp_skip ?_
       exact tn ⟨s16, rfl, F18, ok17, (cvt (by (unfold ltr; rw [if_neg (by omega)])) q104), (cvi (by (unfold ltrN; rw [if_neg (by omega)])) q105), q97, q98, q99, q100, q101, q102, q103, o43, o44, o45, trivial⟩
     ·
      rintro a23 w6 ⟨t6, rfl, F21, ok20, q125, q126, q127, q128, q129, q130, q131, q132, q133, o52, o53, o54, -⟩
      refine wp_seq ?_
      refine gI a23 t6 ok20 (gM q128 (gM q130 (gT (Ty.val (cellPtr x8_1 i)) rfl (fun A B E H I d0 d1 => rP (own_index1 (i := ((i : Nat) : Int)) Try.underlying24 Try.inf22 (Own.k0 o52 E) (ed d0 rfl rfl rfl) (ed d1 rfl rfl rfl) (by omega) (by omega))) (gS rfl (fun A B E H I d0 => rP (own_load Try.underlying22 rfl (Own.k0 o52 E) (ed d0 rfl rfl rfl) (lst_get Ty.ints L2 [] i (by omega)))) (gM q125 (gS rfl (fun A B E H I d0 d1 => rP (y_call _ Try.func22 rfl rfl my2 (rBy_fn ((L2.getD i [])) ((ltr gens j)) _ _ _ (ed d0 rfl rfl rfl) (ed d1 rfl rfl rfl) (by first | assumption | omega) (by first | assumption | omega)))) (gB 0 (gE ok20 fun a24 s19 ok21 D14 => ?_)))))))); have o55 := Own.k0 o52 D14.stp; have o56 := Own.k0 o53 D14.stp; have o57 := OwnM.k0 o54 D14.stp; have q142 := D14.dn 6 rfl rfl; refine tn (wp_seq ?_)
      refine gI a24 s19 ok21 (gM q142 (gS rfl (fun A B E H I d0 => rP (y_call _ Try.func21 rfl rfl my1 (rRank_fn ((byL ((L2.getD i [])) ((ltr gens j)))) _ _ (ed d0 rfl rfl rfl) (by first | omega | assumption)))) (gB 0 (gE ok21 fun a25 s20 ok22 D15 => ?_)))); have q150 := D15.kt (D14.kt q133 rfl) rfl; have o58 := Own.k0 o55 D15.stp; have o59 := Own.k0 o56 D15.stp; have o60 := OwnM.k0 o57 D15.stp; have q152 := D15.dn 2 rfl rfl; refine tn (wp_seq (wp_seq ?_))
      refine gI a25 s20 ok22 (gM q150 (gM q152 (gT (Ty.bool ((f2 (((rankL ((byL ((L2.getD i [])) ((ltr gens j))))) : Nat) : Int)).getD false)) rfl (fun A B E H I d0 d1 => rP (y_lookup (i := (((rankL ((byL ((L2.getD i [])) ((ltr gens j))))) : Nat) : Int)) (z := false) Try.underlying35 (keyInt Try.underlying3) Try.inf4 (fun _ => rfl) (OwnM.k0 o60 E) (ed d0 rfl rfl rfl) (ed d1 rfl rfl rfl))) (gE ok22 fun a26 s21 ok23 D16 => ?_)))); have F24 := ((F21.step0 D14.stp).step0 D15.stp).step0 D16.stp; have q154 := D16.kt (D15.kt (D14.kt q127 rfl) rfl) rfl; have q155 := D16.kt (D15.kt (D14.kt q128 rfl) rfl) rfl; have q156 := D16.kt (D15.kt (D14.kt q129 rfl) rfl) rfl; have q157 := D16.kt (D15.kt (D14.kt q130 rfl) rfl) rfl; have q158 := D16.kt (D15.kt (D14.kt q131 rfl) rfl) rfl; have q159 := D16.kt (D15.kt (D14.kt q132 rfl) rfl) rfl; have q160 := D16.kt q150 rfl; have o61 := Own.k0 o58 D16.stp; have o62 := Own.k0 o59 D16.stp; have o63 := OwnM.k0 o60 D16.stp; refine tn ?_
      refine cond_t (D16.dn 2 rfl rfl) (fun c4 => ?_) (fun c4 => ?_)
      ·
       have hm : (byL (L2.getD i []) (ltr gens j)) ∈ L2 := (by have h_ := hsn2 _ hf4 hf5; rw [c4] at h_; exact of_decide_eq_true h_.symm)
       refine wp_exit (tx (bx (tn ?_)))
       refine gI a26 s21 ok23 (gM q154 (gT (Ty.nat (j + 1)) rfl (fun A B E H I d0 => rP ((y_add (ed d0 rfl rfl rfl) rfl (w64 (by omega) (by omega))).mono (fun τ _ h => cvi (σ := τ) (by first | omega | exact (Int.natCast_mul _ _).symm) h))) (gB 0 (gE ok23 fun a27 s22 ok24 D17 => ?_)))); have o64 := Own.k0 o61 D17.stp; have o65 := Own.k0 o62 D17.stp; have o66 := OwnM.k0 o63 D17.stp
       exact tn ⟨2 * gens.length - ((j+1)), by omega, s22, (j+1), L2, W2, f2, x8_1, x9_1, rfl, (F24.step0 D17.stp), ok24, (cvi (by (first | rfl | omega | (simp_all; done) | (simp_all; omega))) (D17.dn 2 rfl rfl)), (D17.kt q155 rfl), (D17.kt q156 rfl), (D17.kt q157 rfl), (D17.kt q158 rfl), (D17.kt q159 rfl), (D17.kt q160 rfl), o64, o65, o66, by omega, hil, hl2, hC2.old hm, hsn2, hwb2, rfl⟩
      ·
       have hm : (byL (L2.getD i []) (ltr gens j)) ∉ L2 := (by have h_ := hsn2 _ hf4 hf5; rw [c4] at h_; exact of_decide_eq_false h_.symm); have hC5 := hC2.new (w := (W2.getD i [] ++ [ltrN j])) hn hg hil (by omega) hm; have hsn5 := hsn2.put hf4 hf5; have hwi := hwb2 i (by omega)
       refine wp_skip (tn (wp_seq ?_))
       refine gI a26 s21 ok23 (gM q160 (gM (D16.kt q152 rfl) (gE2 ok23 fun a28 s23 ok25 D18 => ?_))); have o67 := Own.k0 o61 D18.stp; have o68 := Own.k0 o62 D18.stp; have o69 := OwnM.k0 o63 D18.stp
       have q180 : At (Ty.val x3) s23 a28 (.tmp 62) := D18.done 0 (by decide)
       refine tailL0 (L := [22]) (R := (fun _ τ => OwnM Ty.bool kI τ 22 x3 (fun x_ => if x_ = (((rankL ((byL ((L2.getD i [])) ((ltr gens j))))) : Nat) : Int) then some true else f2 x_))) rfl rfl (YldM.toL (m_mapset (i := (((rankL ((byL ((L2.getD i [])) ((ltr gens j))))) : Nat) : Int)) Try.underlying35 (keyInt Try.underlying3) (by decide) o69 q180 (D18.dn 1 (by decide) rfl rfl) rfl)) (fun v2 s24 hs6 r6 => ?_)
       have F27 := (F24.step0 D18.stp).sl hs6; have q182 := kpL hs6 (by decide) rfl (D18.kt (D16.kt (D15.kt (D14.kt q126 rfl) rfl) rfl) rfl); have q183 := kpL hs6 (by decide) rfl (D18.kt q154 rfl); have q184 := kpL hs6 (by decide) rfl (D18.kt q155 rfl); have q185 := kpL hs6 (by decide) rfl (D18.kt q156 rfl); have q186 := kpL hs6 (by decide) rfl (D18.kt q157 rfl); have q187 := kpL hs6 (by decide) rfl (D18.kt q158 rfl); have q188 := kpL hs6 (by decide) rfl (D18.kt q159 rfl); have q189 := kpL hs6 (by decide) rfl (D18.kt q160 rfl); have q190 := kpL hs6 (by decide) rfl (D18.kt (D16.kt (D15.kt q142 rfl) rfl) rfl); have o71 := Own.kl o67 hs6; have o72 := Own.kl o68 hs6
       have o70 : OwnM Ty.bool kI s24 22 x3 (fun x_ => if x_ = (((rankL ((byL ((L2.getD i [])) ((ltr gens j))))) : Nat) : Int) then some true else f2 x_) := r6
       clear r6; refine wpList_nil (tn (wp_seq ?_))
       refine gI a28 s24 ok25 (gM q184 (gM q190 (gT (Ty.sl 1 1 [(Ty.lst Ty.int (byL ((L2.getD i [])) ((ltr gens j))))]) rfl (fun A B E H I d0 => rP (y_build1o Try.underlying24 Try.inf22 rfl (one_sl) (ed d0 rfl rfl rfl))) (gE2 ok25 fun a29 s25 ok26 D19 => ?_)))); have o73 := Own.k0 o71 D19.stp; have o74 := Own.k0 o72 D19.stp; have o75 := OwnM.k0 o70 D19.stp
       have q200 : At (Ty.val x8_1) s25 a29 (.tmp 64) := D19.done 0 (by decide)
       have q201 := D19.dn 2 (by decide) rfl rfl
       have b2 := sl_le q201
       refine tL ok26 (YldM.toL (m_append Try.underlying24 Try.inf22 (by decide) rfl (by decide) (al (R := (Pr.own 20 22 1 (List.length L2) (List.map Ty.ints L2))) q200 o73) q201 (by intro U hU; simp at hU; subst hU; exact one_sl) (by omega) (by omega))) fun a30 s26 hs7 ok27 r7 sm5 => ?_
       have F29 := (F27.step0 D19.stp).sl hs7; have q202 := kq hs7 sm5 14 (D19.kt q182 rfl); have q203 := kq hs7 sm5 12 (D19.kt q183 rfl); have q204 := kq hs7 sm5 8 (D19.kt q184 rfl); have q205 := kq hs7 sm5 9 (D19.kt q185 rfl); have q206 := kq hs7 sm5 11 (D19.kt q186 rfl); have q207 := kq hs7 sm5 1 (D19.kt q187 rfl); have q208 := kq hs7 sm5 2 (D19.kt q188 rfl); have q209 := kq hs7 sm5 10 (D19.kt q189 rfl); have o77 := Own.kl o74 hs7; have o78 := OwnM.kl o75 hs7
       obtain ⟨x4, hx4⟩ : ∃ x, a30.eval (.tmp 67) = x := ⟨_, rfl⟩
       have q210 : At (Ty.val x4) s26 a30 (.tmp 67) := hx4
       have o76 := al2 (R := (Pr.own 20 22 1 (List.length (L2 ++ [(byL ((L2.getD i [])) ((ltr gens j)))])) (List.map Ty.ints (L2 ++ [(byL ((L2.getD i [])) ((ltr gens j)))])))) hx4 (cvo (by simp) (by first | (rw [List.map_append]; rfl) | simp) r7)
       clear r7
       refine tL ok27 (Yld.toL (y_as q210)) fun a31 s27 hs8 ok28 r8 sm6 => ?_
       have F30 := F29.sl hs8; have q211 := kq hs8 sm6 14 q202; have q212 := kq hs8 sm6 12 q203; have q213 := kq hs8 sm6 9 q205; have q214 := kq hs8 sm6 11 q206; have q215 := kq hs8 sm6 1 q207; have q216 := kq hs8 sm6 2 q208; have q217 := kq hs8 sm6 10 q209; have o79 := Own.kl o77 hs8; have o80 := OwnM.kl o78 hs8; have o81 := Own.kl o76 hs8
       have q218 : At (Ty.val x4) s27 a31 (.tmp 8) := r8
       clear r8; refine wpList_nil (tn (wp_seq ?_))
       refine gI a31 s27 ok28 (gM q213 (gR (Pr.own 24 3 1 0 (List.map Ty.int ([] : List Int))) rfl (by intro A B E H I; exact rP ((y_lit0 (k := 24) Try.underlying22 Try.inf3).mono (fun _ _ h => cvo (by simp) (by simp) h))) (gM q213 (gM q214 (gT (Ty.val (cellPtr x9_1 i)) rfl (fun A B E H I d0 d1 => rP (own_index1 (i := ((i : Nat) : Int)) Try.underlying24 Try.inf22 (Own.k0 o79 E) (ed d0 rfl rfl rfl) (ed d1 rfl rfl rfl) (by omega) (by omega))) (gS rfl (fun A B E H I d0 => rP (own_load Try.underlying22 rfl (Own.k0 o79 E) (ed d0 rfl rfl rfl) (lst_get Ty.ints W2 [] i (by omega)))) (gE2 ok28 fun a32 s28 ok29 D20 => ?_))))))); have o82 := Own.k0 o79 D20.stp; have o83 := OwnM.k0 o80 D20.stp; have o84 := Own.k0 o81 D20.stp
       have q227 : At (Ty.val x9_1) s28 a32 (.tmp 68) := D20.done 0 (by decide)
       obtain ⟨x5, hx5⟩ : ∃ x, a32.eval (.tmp 69) = x := ⟨_, rfl⟩
       have q228 : At (Ty.val x5) s28 a32 (.tmp 69) := hx5
       have o85 := al2 (R := (Pr.own 24 3 1 0 (List.map Ty.int ([] : List Int)))) hx5 (D20.done 1 (by decide))
       have q229 := D20.dn 5 (by decide) rfl rfl
       have b3 := sl_le q229
       refine tL ok29 (YldM.toL (m_append Try.underlying22 Try.inf3 (by decide) rfl (by decide) (al (R := (Pr.own 24 3 1 0 (List.map Ty.int ([] : List Int)))) q228 o85) q229 (one_map (fun _ => one_val rfl)) (by omega) (by omega))) fun a33 s29 hs9 ok30 r9 sm7 => ?_
       have F32 := (F30.step0 D20.stp).sl hs9; have q230 := kq hs9 sm7 14 (D20.kt q211 rfl); have q231 := kq hs9 sm7 12 (D20.kt q212 rfl); have q232 := kq hs9 sm7 9 (D20.kt q213 rfl); have q233 := kq hs9 sm7 11 (D20.kt q214 rfl); have q234 := kq hs9 sm7 1 (D20.kt q215 rfl); have q235 := kq hs9 sm7 2 (D20.kt q216 rfl); have q236 := kq hs9 sm7 10 (D20.kt q217 rfl); have q237 := kq hs9 sm7 8 (D20.kt q218 rfl); have q238 := kq hs9 sm7 68 q227; have o87 := Own.kl o82 hs9; have o88 := OwnM.kl o83 hs9; have o89 := Own.kl o84 hs9
       obtain ⟨x6, hx6⟩ : ∃ x, a33.eval (.tmp 74) = x := ⟨_, rfl⟩
       have q239 : At (Ty.val x6) s29 a33 (.tmp 74) := hx6
       have o86 := al2 (R := (Pr.own 24 3 1 (List.length (W2.getD i [])) (List.map Ty.int (W2.getD i [])))) hx6 (cvo (by first | (simp; done) | (simp; omega)) (by first | (rw [List.map_append]; rfl) | simp) r9)
       clear r9
       refine tL ok30 (Yld.toL (y_mv q230)) fun a34 s30 hs10 ok31 r10 sm8 => ?_
       have F33 := F32.sl hs10; have q240 := kq hs10 sm8 12 q231; have q241 := kq hs10 sm8 9 q232; have q242 := kq hs10 sm8 11 q233; have q243 := kq hs10 sm8 1 q234; have q244 := kq hs10 sm8 2 q235; have q245 := kq hs10 sm8 10 q236; have q246 := kq hs10 sm8 8 q237; have q247 := kq hs10 sm8 68 q238; have q248 := kq hs10 sm8 74 q239; have o90 := Own.kl o87 hs10; have o91 := OwnM.kl o88 hs10; have o92 := Own.kl o89 hs10; have o93 := Own.kl o86 hs10
       have q249 : At (Ty.int (ltrN j)) s30 a34 (.tmp 75) := r10
       clear r10
       refine tL (R := (fun v τ => Pr.has (Ty.pr (Ty.sl 1 1 [(Ty.int (ltrN j))])) τ v)) ok31 (Yld.toL (y_build1o Try.underlying22 Try.inf3 rfl (one_val rfl) q249)) fun a35 s31 hs11 ok32 r11 sm9 => ?_
       have F34 := F33.sl hs11; have q250 := kq hs11 sm9 12 q240; have q251 := kq hs11 sm9 9 q241; have q252 := kq hs11 sm9 11 q242; have q253 := kq hs11 sm9 1 q243; have q254 := kq hs11 sm9 2 q244; have q255 := kq hs11 sm9 10 q245; have q256 := kq hs11 sm9 8 q246; have q257 := kq hs11 sm9 68 q247; have q258 := kq hs11 sm9 74 q248; have o94 := Own.kl o90 hs11; have o95 := OwnM.kl o91 hs11; have o96 := Own.kl o92 hs11; have o97 := Own.kl o93 hs11
       have q259 : At (Ty.sl 1 1 [(Ty.int (ltrN j))]) s31 a35 (.tmp 76) := r11
       clear r11
       refine tL ok32 (YldM.toL (m_append Try.underlying22 Try.inf3 (by decide) rfl (by decide) (al (R := (Pr.own 24 3 1 (List.length (W2.getD i [])) (List.map Ty.int (W2.getD i [])))) q258 o97) q259 (by intro U hU; simp at hU; subst hU; exact one_val rfl) (by omega) (by omega))) fun a36 s32 hs12 ok33 r12 sm10 => ?_
       have F35 := F34.sl hs12; have q260 := kq hs12 sm10 12 q250; have q261 := kq hs12 sm10 9 q251; have q262 := kq hs12 sm10 11 q252; have q263 := kq hs12 sm10 1 q253; have q264 := kq hs12 sm10 2 q254; have q265 := kq hs12 sm10 10 q255; have q266 := kq hs12 sm10 8 q256; have q267 := kq hs12 sm10 68 q257; have o99 := Own.kl o94 hs12; have o100 := OwnM.kl o95 hs12; have o101 := Own.kl o96 hs12
       obtain ⟨x7, hx7⟩ : ∃ x, a36.eval (.tmp 77) = x := ⟨_, rfl⟩
       have q268 : At (Ty.val x7) s32 a36 (.tmp 77) := hx7
       have o98 := al2 (R := (Pr.own 24 3 1 (List.length ((W2.getD i []) ++ [(ltrN j)])) (List.map Ty.int ((W2.getD i []) ++ [(ltrN j)])))) hx7 (cvo (by simp) (by first | (rw [List.map_append]; rfl) | simp) r12)
       clear r12
       obtain ⟨t7, e1, h1, q269⟩ := Own.seal o98 (by decide)
       rw [← e1]
       have F36 := F35.step h1 (by decide); have o102 := Own.keepL o99 (h1.toL (L := [24]) (by simp)) (by decide) (by decide); have o103 := OwnM.keepL o100 (h1.toL (L := [24]) (by simp)) (by decide) (by decide); have o104 := Own.keepL o101 (h1.toL (L := [24]) (by simp)) (by decide) (by decide); have q270 := Ty.up (Ty.nat j) (h1.le (by decide)) q260; have q271 := Ty.up (Ty.val x9_1) (h1.le (by decide)) q261; have q272 := Ty.up (Ty.nat i) (h1.le (by decide)) q262; have q273 := Ty.up (Ty.lst Ty.ints gens) (h1.le (by decide)) q263; have q274 := Ty.up (Ty.nat most) (h1.le (by decide)) q264; have q275 := Ty.up (Ty.val x3) (h1.le (by decide)) q265; have q276 := Ty.up (Ty.val x4) (h1.le (by decide)) q266; have q277 := Ty.up (Ty.val x9_1) (h1.le (by decide)) q267
       have q278 : At (Ty.lst Ty.int ((W2.getD i []) ++ [(ltrN j)])) t7 a36 (.tmp 77) := by have e : a36.eval (.tmp 77) = x7 := q268; show Ty.has _ _ _; rw [e]; exact q269
       refine tL (R := (fun v τ => Pr.has (Ty.pr (Ty.sl 1 1 [(Ty.lst Ty.int ((W2.getD i []) ++ [(ltrN j)]))])) τ v)) ok33 (Yld.toL (y_build1o Try.underlying24 Try.inf22 rfl (one_sl) q278)) fun a37 s33 hs13 ok34 r13 sm11 => ?_
       have F37 := F36.sl hs13; have q279 := kq hs13 sm11 12 q270; have q280 := kq hs13 sm11 9 q271; have q281 := kq hs13 sm11 11 q272; have q282 := kq hs13 sm11 1 q273; have q283 := kq hs13 sm11 2 q274; have q284 := kq hs13 sm11 10 q275; have q285 := kq hs13 sm11 8 q276; have q286 := kq hs13 sm11 68 q277; have o105 := Own.kl o102 hs13; have o106 := OwnM.kl o103 hs13; have o107 := Own.kl o104 hs13
       have q287 : At (Ty.sl 1 1 [(Ty.lst Ty.int ((W2.getD i []) ++ [(ltrN j)]))]) s33 a37 (.tmp 78) := r13
       clear r13
       refine tL ok34 (YldM.toL (m_append Try.underlying24 Try.inf22 (by decide) rfl (by decide) (al (R := (Pr.own 21 22 1 (List.length W2) (List.map Ty.ints W2))) q286 o105) q287 (by intro U hU; simp at hU; subst hU; exact one_sl) (by omega) (by omega))) fun a38 s34 hs14 ok35 r14 sm12 => ?_
       have F38 := F37.sl hs14; have q288 := kq hs14 sm12 12 q279; have q289 := kq hs14 sm12 9 q280; have q290 := kq hs14 sm12 11 q281; have q291 := kq hs14 sm12 1 q282; have q292 := kq hs14 sm12 2 q283; have q293 := kq hs14 sm12 10 q284; have q294 := kq hs14 sm12 8 q285; have o109 := OwnM.kl o106 hs14; have o110 := Own.kl o107 hs14
       obtain ⟨x8, hx8⟩ : ∃ x, a38.eval (.tmp 79) = x := ⟨_, rfl⟩
       have q295 : At (Ty.val x8) s34 a38 (.tmp 79) := hx8
       have o108 := al2 (R := (Pr.own 21 22 1 (List.length (W2 ++ [((W2.getD i []) ++ [(ltrN j)])])) (List.map Ty.ints (W2 ++ [((W2.getD i []) ++ [(ltrN j)])])))) hx8 (cvo (by simp) (by first | (rw [List.map_append]; rfl) | simp) r14)
       clear r14
       refine tL ok35 (Yld.toL (y_as q295)) fun a39 s35 hs15 ok36 r15 sm13 => ?_
       have F39 := F38.sl hs15; have q296 := kq hs15 sm13 12 q288; have q297 := kq hs15 sm13 11 q290; have q298 := kq hs15 sm13 1 q291; have q299 := kq hs15 sm13 2 q292; have q300 := kq hs15 sm13 10 q293; have q301 := kq hs15 sm13 8 q294; have o111 := OwnM.kl o109 hs15; have o112 := Own.kl o110 hs15; have o113 := Own.kl o108 hs15
       have q302 : At (Ty.val x8) s35 a39 (.tmp 9) := r15
       clear r15; refine wpList_nil (tn (wp_seq ?_))
       refine gI a39 s35 ok36 (gM q301 (gT (Ty.nat (List.length (L2 ++ [(byL ((L2.getD i [])) ((ltr gens j)))]))) rfl (fun A B E H I d0 => rP (own_len Try.underlying24 (al (R := (Pr.own 20 22 1 (List.length (L2 ++ [(byL ((L2.getD i [])) ((ltr gens j)))])) (List.map Ty.ints (L2 ++ [(byL ((L2.getD i [])) ((ltr gens j)))])))) (ed d0 rfl rfl rfl) (Own.k0 o112 E)))) (gM q299 (gS rfl (fun A B E H I d0 d1 => rP (y_gtr (ed d0 rfl rfl rfl) (ed d1 rfl rfl rfl))) (gE ok36 fun a40 s36 ok37 D21 => ?_))))); have F40 := F39.step0 D21.stp; have o114 := OwnM.k0 o111 D21.stp; have o115 := Own.k0 o112 D21.stp; have o116 := Own.k0 o113 D21.stp; refine tn ?_
       refine cond_p (p := (((most : Nat) : Int) < (((List.length (L2 ++ [(byL ((L2.getD i [])) ((ltr gens j)))])) : Nat) : Int))) (D21.dn 3 rfl rfl) (fun c5 => ?_) (fun c5 => ?_)
       ·
        refine wp_seq ?_
        refine gI a40 s36 ok37 (gC (Ty.val (Value.slice none 0 0)) (gC (Ty.val (Value.slice none 0 0)) (gE ok37 fun a41 s37 ok38 D22 => ?_))); have o117 := OwnM.k0 o114 D22.stp; have o118 := Own.k0 o115 D22.stp; have o119 := Own.k0 o116 D22.stp; refine tn (wp_ret (br (tr (tr (br (br (tr (tr (br (tr ?_))))))))))
        exact retL2 rfl ok38 (F40.step0 D22.stp) ⟨([] : List (List Int)), ([] : List (List Int)), (hasT2 (nil_lst (by (first | rfl | omega | (simp_all; done) | (simp_all; omega))) (D22.dn 0 rfl rfl)) (nil_lst (by (first | rfl | omega | (simp_all; done) | (simp_all; omega))) (D22.dn 1 rfl rfl))), (by exact ClI.many hC5 (by omega))⟩
       ·
        refine wp_skip (bn (tn ?_))
        refine gI a40 s36 ok37 (gM (D21.kt q296 rfl) (gT (Ty.nat (j + 1)) rfl (fun A B E H I d0 => rP ((y_add (ed d0 rfl rfl rfl) rfl (w64 (by omega) (by omega))).mono (fun τ _ h => cvi (σ := τ) (by first | omega | exact (Int.natCast_mul _ _).symm) h))) (gB 0 (gE ok37 fun a42 s38 ok39 D23 => ?_)))); have o120 := OwnM.k0 o114 D23.stp; have o121 := Own.k0 o115 D23.stp; have o122 := Own.k0 o116 D23.stp
        exact tn ⟨2 * gens.length - ((j+1)), by omega, s38, (j+1), (L2 ++ [(byL (L2.getD i []) (ltr gens j))]), (W2 ++ [(W2.getD i [] ++ [ltrN j])]), (fun p => if p = ((rankL (byL (L2.getD i []) (ltr gens j)) : Nat) : Int) then some true else f2 p), x4, x8, rfl, (F40.step0 D23.stp), ok39, (cvi (by (first | rfl | omega | (simp_all; done) | (simp_all; omega))) (D23.dn 2 rfl rfl)), (D23.kt (D21.kt q301 rfl) rfl), (D23.kt (D21.kt q302 rfl) rfl), (D23.kt (D21.kt q297 rfl) rfl), (D23.kt (D21.kt q298 rfl) rfl), (D23.kt (D21.kt q299 rfl) rfl), (D23.kt (D21.kt q300 rfl) rfl), (cvo (by (simp)) (by (simp)) o121), (cvo (by (simp)) (by (simp)) o122), (cvm (by (rfl)) o120), by omega, by (rw [List.length_append]; omega), by omega, hC5, hsn5, hwb2.new (by omega), rfl⟩
    ·
     have ej : j = 2 * gens.length := (by omega); have hC4 := (ej ▸ hC2 : ClI n gens L2 W2 i (2 * gens.length)).next
     refine wp_exit (tx (tx (bx (bn (tn ?_)))))
     refine gI a16 s13 ok14 (gM q75 (gT (Ty.nat (i + 1)) rfl (fun A B E H I d0 => rP ((y_add (ed d0 rfl rfl rfl) rfl (w64 (by omega) (by omega))).mono (fun τ _ h => cvi (σ := τ) (by first | omega | exact (Int.natCast_mul _ _).symm) h))) (gB 0 (gE ok14 fun a43 s39 ok40 D24 => ?_)))); have o123 := Own.k0 o34 D24.stp; have o124 := Own.k0 o35 D24.stp; have o125 := OwnM.k0 o36 D24.stp
     exact tn ⟨most - ((i + 1)), by omega, s39, (i + 1), L2, W2, f2, x8_1, x9_1, rfl, (F15.step0 D24.stp), ok40, (cvi (by (first | rfl | omega | (simp_all; done) | (simp_all; omega))) (D24.dn 2 rfl rfl)), (D24.kt q73 rfl), (D24.kt q74 rfl), (D24.kt q76 rfl), (D24.kt q77 rfl), (D24.kt q78 rfl), (cvo (by (simp)) (by (simp)) o123), (cvo (by (simp)) (by (simp)) o124), (cvm (by (rfl)) o125), by omega, hl2, hC4, hsn2, hwb2, rfl⟩
  ·
   have ei : i = L.length := (by omega); have hC9 : ClosedP n gens most L W := ClI.closed hn hg (ei ▸ hC) hl
   refine wp_exit (tx (tx (bx (tn (wp_seq ?_)))))
   refine gI a12 s11 ok11 (gM q52 (gM q53 (gB 0 (gB 0 (gE ok11 fun a44 s40 ok41 D25 => ?_))))); have o126 := Own.k0 o25 D25.stp; have o127 := Own.k0 o26 D25.stp; have o128 := OwnM.k0 o27 D25.stp
   have q326 : At (Ty.val x8_0) s40 a44 (.tmp 6) := D25.done 2
   have q327 : At (Ty.val x9_0) s40 a44 (.tmp 7) := D25.done 3
   refine tn (wp_ret ?_)
   obtain ⟨t8, e2, h2, q328⟩ := Own.seal o126 (by decide)
   rw [← e2]
   have F45 := (F12.step0 D25.stp).step h2 (by decide); have o129 := Own.keepL o127 (h2.toL (L := [20]) (by simp)) (by decide) (by decide)
   have q329 : At (Ty.lst Ty.ints L) t8 a44 (.tmp 6) := by have e : a44.eval (.tmp 6) = x8_0 := q326; show Ty.has _ _ _; rw [e]; exact q328
   have q330 := Ty.up (Ty.val x9_0) (h2.le (by decide)) q327
   obtain ⟨t9, e3, h3, q331⟩ := Own.seal o129 (by decide)
   rw [← e3]
   have F46 := F45.step h3 (by decide); have q332 := Ty.up (Ty.lst Ty.ints L) (h3.le (by decide)) q329
   have q333 : At (Ty.lst Ty.ints W) t9 a44 (.tmp 7) := by have e : a44.eval (.tmp 7) = x9_0 := q330; show Ty.has _ _ _; rw [e]; exact q331
   exact retL2 rfl ok41 F46 ⟨L, W, (hasT2 (cvt (by (first | rfl | omega | (simp_all; done) | (simp_all; omega))) q332) q333), (by exact hC9)⟩


end Go.Proofs.Ytkjifbgofckfeaa
