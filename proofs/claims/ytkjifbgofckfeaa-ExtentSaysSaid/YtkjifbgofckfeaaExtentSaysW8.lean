/- The functions that the law ExtentSays reaches, each by its contract. Part 8. -/
import Derived.Test.YtkjifbgofckfeaaExtentSaysW7
namespace Go.Proofs.Ytkjifbgofckfeaa
open Go.KL

set_option maxHeartbeats 4000000 in
set_option maxRecDepth 100000 in
theorem rCircuits_fn (n : Nat) (gens : List (List Int)) (E : List (List Int)) (x : List Int) (y : List Int) (ch : List Int) (σ : GW)  (v0 v1 v2 v3 : Value) (hv0 : Ty.has (Ty.lst Ty.ints E) σ v0) (hv1 : Ty.has (Ty.lst Ty.int x) σ v1) (hv2 : Ty.has (Ty.lst Ty.int y) σ v2) (hv3 : Ty.has (Ty.lst Ty.int ch) σ v3)  (hn : 1 ≤ n ∧ n ≤ 12) (hG : ∀ x ∈ gens, RowN n x) (hEO : EltsOk n gens E) (hx : Cl n (fun y => y ∈ gens) x) (hy : Cl n (fun y => y ∈ gens) y) (hE : E.length ≤ 5040) (hch : ch.length = (theQ (qN E x y) E.length).length) :
    FnC Try.prog 30 #[v0, v1, v2, v3] σ (Ty.nat (cirN (toE E x y (theQ (qN E x y) E.length) ch) E.length)) := by
 have hyro := (hy.row hn hG).row
 have hrE := hEO.rows hn hG
 have hxr := hx.row hn hG
 have hyr := hy.row hn hG
 have hyu := hyr.undo
 have hqp := hEO.qPerm hn hG hx hy
 have hxl := hxr.len
 have hyl := hyr.len
 have hyul := hyu.len
 refine fn_intro0 Try.func30 rfl Try.ntmps30 (Nat.le_of_ble_eq_true rfl) (fun s0 a0 hle F0 ok0 hargs => ?_)
 have p0 := pA hle (hargs 0 _ rfl) hv0
 have b1 := sl_le p0
 have p1 := pA hle (hargs 1 _ rfl) hv1
 have b2 := sl_le p1
 have p2 := pA hle (hargs 2 _ rfl) hv2
 have b3 := sl_le p2
 have p3 := pA hle (hargs 3 _ rfl) hv3
 have b4 := sl_le p3
 clear hargs; refine wp_seq ?_
 refine gI a0 s0 ok0 (gC (Ty.int (0 : Int)) (gE ok0 fun a1 s1 ok1 D1 => ?_)); have q1 := D1.kt p0 rfl; have q2 := D1.kt p1 rfl; have q3 := D1.kt p2 rfl; refine tn (wp_seq ?_)
 refine gI a1 s1 ok1 (gM q1 (gM q2 (gM q3 (gE2 ok1 fun a2 s2 ok2 D2 => ?_))))
 refine tL ok2 (y_callL (L := []) [] [] _ rfl (by decide) Try.func28 rfl rfl my3 (rQsets_fn (n) (gens) (E) (x) (y) _ (GW.low_lend _ (by decide)) _ _ _ (Ty.up _ (GW.le_lend _ _) (D2.dn 0 (by decide) rfl rfl)) (Ty.up _ (GW.le_lend _ _) (D2.dn 1 (by decide) rfl rfl)) (Ty.up _ (GW.le_lend _ _) (D2.dn 2 (by decide) rfl rfl))  (by first | omega | assumption | exact hyr.row) (by first | omega | assumption | exact hyr.row) (by first | omega | assumption | exact hyr.row) (by first | omega | assumption | exact hyr.row) (by first | omega | assumption | exact hyr.row) (by first | omega | assumption | exact hyr.row))) fun a3 s3 hs1 ok3 r1 sm1 => ?_
 have F3 := ((F0.step0 D1.stp).step0 D2.stp).stepL hs1 (by decide); have q12 := kpL hs1 (by decide) (sm1 0 (by decide)) (D2.kt q1 rfl); have q13 := kpL hs1 (by decide) (sm1 1 (by decide)) (D2.kt q2 rfl); have q14 := kpL hs1 (by decide) (sm1 2 (by decide)) (D2.kt q3 rfl); have q15 := kpL hs1 (by decide) (sm1 3 (by decide)) (D2.kt (D1.kt p3 rfl) rfl)
 obtain ⟨t1, ⟨g1, hT1, hp1⟩, B1⟩ := r1
 have q16 : At (Ty.lst Ty.ints (g1)) s3 a3 (.tmp 23) := Ty.up _ B1.le hT1
 refine tL ok3 (Yld.toL (y_as q16)) fun a4 s4 hs2 ok4 r2 sm2 => ?_
 have F4 := F3.stepL hs2 (by decide); have q17 := kpL hs2 (by decide) (sm2 0 (by decide)) q12; have q18 := kpL hs2 (by decide) (sm2 1 (by decide)) q13; have q19 := kpL hs2 (by decide) (sm2 2 (by decide)) q14; have q20 := kpL hs2 (by decide) (sm2 3 (by decide)) q15
 have q21 : At (Ty.lst Ty.ints (g1)) s4 a4 (.tmp 9) := r2
 clear r2; refine wpList_nil (tn (wp_seq ?_))
 refine gI a4 s4 ok4 (gR (Pr.ownm Ty.int kI 5 (fun _ => none : Int → Option Int)) rfl (by intro A B G H I; exact rP (y_makemap 5)) (gE2 ok4 fun a5 s5 ok5 D3 => ?_))
 obtain ⟨x1, hx1⟩ : ∃ x, a5.eval (.tmp 24) = x := ⟨_, rfl⟩
 have q27 : At (Ty.val x1) s5 a5 (.tmp 24) := hx1
 have o1 := al2 (R := (Pr.ownm Ty.int kI 5 (fun _ => none : Int → Option Int))) hx1 (D3.done 0 (by decide))
 refine tL ok5 (Yld.toL (y_as q27)) fun a6 s6 hs3 ok6 r3 sm3 => ?_
 have F6 := (F4.step0 D3.stp).stepL hs3 (by decide); have q28 := kpL hs3 (by decide) (sm3 0 (by decide)) (D3.kt q17 rfl); have q29 := kpL hs3 (by decide) (sm3 1 (by decide)) (D3.kt q18 rfl); have q30 := kpL hs3 (by decide) (sm3 2 (by decide)) (D3.kt q19 rfl); have q31 := kpL hs3 (by decide) (sm3 3 (by decide)) (D3.kt q20 rfl); have q32 := kpL hs3 (by decide) (sm3 9 (by decide)) (D3.kt q21 rfl); have o2 := OwnM.keepL o1 hs3 (by decide) (by decide)
 have q33 : At (Ty.val x1) s6 a6 (.tmp 10) := r3
 clear r3; refine wpList_nil (tn (wp_seq (wp_seq ?_)))
 refine gI a6 s6 ok6 (gC (Ty.int (0 : Int)) (gE ok6 fun a7 s7 ok7 D4 => ?_)); have o3 := OwnM.k0 o2 D4.stp; refine tn (wp_block ?_)
 refine loop (fun n1 a8 w1 => ∃ (t2 : GW) (a : Nat), t2.w = w1 ∧ FromL [] s0 t2 ∧ Ok 117 [] a8 ∧ At (Ty.nat a) t2 a8 (.tmp 11) ∧ At (Ty.lst Ty.ints E) t2 a8 (.tmp 0) ∧ At (Ty.lst Ty.int x) t2 a8 (.tmp 1) ∧ At (Ty.lst Ty.int y) t2 a8 (.tmp 2) ∧ At (Ty.lst Ty.int ch) t2 a8 (.tmp 3) ∧ At (Ty.lst Ty.ints (g1)) t2 a8 (.tmp 9) ∧ At (Ty.val x1) t2 a8 (.tmp 10) ∧ OwnM Ty.int kI t2 5 x1 (plF E a) ∧ (a ≤ E.length) ∧ n1 = E.length - a) (E.length - (0)) ?_ ?_
 ·
  exact ⟨s7, 0, rfl, (F6.step0 D4.stp), ok7, (cvi (by (first | rfl | omega | (simp_all; done) | (simp_all; omega))) (D4.dn 0 rfl rfl)), (D4.kt q28 rfl), (D4.kt q29 rfl), (D4.kt q30 rfl), (D4.kt q31 rfl), (D4.kt q32 rfl), (D4.kt q33 rfl), (cvm (by (rfl)) o3), by omega, rfl⟩
 ·
  rintro n2 a9 w2 ⟨t3, a, rfl, F8, ok8, q41, q42, q43, q44, q45, q46, q47, o4, ha, rfl⟩
  refine wp_seq (wp_seq ?_)
  refine gI a9 t3 ok8 (gM q41 (gM q42 (gS rfl (fun A B G H I d0 => rP (y_len Try.underlying24 (ed d0 rfl rfl rfl))) (gS rfl (fun A B G H I d0 d1 => rP (y_lss (ed d0 rfl rfl rfl) (ed d1 rfl rfl rfl))) (gE ok8 fun a10 s8 ok9 D5 => ?_))))); have F9 := F8.step0 D5.stp; have q48 := D5.kt q41 rfl; have q49 := D5.kt q42 rfl; have q50 := D5.kt q43 rfl; have q51 := D5.kt q44 rfl; have q52 := D5.kt q45 rfl; have q53 := D5.kt q46 rfl; have q54 := D5.kt q47 rfl; have o5 := OwnM.k0 o4 D5.stp; refine tn ?_
  refine cond_p (p := (((a : Nat) : Int) < (((List.length E) : Nat) : Int))) (D5.dn 3 rfl rfl) (fun c1 => ?_) (fun c1 => ?_)
  ·
   have her := hrE _ (mem_atD [] (show a < E.length by omega)); have hea := her.row
   refine wp_skip (tn (wp_seq (wp_block ?_)))
   refine gI a10 s8 ok9 (gM q54 (gM q49 (gM q48 (gT (Ty.ref [(Ty.lst Ty.int (E.getD a []))]) rfl (fun A B G H I d0 d1 => rP (y_index1 Try.underlying24 Try.inf22 (ed d0 rfl rfl rfl) (ed d1 rfl rfl rfl) (by omega) (lst_get Ty.ints E [] a (by omega)))) (gS rfl (fun A B G H I d0 => rP (y_load Try.underlying22 rfl (ed d0 rfl rfl rfl) rfl)) (gS rfl (fun A B G H I d0 => rP (y_call _ Try.func21 rfl rfl my1 (rRank_fn ((E.getD a [])) _ _ (ed d0 rfl rfl rfl) (by first | omega | assumption)))) (gM q48 (gE2 ok9 fun a11 s9 ok10 D6 => ?_)))))))); have o6 := OwnM.k0 o5 D6.stp
   have q63 : At (Ty.val x1) s9 a11 (.tmp 31) := D6.done 0 (by decide)
   refine tailL0 (L := [5]) (R := (fun _ τ => OwnM Ty.int kI τ 5 x1 (fun x_ => if x_ = (((rankL ((E.getD a []))) : Nat) : Int) then some ((a : Nat) : Int) else (plF E a) x_))) rfl rfl (YldM.toL (m_mapset (i := (((rankL ((E.getD a []))) : Nat) : Int)) Try.underlying100 (keyInt Try.underlying3) (by decide) o6 q63 (D6.dn 5 (by decide) rfl rfl) (D6.dn 6 (by decide) rfl rfl))) (fun v1 s10 hs4 r4 => ?_)
   have F11 := (F9.step0 D6.stp).stepL hs4 (by decide); have q66 := kpL hs4 (by decide) rfl (D6.kt q48 rfl); have q67 := kpL hs4 (by decide) rfl (D6.kt q49 rfl); have q68 := kpL hs4 (by decide) rfl (D6.kt q50 rfl); have q69 := kpL hs4 (by decide) rfl (D6.kt q51 rfl); have q70 := kpL hs4 (by decide) rfl (D6.kt q52 rfl); have q71 := kpL hs4 (by decide) rfl (D6.kt q53 rfl); have q72 := kpL hs4 (by decide) rfl (D6.kt q54 rfl)
   have o7 : OwnM Ty.int kI s10 5 x1 (fun x_ => if x_ = (((rankL ((E.getD a []))) : Nat) : Int) then some ((a : Nat) : Int) else (plF E a) x_) := r4
   clear r4; refine wpList_nil (bn (tn ?_))
   refine gI a11 s10 ok10 (gM q66 (gT (Ty.nat (a + 1)) rfl (fun A B G H I d0 => rP ((y_add (ed d0 rfl rfl rfl) rfl (w64 (by omega) (by omega))).mono (fun τ _ h => cvi (σ := τ) (by first | omega | exact (Int.natCast_mul _ _).symm) h))) (gB 0 (gE ok10 fun a12 s11 ok11 D7 => ?_)))); have o8 := OwnM.k0 o7 D7.stp
   exact tn ⟨E.length - ((a+1)), by omega, s11, (a+1), rfl, (F11.step0 D7.stp), ok11, (cvi (by (first | rfl | omega | (simp_all; done) | (simp_all; omega))) (D7.dn 2 rfl rfl)), (D7.kt q67 rfl), (D7.kt q68 rfl), (D7.kt q69 rfl), (D7.kt q70 rfl), (D7.kt q71 rfl), (D7.kt q72 rfl), (cvm (by (rfl)) o8), by omega, rfl⟩
  ·
   have ea : a = E.length := (by omega)
   refine wp_exit (tx (tx (bx (tn (wp_seq ?_)))))
   refine gI a10 s8 ok9 (gM q49 (gS rfl (fun A B G H I d0 => rP (y_len Try.underlying24 (ed d0 rfl rfl rfl))) (gR (Pr.own 6 3 1 (List.length E) (List.map Ty.int (List.replicate (List.length E) 0))) rfl (by intro A B G H I d0 d1; have e1 := ed d0 rfl rfl rfl; exact rP ((y_make (k := 6) (T := Ty.int 0) (n := (List.length E)) Try.underlying22 Try.inf3 rfl (fun _ => rfl) e1 e1 (by omega) (by omega)).mono (fun _ _ h => cvo (by simp) (by simp) h))) (gE2 ok9 fun a13 s12 ok12 D8 => ?_)))); have o9 := OwnM.k0 o5 D8.stp
   obtain ⟨x2, hx2⟩ : ∃ x, a13.eval (.tmp 40) = x := ⟨_, rfl⟩
   have q87 : At (Ty.val x2) s12 a13 (.tmp 40) := hx2
   have o10 := al2 (R := (Pr.own 6 3 1 (List.length E) (List.map Ty.int (List.replicate (List.length E) 0)))) hx2 (D8.done 2 (by decide))
   refine tL ok12 (Yld.toL (y_as q87)) fun a14 s13 hs5 ok13 r5 sm4 => ?_
   have F14 := (F9.step0 D8.stp).stepL hs5 (by decide); have q88 := kpL hs5 (by decide) (sm4 0 (by decide)) (D8.kt q49 rfl); have q89 := kpL hs5 (by decide) (sm4 1 (by decide)) (D8.kt q50 rfl); have q90 := kpL hs5 (by decide) (sm4 2 (by decide)) (D8.kt q51 rfl); have q91 := kpL hs5 (by decide) (sm4 3 (by decide)) (D8.kt q52 rfl); have q92 := kpL hs5 (by decide) (sm4 9 (by decide)) (D8.kt q53 rfl); have q93 := kpL hs5 (by decide) (sm4 10 (by decide)) (D8.kt q54 rfl); have o11 := OwnM.keepL o9 hs5 (by decide) (by decide); have o12 := Own.keepL o10 hs5 (by decide) (by decide)
   have q94 : At (Ty.val x2) s13 a14 (.tmp 12) := r5
   clear r5; refine wpList_nil (tn (wp_seq (wp_seq ?_)))
   refine gI a14 s13 ok13 (gC (Ty.int (0 : Int)) (gE ok13 fun a15 s14 ok14 D9 => ?_)); have o13 := OwnM.k0 o11 D9.stp; have o14 := Own.k0 o12 D9.stp; refine tn (wp_block ?_)
   refine loop (fun n3 a16 w3 => ∃ (t4 : GW) (k : Nat) (x12_1 : Value), t4.w = w3 ∧ FromL [] s0 t4 ∧ Ok 117 [] a16 ∧ At (Ty.nat k) t4 a16 (.tmp 13) ∧ At (Ty.val x12_1) t4 a16 (.tmp 12) ∧ At (Ty.lst Ty.ints E) t4 a16 (.tmp 0) ∧ At (Ty.lst Ty.int x) t4 a16 (.tmp 1) ∧ At (Ty.lst Ty.int y) t4 a16 (.tmp 2) ∧ At (Ty.lst Ty.int ch) t4 a16 (.tmp 3) ∧ At (Ty.lst Ty.ints (g1)) t4 a16 (.tmp 9) ∧ At (Ty.val x1) t4 a16 (.tmp 10) ∧ Own t4 6 3 1 x12_1 (List.length (toK g1 (vK E x y ch) E.length k)) (List.map Ty.int (toK g1 (vK E x y ch) E.length k)) ∧ OwnM Ty.int kI t4 5 x1 (plF E a) ∧ (k ≤ g1.length) ∧ n3 = g1.length - k) (g1.length - (0)) ?_ ?_
   ·
    exact ⟨s14, 0, x2, rfl, (F14.step0 D9.stp), ok14, (cvi (by (first | rfl | omega | (simp_all; done) | (simp_all; omega))) (D9.dn 0 rfl rfl)), (D9.kt q94 rfl), (D9.kt q88 rfl), (D9.kt q89 rfl), (D9.kt q90 rfl), (D9.kt q91 rfl), (D9.kt q92 rfl), (D9.kt q93 rfl), (cvo (by (first | rfl | simp [toK])) (by (first | rfl | simp [toK])) o14), o13, by omega, rfl⟩
   ·
    rintro n4 a17 w4 ⟨t5, k, x12_1, rfl, F16, ok15, q103, q104, q105, q106, q107, q108, q109, q110, o15, o16, hk, rfl⟩
    have htk := toE_ok (ch := ch) hn hG hEO hx hy hp1 (show k ≤ g1.length by omega)
    have htkl := htk.len
    have hQl := hp1.len
    have hchl : ch.length = g1.length := (by rw [hch, hp1.the])
    refine wp_seq (wp_seq ?_)
    refine gI a17 t5 ok15 (gM q103 (gM q109 (gS rfl (fun A B G H I d0 => rP (y_len Try.underlying24 (ed d0 rfl rfl rfl))) (gS rfl (fun A B G H I d0 d1 => rP (y_lss (ed d0 rfl rfl rfl) (ed d1 rfl rfl rfl))) (gE ok15 fun a18 s15 ok16 D10 => ?_))))); have F17 := F16.step0 D10.stp; have q112 := D10.kt q104 rfl; have q113 := D10.kt q105 rfl; have o17 := Own.k0 o15 D10.stp; have o18 := OwnM.k0 o16 D10.stp; refine tn ?_
    refine cond_p (p := (((k : Nat) : Int) < (((List.length (g1)) : Nat) : Int))) (D10.dn 3 rfl rfl) (fun c2 => ?_) (fun c2 => ?_)
    ·
     have hqm := hp1.mem (show k < g1.length by omega)
     refine wp_skip (tn (wp_seq (wp_block (wp_seq ?_))))
     refine gI a18 s15 ok16 (gC (Ty.int (0 : Int)) (gE ok16 fun a19 s16 ok17 D11 => ?_)); have o19 := Own.k0 o17 D11.stp; have o20 := OwnM.k0 o18 D11.stp; refine tn (wp_block ?_)
     refine loop (fun n5 a20 w5 => ∃ (t6 : GW) (j : Nat) (x12_2 : Value), t6.w = w5 ∧ FromL [] s0 t6 ∧ Ok 117 [] a20 ∧ At (Ty.nat j) t6 a20 (.tmp 14) ∧ At (Ty.val x12_2) t6 a20 (.tmp 12) ∧ At (Ty.nat k) t6 a20 (.tmp 13) ∧ At (Ty.lst Ty.ints E) t6 a20 (.tmp 0) ∧ At (Ty.lst Ty.int x) t6 a20 (.tmp 1) ∧ At (Ty.lst Ty.int y) t6 a20 (.tmp 2) ∧ At (Ty.lst Ty.int ch) t6 a20 (.tmp 3) ∧ At (Ty.lst Ty.ints (g1)) t6 a20 (.tmp 9) ∧ At (Ty.val x1) t6 a20 (.tmp 10) ∧ Own t6 6 3 1 x12_2 (List.length (setA ((vK E x y ch) k) (toK g1 (vK E x y ch) E.length k) ((g1.getD k []).take j))) (List.map Ty.int (setA ((vK E x y ch) k) (toK g1 (vK E x y ch) E.length k) ((g1.getD k []).take j))) ∧ OwnM Ty.int kI t6 5 x1 (plF E a) ∧ (j ≤ (g1.getD k []).length) ∧ n5 = (g1.getD k []).length - j) ((g1.getD k []).length - (0)) ?_ ?_
     ·
      exact ⟨s16, 0, x12_1, rfl, (F17.step0 D11.stp), ok17, (cvi (by (first | rfl | omega | (simp_all; done) | (simp_all; omega))) (D11.dn 0 rfl rfl)), (D11.kt q112 rfl), (D11.kt (D10.kt q103 rfl) rfl), (D11.kt q113 rfl), (D11.kt (D10.kt q106 rfl) rfl), (D11.kt (D10.kt q107 rfl) rfl), (D11.kt (D10.kt q108 rfl) rfl), (D11.kt (D10.kt q109 rfl) rfl), (D11.kt (D10.kt q110 rfl) rfl), (cvo (by (first | rfl | simp [setA_nil])) (by (first | rfl | simp [setA_nil])) o19), o20, by omega, rfl⟩
     ·
      rintro n6 a21 w6 ⟨t7, j, x12_2, rfl, F19, ok18, q129, q130, q131, q132, q133, q134, q135, q136, q137, o21, o22, hj, rfl⟩
      have hsl := setA_lenE (v := (vK E x y ch) k) (to := toK g1 (vK E x y ch) E.length k) (js := (g1.getD k []).take j)
      refine wp_seq (wp_seq ?_)
      refine gI a21 t7 ok18 (gM q129 (gM q136 (gM q131 (gT (Ty.ref [(Ty.lst Ty.int ((g1).getD k []))]) rfl (fun A B G H I d0 d1 => rP (y_index1 Try.underlying24 Try.inf22 (ed d0 rfl rfl rfl) (ed d1 rfl rfl rfl) (by omega) (lst_get Ty.ints (g1) [] k (by omega)))) (gS rfl (fun A B G H I d0 => rP (y_load Try.underlying22 rfl (ed d0 rfl rfl rfl) rfl)) (gS rfl (fun A B G H I d0 => rP (y_len Try.underlying22 (ed d0 rfl rfl rfl))) (gS rfl (fun A B G H I d0 d1 => rP (y_lss (ed d0 rfl rfl rfl) (ed d1 rfl rfl rfl))) (gE ok18 fun a22 s17 ok19 D12 => ?_)))))))); have F20 := F19.step0 D12.stp; have q139 := D12.kt q130 rfl; have q140 := D12.kt q131 rfl; have q141 := D12.kt q132 rfl; have q142 := D12.kt q133 rfl; have q143 := D12.kt q134 rfl; have q144 := D12.kt q135 rfl; have q145 := D12.kt q136 rfl; have q146 := D12.kt q137 rfl; have o23 := Own.k0 o21 D12.stp; have o24 := OwnM.k0 o22 D12.stp; refine tn ?_
      refine cond_p (p := (((j : Nat) : Int) < (((List.length ((g1).getD k [])) : Nat) : Int))) (D12.dn 6 rfl rfl) (fun c3 => ?_) (fun c3 => ?_)
      ·
       have hqj := hqm.2 j (by omega); have hqr := hrE _ (mem_atD [] (show ((g1.getD k []).getD j 0).toNat < E.length by omega)); have hcr : RowN n (if ch.getD k 0 = 1 then y else x) := (by split; exact hyr; exact hxr); have hb1 := hcr.bds hqr.len; have hrr := (hqr.by hcr).row; have hcl := hcr.len; have hql := hqr.len; have hval : (plF E a ((rankL (byL (E.getD ((g1.getD k []).getD j 0).toNat []) (if ch.getD k 0 = 1 then y else x)) : Nat) : Int)).getD 0 = vK E x y ch k ((g1.getD k []).getD j 0).toNat := (by rw [ea]; exact (actL_get (Nat.le_refl _) (by omega)).symm)
       refine wp_skip (tn (wp_seq (wp_block (wp_seq ?_))))
       refine gI a22 s17 ok19 (gM q142 (gB 0 (gE ok19 fun a23 s18 ok20 D13 => ?_))); have q150 := D13.kt q140 rfl; have q154 := D13.kt q144 rfl; have o25 := Own.k0 o23 D13.stp; have o26 := OwnM.k0 o24 D13.stp; refine tn (wp_seq (wp_seq ?_))
       refine gI a23 s18 ok20 (gM q154 (gM q150 (gT (Ty.ref [(Ty.int (ch.getD k 0))]) rfl (fun A B G H I d0 d1 => rP (y_index1 Try.underlying22 Try.inf3 (ed d0 rfl rfl rfl) (ed d1 rfl rfl rfl) (by omega) (lst_get Ty.int ch 0 k (by omega)))) (gS rfl (fun A B G H I d0 => rP (y_load Try.underlying3 rfl (ed d0 rfl rfl rfl) rfl)) (gS rfl (fun A B G H I d0 => rP (y_eql (ed d0 rfl rfl rfl) rfl)) (gE ok20 fun a24 s19 ok21 D14 => ?_)))))); have F22 := (F20.step0 D13.stp).step0 D14.stp; have q158 := D14.kt (D13.kt (D12.kt q129 rfl) rfl) rfl; have q159 := D14.kt (D13.kt q139 rfl) rfl; have q160 := D14.kt q150 rfl; have q161 := D14.kt (D13.kt q141 rfl) rfl; have q162 := D14.kt (D13.kt q142 rfl) rfl; have q163 := D14.kt (D13.kt q143 rfl) rfl; have q164 := D14.kt q154 rfl; have q165 := D14.kt (D13.kt q145 rfl) rfl; have q166 := D14.kt (D13.kt q146 rfl) rfl; have o27 := Own.k0 o25 D14.stp; have o28 := OwnM.k0 o26 D14.stp; refine tn ?_
       refine Go.KL.join_then (Q' := fun a25 w7 => ∃ (t8 : GW), t8.w = w7 ∧ FromL [] s0 t8 ∧ Ok 117 [] a25 ∧ At (Ty.lst Ty.int (if ch.getD k 0 = 1 then y else x)) t8 a25 (.tmp 15) ∧ At (Ty.nat j) t8 a25 (.tmp 14) ∧ At (Ty.val x12_2) t8 a25 (.tmp 12) ∧ At (Ty.nat k) t8 a25 (.tmp 13) ∧ At (Ty.lst Ty.ints E) t8 a25 (.tmp 0) ∧ At (Ty.lst Ty.int x) t8 a25 (.tmp 1) ∧ At (Ty.lst Ty.int y) t8 a25 (.tmp 2) ∧ At (Ty.lst Ty.int ch) t8 a25 (.tmp 3) ∧ At (Ty.lst Ty.ints (g1)) t8 a25 (.tmp 9) ∧ At (Ty.val x1) t8 a25 (.tmp 10) ∧ Own t8 6 3 1 x12_2 (List.length (setA ((vK E x y ch) k) (toK g1 (vK E x y ch) E.length k) ((g1.getD k []).take j))) (List.map Ty.int (setA ((vK E x y ch) k) (toK g1 (vK E x y ch) E.length k) ((g1.getD k []).take j))) ∧ OwnM Ty.int kI t8 5 x1 (plF E a) ∧ True) ?_ ?_
       ·
        refine cond_p (p := ((ch.getD k 0) = (1 : Int))) (D14.dn 4 rfl rfl) (fun c4 => ?_) (fun c4 => ?_)
        ·
         refine gI a24 s19 ok21 (gM q163 (gB 0 (gE ok21 fun a26 s20 ok22 D15 => ?_))); have o29 := Own.k0 o27 D15.stp; have o30 := OwnM.k0 o28 D15.stp
         exact tn ⟨s20, rfl, (F22.step0 D15.stp), ok22, (cvt (by (rw [if_pos c4])) (D15.dn 1 rfl rfl)), (D15.kt q158 rfl), (D15.kt q159 rfl), (D15.kt q160 rfl), (D15.kt q161 rfl), (D15.kt q162 rfl), (D15.kt q163 rfl), (D15.kt q164 rfl), (D15.kt q165 rfl), (D15.kt q166 rfl), o29, o30, trivial⟩
        ·
         refine wp_skip ?_
         exact tn ⟨s19, rfl, F22, ok21, (cvt (by (rw [if_neg c4])) (D14.kt (D13.dn 1 rfl rfl) rfl)), q158, q159, q160, q161, q162, q163, q164, q165, q166, o27, o28, trivial⟩
       ·
        rintro a27 w8 ⟨t9, rfl, F24, ok23, q179, q180, q181, q182, q183, q184, q185, q186, q187, q188, o31, o32, -⟩
        refine gI a27 t9 ok23 (gM q181 (gM q187 (gM q182 (gT (Ty.ref [(Ty.lst Ty.int ((g1).getD k []))]) rfl (fun A B G H I d0 d1 => rP (y_index1 Try.underlying24 Try.inf22 (ed d0 rfl rfl rfl) (ed d1 rfl rfl rfl) (by omega) (lst_get Ty.ints (g1) [] k (by omega)))) (gS rfl (fun A B G H I d0 => rP (y_load Try.underlying22 rfl (ed d0 rfl rfl rfl) rfl)) (gM q180 (gT (Ty.ref [(Ty.int (((g1).getD k []).getD j 0))]) rfl (fun A B G H I d0 d1 => rP (y_index1 Try.underlying22 Try.inf3 (ed d0 rfl rfl rfl) (ed d1 rfl rfl rfl) (by omega) (lst_get Ty.int ((g1).getD k []) 0 j (by omega)))) (gS rfl (fun A B G H I d0 => rP (y_load Try.underlying3 rfl (ed d0 rfl rfl rfl) rfl)) (gM q188 (gM q183 (gM q187 (gM q182 (gT (Ty.ref [(Ty.lst Ty.int ((g1).getD k []))]) rfl (fun A B G H I d0 d1 => rP (y_index1 Try.underlying24 Try.inf22 (ed d0 rfl rfl rfl) (ed d1 rfl rfl rfl) (by omega) (lst_get Ty.ints (g1) [] k (by omega)))) (gS rfl (fun A B G H I d0 => rP (y_load Try.underlying22 rfl (ed d0 rfl rfl rfl) rfl)) (gM q180 (gT (Ty.ref [(Ty.int (((g1).getD k []).getD j 0))]) rfl (fun A B G H I d0 d1 => rP (y_index1 Try.underlying22 Try.inf3 (ed d0 rfl rfl rfl) (ed d1 rfl rfl rfl) (by omega) (lst_get Ty.int ((g1).getD k []) 0 j (by omega)))) (gS rfl (fun A B G H I d0 => rP (y_load Try.underlying3 rfl (ed d0 rfl rfl rfl) rfl)) (gT (Ty.ref [(Ty.lst Ty.int (E.getD ((((g1).getD k []).getD j 0)).toNat []))]) rfl (fun A B G H I d0 d1 => rP (y_index1 Try.underlying24 Try.inf22 (ed d0 rfl rfl rfl) (ed d1 rfl rfl rfl) (by omega) (lst_get Ty.ints E [] ((((g1).getD k []).getD j 0)).toNat (by omega)))) (gS rfl (fun A B G H I d0 => rP (y_load Try.underlying22 rfl (ed d0 rfl rfl rfl) rfl)) (gM q179 ?_))))))))))))))))))))
        refine gS rfl (fun A B G H I d0 d1 => rP (y_call _ Try.func22 rfl rfl my2 (rBy_fn ((E.getD ((((g1).getD k []).getD j 0)).toNat [])) ((if ch.getD k 0 = 1 then y else x)) _ _ _ (ed d0 rfl rfl rfl) (ed d1 rfl rfl rfl) (by first | assumption | omega) (by first | assumption | omega)))) (gS rfl (fun A B G H I d0 d1 => rP (y_call _ Try.func21 rfl rfl my1 (rRank_fn ((byL ((E.getD ((((g1).getD k []).getD j 0)).toNat [])) ((if ch.getD k 0 = 1 then y else x)))) _ _ (ed d0 rfl rfl rfl) (by first | omega | assumption)))) (gT (Ty.int (((plF E a) (((rankL ((byL ((E.getD ((((g1).getD k []).getD j 0)).toNat [])) ((if ch.getD k 0 = 1 then y else x))))) : Nat) : Int)).getD 0)) rfl (fun A B G H I d0 d1 => rP (y_lookup (i := (((rankL ((byL ((E.getD ((((g1).getD k []).getD j 0)).toNat [])) ((if ch.getD k 0 = 1 then y else x))))) : Nat) : Int)) (z := 0) Try.underlying100 (keyInt Try.underlying3) Try.inf3 (fun _ => rfl) (OwnM.k0 o32 G) (ed d0 rfl rfl rfl) (ed d1 rfl rfl rfl))) (gT (Ty.val (cellPtr x12_2 ((((g1).getD k []).getD j 0)).toNat)) rfl (fun A B G H I d0 d1 d2 d3 d4 d5 d6 d7 d8 d9 d10 d11 d12 d13 d14 d15 d16 d17 d18 d19 d20 d21 d22 d23 d24 => rP (own_index1 (i := (((g1).getD k []).getD j 0)) Try.underlying22 Try.inf3 (Own.k0 o31 G) (ed d0 rfl rfl rfl) (ed d1 rfl rfl rfl) (by omega) (by omega))) (gE2 ok23 fun a28 s21 ok24 D16 => ?_)))); have o33 := Own.k0 o31 D16.stp; have o34 := OwnM.k0 o32 D16.stp
        refine tailL0 (L := [6]) (R := (fun _ τ => Own τ 6 3 1 x12_2 (List.length (setA ((vK E x y ch) k) (toK g1 (vK E x y ch) E.length k) ((g1.getD k []).take j))) ((List.map Ty.int (setA ((vK E x y ch) k) (toK g1 (vK E x y ch) E.length k) ((g1.getD k []).take j))).set ((((g1).getD k []).getD j 0)).toNat (Ty.int (((plF E a) (((rankL ((byL ((E.getD ((((g1).getD k []).getD j 0)).toNat [])) ((if ch.getD k 0 = 1 then y else x))))) : Nat) : Int)).getD 0))))) rfl rfl (YldM.toL (m_store Try.inf3 (by decide) o33 (D16.dn 23 (by decide) rfl rfl) (by simp only [List.length_map, List.length_set]; omega) (D16.dn 22 (by decide) rfl rfl) (one_val rfl))) (fun v2 s22 hs6 r6 => ?_)
        have F26 := (F24.step0 D16.stp).stepL hs6 (by decide); have q200 := kpL hs6 (by decide) rfl (D16.kt q180 rfl); have q201 := kpL hs6 (by decide) rfl (D16.kt q181 rfl); have q202 := kpL hs6 (by decide) rfl (D16.kt q182 rfl); have q203 := kpL hs6 (by decide) rfl (D16.kt q183 rfl); have q204 := kpL hs6 (by decide) rfl (D16.kt q184 rfl); have q205 := kpL hs6 (by decide) rfl (D16.kt q185 rfl); have q206 := kpL hs6 (by decide) rfl (D16.kt q186 rfl); have q207 := kpL hs6 (by decide) rfl (D16.kt q187 rfl); have q208 := kpL hs6 (by decide) rfl (D16.kt q188 rfl); have o36 := OwnM.keepL o34 hs6 (by decide) (by decide)
        have o35 : Own s22 6 3 1 x12_2 (List.length ((setA ((vK E x y ch) k) (toK g1 (vK E x y ch) E.length k) ((g1.getD k []).take j)).set ((((g1).getD k []).getD j 0)).toNat (((plF E a) (((rankL ((byL ((E.getD ((((g1).getD k []).getD j 0)).toNat [])) ((if ch.getD k 0 = 1 then y else x))))) : Nat) : Int)).getD 0))) (List.map Ty.int ((setA ((vK E x y ch) k) (toK g1 (vK E x y ch) E.length k) ((g1.getD k []).take j)).set ((((g1).getD k []).getD j 0)).toNat (((plF E a) (((rankL ((byL ((E.getD ((((g1).getD k []).getD j 0)).toNat [])) ((if ch.getD k 0 = 1 then y else x))))) : Nat) : Int)).getD 0))) := (cvo (by simp) (by first | (simp; done) | (rw [List.map_set]; done) | (rw [List.map_set]; rfl)) r6)
        clear r6; refine wpList_nil (bn (tn ?_))
        refine gI a28 s22 ok24 (gM q200 (gT (Ty.nat (j + 1)) rfl (fun A B G H I d0 => rP ((y_add (ed d0 rfl rfl rfl) rfl (w64 (by omega) (by omega))).mono (fun τ _ h => cvi (σ := τ) (by first | omega | exact (Int.natCast_mul _ _).symm) h))) (gB 0 (gE ok24 fun a29 s23 ok25 D17 => ?_)))); have o37 := OwnM.k0 o36 D17.stp; have o38 := Own.k0 o35 D17.stp
        exact tn ⟨(g1.getD k []).length - ((j+1)), by omega, s23, (j+1), x12_2, rfl, (F26.step0 D17.stp), ok25, (cvi (by (first | rfl | omega | (simp_all; done) | (simp_all; omega))) (D17.dn 2 rfl rfl)), (D17.kt q201 rfl), (D17.kt q202 rfl), (D17.kt q203 rfl), (D17.kt q204 rfl), (D17.kt q205 rfl), (D17.kt q206 rfl), (D17.kt q207 rfl), (D17.kt q208 rfl), (cvo (by (first | rfl | (rw [hval, setA_step (by omega)]; done) | (rw [List.length_set, setA_lenE, setA_lenE]))) (by (first | rfl | (rw [hval, setA_step (by omega)]; done) | (rw [List.length_set, setA_lenE, setA_lenE]))) o38), o37, by omega, rfl⟩
      ·
       have hjk : j = (g1.getD k []).length := (by omega)
       refine wp_exit (tx (tx (bx (bn (tn ?_)))))
       refine gI a22 s17 ok19 (gM q140 (gT (Ty.nat (k + 1)) rfl (fun A B G H I d0 => rP ((y_add (ed d0 rfl rfl rfl) rfl (w64 (by omega) (by omega))).mono (fun τ _ h => cvi (σ := τ) (by first | omega | exact (Int.natCast_mul _ _).symm) h))) (gB 0 (gE ok19 fun a30 s24 ok26 D18 => ?_)))); have o39 := Own.k0 o23 D18.stp; have o40 := OwnM.k0 o24 D18.stp
       exact tn ⟨g1.length - ((k+1)), by omega, s24, (k+1), x12_2, rfl, (F20.step0 D18.stp), ok26, (cvi (by (first | rfl | omega | (simp_all; done) | (simp_all; omega))) (D18.dn 2 rfl rfl)), (D18.kt q139 rfl), (D18.kt q141 rfl), (D18.kt q142 rfl), (D18.kt q143 rfl), (D18.kt q144 rfl), (D18.kt q145 rfl), (D18.kt q146 rfl), (cvo (by (first | rfl | (rw [hjk, List.take_length]; done) | (rw [hjk, List.take_length]; rfl))) (by (first | rfl | (rw [hjk, List.take_length]; done) | (rw [hjk, List.take_length]; rfl))) o39), o40, by omega, rfl⟩
    ·
     have ek : k = g1.length := (by omega); have hT : ToB E.length (toE E x y g1 ch) := toE_ok hn hG hEO hx hy hp1 (Nat.le_refl _); have hTl := hT.len
     refine wp_exit (tx (tx (bx (tn (wp_seq ?_)))))
     refine gI a18 s15 ok16 (gC (Ty.int (0 : Int)) (gE ok16 fun a31 s25 ok27 D19 => ?_)); have q228 := D19.kt q113 rfl; have o41 := Own.k0 o17 D19.stp; have o42 := OwnM.k0 o18 D19.stp; refine tn (wp_seq ?_)
     refine gI a31 s25 ok27 (gM q228 (gS rfl (fun A B G H I d0 => rP (y_len Try.underlying24 (ed d0 rfl rfl rfl))) (gR (Pr.own 7 3 1 (List.length E) (List.map Ty.int (List.replicate (List.length E) 0))) rfl (by intro A B G H I d0 d1; have e1 := ed d0 rfl rfl rfl; exact rP ((y_make (k := 7) (T := Ty.int 0) (n := (List.length E)) Try.underlying22 Try.inf3 rfl (fun _ => rfl) e1 e1 (by omega) (by omega)).mono (fun _ _ h => cvo (by simp) (by simp) h))) (gE2 ok27 fun a32 s26 ok28 D20 => ?_)))); have o43 := Own.k0 o41 D20.stp
     obtain ⟨x3, hx3⟩ : ∃ x, a32.eval (.tmp 89) = x := ⟨_, rfl⟩
     have q233 : At (Ty.val x3) s26 a32 (.tmp 89) := hx3
     have o44 := al2 (R := (Pr.own 7 3 1 (List.length E) (List.map Ty.int (List.replicate (List.length E) 0)))) hx3 (D20.done 2 (by decide))
     refine tL ok28 (Yld.toL (y_as q233)) fun a33 s27 hs7 ok29 r7 sm5 => ?_
     have F31 := ((F17.step0 D19.stp).step0 D20.stp).stepL hs7 (by decide); have q234 := kpL hs7 (by decide) (sm5 12 (by decide)) (D20.kt (D19.kt q112 rfl) rfl); have q235 := kpL hs7 (by decide) (sm5 0 (by decide)) (D20.kt q228 rfl); have q236 := kpL hs7 (by decide) (sm5 16 (by decide)) (D20.kt (D19.dn 0 rfl rfl) rfl); have o45 := Own.keepL o43 hs7 (by decide) (by decide); have o46 := Own.keepL o44 hs7 (by decide) (by decide)
     have q237 : At (Ty.val x3) s27 a33 (.tmp 17) := r7
     clear r7; refine wpList_nil (tn (wp_seq (wp_seq ?_)))
     refine gI a33 s27 ok29 (gC (Ty.int (0 : Int)) (gE ok29 fun a34 s28 ok30 D21 => ?_)); have o47 := Own.k0 o45 D21.stp; have o48 := Own.k0 o46 D21.stp; refine tn (wp_block ?_)
     refine loop (fun n7 a35 w9 => ∃ (t10 : GW) (i : Nat) (x12_3 x17_3 : Value), t10.w = w9 ∧ FromL [] s0 t10 ∧ Ok 117 [] a35 ∧ At (Ty.nat i) t10 a35 (.tmp 18) ∧ At (Ty.val x12_3) t10 a35 (.tmp 12) ∧ At (Ty.val x17_3) t10 a35 (.tmp 17) ∧ At (Ty.nat (cirS (toE E x y g1 ch) E.length i).2) t10 a35 (.tmp 16) ∧ At (Ty.lst Ty.ints E) t10 a35 (.tmp 0) ∧ Own t10 6 3 1 x12_3 (List.length (toE E x y g1 ch)) (List.map Ty.int (toE E x y g1 ch)) ∧ Own t10 7 3 1 x17_3 (List.length (cirS (toE E x y g1 ch) E.length i).1) (List.map Ty.int (cirS (toE E x y g1 ch) E.length i).1) ∧ (i ≤ E.length) ∧ n7 = E.length - i) (E.length - (0)) ?_ ?_
     ·
      exact ⟨s28, 0, x12_1, x3, rfl, (F31.step0 D21.stp), ok30, (cvi (by (first | rfl | omega | (simp_all; done) | (simp_all; omega))) (D21.dn 0 rfl rfl)), (D21.kt q234 rfl), (D21.kt q237 rfl), (cvi (by (rfl)) (D21.kt q236 rfl)), (D21.kt q235 rfl), (cvo (by (first | rfl | (rw [show k = g1.length by omega]; rfl))) (by (first | rfl | (rw [show k = g1.length by omega]; rfl))) o47), (cvo (by (first | rfl | simp [cirS])) (by (first | rfl | simp [cirS])) o48), by omega, rfl⟩
     ·
      rintro n8 a36 w10 ⟨t11, i, x12_3, x17_3, rfl, F33, ok31, q243, q244, q245, q246, q247, o49, o50, hi, rfl⟩
      have hcs := cirS_ok hT i (by omega)
      have hcl := hcs.1.len
      refine wp_seq (wp_seq ?_)
      refine gI a36 t11 ok31 (gM q243 (gM q247 (gS rfl (fun A B G H I d0 => rP (y_len Try.underlying24 (ed d0 rfl rfl rfl))) (gS rfl (fun A B G H I d0 d1 => rP (y_lss (ed d0 rfl rfl rfl) (ed d1 rfl rfl rfl))) (gE ok31 fun a37 s29 ok32 D22 => ?_))))); have F34 := F33.step0 D22.stp; have q248 := D22.kt q243 rfl; have q250 := D22.kt q245 rfl; have q251 := D22.kt q246 rfl; have o51 := Own.k0 o49 D22.stp; have o52 := Own.k0 o50 D22.stp; refine tn ?_
      refine cond_p (p := (((i : Nat) : Int) < (((List.length E) : Nat) : Int))) (D22.dn 3 rfl rfl) (fun c5 => ?_) (fun c5 => ?_)
      ·
       refine wp_skip (tn (wp_seq (wp_block (wp_seq (wp_seq ?_)))))
       refine gI a37 s29 ok32 (gM q250 (gM q248 (gT (Ty.val (cellPtr x17_3 i)) rfl (fun A B G H I d0 d1 => rP (own_index1 (i := ((i : Nat) : Int)) Try.underlying22 Try.inf3 (Own.k0 o52 G) (ed d0 rfl rfl rfl) (ed d1 rfl rfl rfl) (by omega) (by omega))) (gS rfl (fun A B G H I d0 => rP (own_load Try.underlying3 rfl (Own.k0 o52 G) (ed d0 rfl rfl rfl) (lst_get Ty.int (cirS (toE E x y g1 ch) E.length i).1 0 i (by omega)))) (gS rfl (fun A B G H I d0 => rP (y_gtr (ed d0 rfl rfl rfl) rfl)) (gE ok32 fun a38 s30 ok33 D23 => ?_)))))); have F35 := F34.step0 D23.stp; have q254 := D23.kt q248 rfl; have q255 := D23.kt (D22.kt q244 rfl) rfl; have q256 := D23.kt q250 rfl; have q257 := D23.kt q251 rfl; have q258 := D23.kt (D22.kt q247 rfl) rfl; have o53 := Own.k0 o51 D23.stp; have o54 := Own.k0 o52 D23.stp; refine tn ?_
       refine cond_p (p := ((0 : Int) < ((cirS (toE E x y g1 ch) E.length i).1.getD i 0))) (D23.dn 4 rfl rfl) (fun c6 => ?_) (fun c6 => ?_)
       ·
        have hci := c6
        refine wp_exit (tx (bx (tn ?_)))
        refine gI a38 s30 ok33 (gM q254 (gT (Ty.nat (i + 1)) rfl (fun A B G H I d0 => rP ((y_add (ed d0 rfl rfl rfl) rfl (w64 (by omega) (by omega))).mono (fun τ _ h => cvi (σ := τ) (by first | omega | exact (Int.natCast_mul _ _).symm) h))) (gB 0 (gE ok33 fun a39 s31 ok34 D24 => ?_)))); have o55 := Own.k0 o53 D24.stp; have o56 := Own.k0 o54 D24.stp
        exact tn ⟨E.length - ((i+1)), by omega, s31, (i+1), x12_3, x17_3, rfl, (F35.step0 D24.stp), ok34, (cvi (by (first | rfl | omega | (simp_all; done) | (simp_all; omega))) (D24.dn 2 rfl rfl)), (D24.kt q255 rfl), (D24.kt q256 rfl), (cvi (by (rw [cirS_old hci])) (D24.kt q257 rfl)), (D24.kt q258 rfl), o55, (cvo (by (rw [cirS_old hci])) (by (rw [cirS_old hci])) o56), by omega, rfl⟩
       ·
        have hci := c6
        refine wp_skip (tn (wp_seq ?_))
        refine gI a38 s30 ok33 (gM q257 (gT (Ty.nat ((cirS (toE E x y g1 ch) E.length i).2 + 1)) rfl (fun A B G H I d0 => rP ((y_add (ed d0 rfl rfl rfl) rfl (w64 (by omega) (by omega))).mono (fun τ _ h => cvi (σ := τ) (by first | omega | exact (Int.natCast_mul _ _).symm) h))) (gB 0 (gE ok33 fun a40 s32 ok35 D25 => ?_)))); have q265 := D25.kt q254 rfl; have o57 := Own.k0 o53 D25.stp; have o58 := Own.k0 o54 D25.stp; refine tn (wp_seq ?_)
        refine gI a40 s32 ok35 (gM q265 (gB 0 (gE ok35 fun a41 s33 ok36 D26 => ?_))); have o59 := Own.k0 o57 D26.stp; have o60 := Own.k0 o58 D26.stp; refine tn (wp_block ?_)
        refine loop (fun n9 a42 w11 => ∃ (t12 : GW) (f : Nat) (vis : (List Int)) (c : Nat) (x17_4 : Value), t12.w = w11 ∧ FromL [] s0 t12 ∧ Ok 117 [] a42 ∧ At (Ty.nat c) t12 a42 (.tmp 19) ∧ At (Ty.val x17_4) t12 a42 (.tmp 17) ∧ At (Ty.nat i) t12 a42 (.tmp 18) ∧ At (Ty.val x12_3) t12 a42 (.tmp 12) ∧ At (Ty.lst Ty.ints E) t12 a42 (.tmp 0) ∧ At (Ty.nat ((cirS (toE E x y g1 ch) E.length i).2 + 1)) t12 a42 (.tmp 16) ∧ Own t12 7 3 1 x17_4 (List.length vis) (List.map Ty.int vis) ∧ Own t12 6 3 1 x12_3 (List.length (toE E x y g1 ch)) (List.map Ty.int (toE E x y g1 ch)) ∧ (VisI (toE E x y g1 ch) E.length (cirS (toE E x y g1 ch) E.length i).1 i f vis c) ∧ n9 = unm vis) (unm ((cirS (toE E x y g1 ch) E.length i).1)) ?_ ?_
        ·
         exact ⟨s33, (E.length + 1), (cirS (toE E x y g1 ch) E.length i).1, i, x17_3, rfl, ((F35.step0 D25.stp).step0 D26.stp), ok36, (cvi (by (first | rfl | omega | (simp_all; done) | (simp_all; omega))) (D26.dn 1 rfl rfl)), (D26.kt (D25.kt q256 rfl) rfl), (D26.kt q265 rfl), (D26.kt (D25.kt q255 rfl) rfl), (D26.kt (D25.kt q258 rfl) rfl), (D26.kt (D25.dn 2 rfl rfl) rfl), (cvo (by (rfl)) (by (rfl)) o60), o59, VisI.start hcs.1 (by omega), rfl⟩
        ·
         rintro n10 a43 w12 ⟨t13, f, vis, c, x17_4, rfl, F39, ok37, q276, q277, q278, q279, q280, q281, o61, o62, hV, rfl⟩
         have hvl := hV.vb.len
         have hcN := hV.kN
         have htc := hT.bd c hcN
         refine wp_seq (wp_seq ?_)
         refine gI a43 t13 ok37 (gM q277 (gM q276 (gT (Ty.val (cellPtr x17_4 c)) rfl (fun A B G H I d0 d1 => rP (own_index1 (i := ((c : Nat) : Int)) Try.underlying22 Try.inf3 (Own.k0 o61 G) (ed d0 rfl rfl rfl) (ed d1 rfl rfl rfl) (by omega) (by omega))) (gS rfl (fun A B G H I d0 => rP (own_load Try.underlying3 rfl (Own.k0 o61 G) (ed d0 rfl rfl rfl) (lst_get Ty.int vis 0 c (by omega)))) (gS rfl (fun A B G H I d0 => rP (y_eql (ed d0 rfl rfl rfl) rfl)) (gE ok37 fun a44 s34 ok38 D27 => ?_)))))); have F40 := F39.step0 D27.stp; have q282 := D27.kt q276 rfl; have q283 := D27.kt q277 rfl; have q284 := D27.kt q278 rfl; have q285 := D27.kt q279 rfl; have q286 := D27.kt q280 rfl; have q287 := D27.kt q281 rfl; have o63 := Own.k0 o61 D27.stp; have o64 := Own.k0 o62 D27.stp; refine tn ?_
         refine cond_p (p := ((vis.getD c 0) = (0 : Int))) (D27.dn 4 rfl rfl) (fun c7 => ?_) (fun c7 => ?_)
         ·
          have hsu := unm_set vis c (by omega) c7
          refine wp_skip (tn (wp_seq (wp_block ?_)))
          refine gI a44 s34 ok38 (gM q283 (gM q282 (gT (Ty.val (cellPtr x17_4 c)) rfl (fun A B G H I d0 d1 d2 d3 => rP (own_index1 (i := ((c : Nat) : Int)) Try.underlying22 Try.inf3 (Own.k0 o63 G) (ed d0 rfl rfl rfl) (ed d1 rfl rfl rfl) (by omega) (by omega))) (gE2 ok38 fun a45 s35 ok39 D28 => ?_)))); have o65 := Own.k0 o63 D28.stp; have o66 := Own.k0 o64 D28.stp
          refine tailL0 (L := [7]) (R := (fun _ τ => Own τ 7 3 1 x17_4 (List.length vis) ((List.map Ty.int vis).set c (Ty.int (1 : Int))))) rfl rfl (YldM.toL (m_store Try.inf3 (by decide) o65 (D28.dn 2 (by decide) rfl rfl) (by simp only [List.length_map, List.length_set]; omega) rfl (one_val rfl))) (fun v3 s36 hs8 r8 => ?_)
          have F42 := (F40.step0 D28.stp).stepL hs8 (by decide); have q296 := kpL hs8 (by decide) rfl (D28.kt q282 rfl); have q297 := kpL hs8 (by decide) rfl (D28.kt q283 rfl); have q298 := kpL hs8 (by decide) rfl (D28.kt q284 rfl); have q299 := kpL hs8 (by decide) rfl (D28.kt q285 rfl); have q300 := kpL hs8 (by decide) rfl (D28.kt q286 rfl); have q301 := kpL hs8 (by decide) rfl (D28.kt q287 rfl); have o68 := Own.keepL o66 hs8 (by decide) (by decide)
          have o67 : Own s36 7 3 1 x17_4 (List.length (vis.set c (1 : Int))) (List.map Ty.int (vis.set c (1 : Int))) := (cvo (by simp) (by first | (simp; done) | (rw [List.map_set]; done) | (rw [List.map_set]; rfl)) r8)
          clear r8; refine wpList_nil (bn (tn ?_))
          refine gI a45 s36 ok39 (gM q299 (gM q296 (gT (Ty.val (cellPtr x12_3 c)) rfl (fun A B G H I d0 d1 => rP (own_index1 (i := ((c : Nat) : Int)) Try.underlying22 Try.inf3 (Own.k0 o68 G) (ed d0 rfl rfl rfl) (ed d1 rfl rfl rfl) (by omega) (by omega))) (gS rfl (fun A B G H I d0 => rP (own_load Try.underlying3 rfl (Own.k0 o68 G) (ed d0 rfl rfl rfl) (lst_get Ty.int (toE E x y g1 ch) 0 c (by omega)))) (gB 0 (gE ok39 fun a46 s37 ok40 D29 => ?_)))))); have o69 := Own.k0 o68 D29.stp; have o70 := Own.k0 o67 D29.stp
          exact tn ⟨unm ((vis.set c 1)), by omega, s37, (f - 1), (vis.set c 1), ((toE E x y g1 ch).getD c 0).toNat, x17_4, rfl, (F42.step0 D29.stp), ok40, (cvi (by (first | rfl | omega | (simp_all; done) | (simp_all; omega))) (D29.dn 4 rfl rfl)), (D29.kt q297 rfl), (D29.kt q298 rfl), (D29.kt q299 rfl), (D29.kt q300 rfl), (D29.kt q301 rfl), (cvo (by (first | rfl | simp)) (by (first | rfl | simp)) o70), o69, hV.step hT c7, rfl⟩
         ·
          have hVd := hV.done c7
          refine wp_exit (tx (tx (bx (bn (tn ?_)))))
          refine gI a44 s34 ok38 (gM q284 (gT (Ty.nat (i + 1)) rfl (fun A B G H I d0 => rP ((y_add (ed d0 rfl rfl rfl) rfl (w64 (by omega) (by omega))).mono (fun τ _ h => cvi (σ := τ) (by first | omega | exact (Int.natCast_mul _ _).symm) h))) (gB 0 (gE ok38 fun a47 s38 ok41 D30 => ?_)))); have o71 := Own.k0 o63 D30.stp; have o72 := Own.k0 o64 D30.stp
          exact tn ⟨E.length - ((i+1)), by omega, s38, (i+1), x12_3, x17_4, rfl, (F40.step0 D30.stp), ok41, (cvi (by (first | rfl | omega | (simp_all; done) | (simp_all; omega))) (D30.dn 2 rfl rfl)), (D30.kt q285 rfl), (D30.kt q283 rfl), (cvi (by (rw [cirS_new hci])) (D30.kt q287 rfl)), (D30.kt q286 rfl), o72, (cvo (by (rw [cirS_new hci, hVd])) (by (rw [cirS_new hci, hVd])) o71), by omega, rfl⟩
      ·
       refine wp_exit (tx (tx (bx (tn (wp_seq ?_)))))
       refine gI a37 s29 ok32 (gM q251 (gB 0 (gE ok32 fun a48 s39 ok42 D31 => ?_))); have o73 := Own.k0 o51 D31.stp; have o74 := Own.k0 o52 D31.stp; refine tn (wp_ret ?_)
       exact retL1 rfl ok42 (F34.step0 D31.stp) (cvi (by (rw [show i = E.length by omega, hp1.the]; rfl)) (D31.dn 1 rfl rfl))


set_option maxHeartbeats 4000000 in
set_option maxRecDepth 100000 in
theorem gMakeE_fn (n : Int) (gens : List (List Int)) (σ : GW)  (v0 v1 : Value) (hv0 : Ty.has (Ty.int n) σ v0) (hv1 : Ty.has (Ty.lst Ty.ints gens) σ v1)  (hbad : gensMay n gens ≠ 0) :
    FnC Try.prog 17 #[v0, v1] σ (Ty.tup2 (Ty.val (Value.pointer none)) (Ty.int (gensMay n gens))) := by
 refine fn_intro0 Try.func17 rfl Try.ntmps17 (Nat.le_of_ble_eq_true rfl) (fun s0 a0 hle F0 ok0 hargs => ?_)
 have p0 := pA hle (hargs 0 _ rfl) hv0
 have p1 := pA hle (hargs 1 _ rfl) hv1
 have b1 := sl_le p1
 clear hargs; refine wp_seq ?_
 refine gI a0 s0 ok0 (gC (Ty.val (Value.pointer none)) (gC (Ty.int (0 : Int)) (gE ok0 fun a1 s1 ok1 D1 => ?_))); refine tn (wp_seq (wp_seq ?_))
 refine gI a1 s1 ok1 (gM (D1.kt p0 rfl) (gM (D1.kt p1 rfl) (gS rfl (fun A B G H I d0 d1 => rP (y_call _ Try.func41 rfl rfl my2 (gCheck_fn (n) (gens) _ _ _ (ed d0 rfl rfl rfl) (ed d1 rfl rfl rfl) ))) (gB 0 (gE ok1 fun a2 s2 ok2 D2 => ?_))))); have q5 := D2.dn 3 rfl rfl; refine tn (wp_seq ?_)
 refine gI a2 s2 ok2 (gM q5 (gS rfl (fun A B G H I d0 => rP (y_neq (ed d0 rfl rfl rfl) rfl)) (gE ok2 fun a3 s3 ok3 D3 => ?_))); refine tn ?_
 refine cond_p (p := ((gensMay n (gens)) ≠ (0 : Int))) (D3.dn 1 rfl rfl) (fun c1 => ?_) (fun c1 => ?_)
 ·
  refine wp_seq ?_
  refine gI a3 s3 ok3 (gM (D3.kt q5 rfl) (gC (Ty.val (Value.pointer none)) (gB 0 (gE ok3 fun a4 s4 ok4 D4 => ?_)))); refine tn (wp_ret (tr ?_))
  exact retL2 rfl ok4 ((((F0.step0 D1.stp).step0 D2.stp).step0 D3.stp).step0 D4.stp) (hasT2 (D4.dn 1 rfl rfl) (cvi (by (first | rfl | omega | (simp_all; done) | (simp_all; omega))) (D4.dn 2 rfl rfl)))
 ·
  exfalso
  exact c1 hbad


set_option maxHeartbeats 4000000 in
set_option maxRecDepth 100000 in
theorem mk2A_fn (ra : List Int) (rb : List Int) (σ : GW)  (v0 v1 : Value) (hv0 : Ty.has (Ty.lst Ty.int ra) σ v0) (hv1 : Ty.has (Ty.lst Ty.int rb) σ v1)  (hbad : gensMay ((ra.length : Nat) : Int) [ra, rb] ≠ 0) :
    FnC Try.prog 68 #[v0, v1] σ (Ty.tup2 (Ty.val (Value.pointer none)) (Ty.int (gensMay ((ra.length : Nat) : Int) [ra, rb]))) := by
 refine fn_intro0 Try.func68 rfl Try.ntmps68 (Nat.le_of_ble_eq_true rfl) (fun s0 a0 hle F0 ok0 hargs => ?_)
 have p0 := pA hle (hargs 0 _ rfl) hv0
 have b1 := sl_le p0
 have p1 := pA hle (hargs 1 _ rfl) hv1
 have b2 := sl_le p1
 clear hargs; refine wp_seq ?_
 refine gI a0 s0 ok0 (gC (Ty.val (Value.pointer none)) (gC (Ty.int (0 : Int)) (gE ok0 fun a1 s1 ok1 D1 => ?_))); have q1 := D1.kt p0 rfl; refine tn (wp_seq ?_)
 refine gI a1 s1 ok1 (gM q1 (gS rfl (fun A B G H I d0 => rP (y_len Try.underlying22 (ed d0 rfl rfl rfl))) (gM q1 (gM (D1.kt p1 rfl) (gT (Ty.sl 1 2 [(Ty.lst Ty.int ra), (Ty.lst Ty.int rb)]) rfl (fun A B G H I d0 d1 => rP (y_build2 Try.underlying24 Try.inf22 rfl (one_sl) (one_sl) (ed d0 rfl rfl rfl) (ed d1 rfl rfl rfl))) (gS rfl (fun A B G H I d0 d1 => rP (y_call _ Try.func17 rfl rfl my2 (gMakeE_fn ((((List.length ra) : Nat) : Int)) ([ra, rb]) _ _ _ (cvi (σ := B) (by omega) (ed d0 rfl rfl rfl)) (ed d1 rfl rfl rfl) (by omega)))) (gS rfl (fun A B G H I d0 => rP (y_move (ed d0 rfl rfl rfl))) (gT (Ty.val (Value.pointer none)) rfl (fun A B G H I d0 => rP (y_ext2_0 (ed d0 rfl rfl rfl))) (gT (Ty.int (gensMay ((((List.length ra) : Nat) : Int)) ([ra, rb]))) rfl (fun A B G H I d0 d1 => rP (y_ext2_1 (ed d0 rfl rfl rfl))) (gB 0 (gB 0 (gE ok1 fun a2 s2 ok2 D2 => ?_)))))))))))); have q6 := D2.dn 10 rfl rfl; refine tn (wp_seq (wp_seq ?_))
 refine gI a2 s2 ok2 (gM q6 (gS rfl (fun A B G H I d0 => rP (y_neq (ed d0 rfl rfl rfl) rfl)) (gE ok2 fun a3 s3 ok3 D3 => ?_))); refine tn ?_
 refine cond_p (p := ((gensMay ((((List.length ra) : Nat) : Int)) ([ra, rb])) ≠ (0 : Int))) (D3.dn 1 rfl rfl) (fun c1 => ?_) (fun c1 => ?_)
 ·
  refine wp_seq ?_
  refine gI a3 s3 ok3 (gM (D3.kt q6 rfl) (gC (Ty.val (Value.pointer none)) (gB 0 (gE ok3 fun a4 s4 ok4 D4 => ?_)))); refine tn (wp_ret (tr ?_))
  exact retL2 rfl ok4 ((((F0.step0 D1.stp).step0 D2.stp).step0 D3.stp).step0 D4.stp) (hasT2 (D4.dn 1 rfl rfl) (cvi (by (first | rfl | omega | (simp_all; done) | (simp_all; omega))) (D4.dn 2 rfl rfl)))
 ·
  exfalso
  exact c1 hbad


set_option maxHeartbeats 4000000 in
set_option maxRecDepth 100000 in
theorem mk2B_fn (ra : List Int) (rb : List Int) (σ : GW)  (v0 v1 : Value) (hv0 : Ty.has (Ty.lst Ty.int ra) σ v0) (hv1 : Ty.has (Ty.lst Ty.int rb) σ v1)  (hM : gensMay ((ra.length : Nat) : Int) [ra, rb] = 0) (hS : ¬ szTo ra.length (fun z => z ∈ [ra, rb]) ra.length ≤ 5040) :
    FnC Try.prog 68 #[v0, v1] σ (Ty.tup2 (Ty.val (Value.pointer none)) (Ty.int (3 : Int))) := by
 have hT2 := TwoP.of hM
 have hn := hT2.hn
 have hG := hT2.g
 have hra := hT2.cx
 have hrb := hT2.cy
 have hl8 : [ra, rb].length ≤ 8 := (by simp)
 refine fn_intro0 Try.func68 rfl Try.ntmps68 (Nat.le_of_ble_eq_true rfl) (fun s0 a0 hle F0 ok0 hargs => ?_)
 have p0 := pA hle (hargs 0 _ rfl) hv0
 have b1 := sl_le p0
 have p1 := pA hle (hargs 1 _ rfl) hv1
 have b2 := sl_le p1
 clear hargs; refine wp_seq ?_
 refine gI a0 s0 ok0 (gC (Ty.val (Value.pointer none)) (gC (Ty.int (0 : Int)) (gE ok0 fun a1 s1 ok1 D1 => ?_))); have q1 := D1.kt p0 rfl; have q2 := D1.kt p1 rfl; refine tn (wp_seq ?_)
 refine gI a1 s1 ok1 (gM q1 (gS rfl (fun A B G H I d0 => rP (y_len Try.underlying22 (ed d0 rfl rfl rfl))) (gM q1 (gM q2 (gT (Ty.sl 1 2 [(Ty.lst Ty.int ra), (Ty.lst Ty.int rb)]) rfl (fun A B G H I d0 d1 => rP (y_build2 Try.underlying24 Try.inf22 rfl (one_sl) (one_sl) (ed d0 rfl rfl rfl) (ed d1 rfl rfl rfl))) (gE2 ok1 fun a2 s2 ok2 D2 => ?_)))))); have q6 := D2.dn 4 (by decide) rfl rfl
 have b3 := sl_le q6
 refine tL ok2 (y_callL (L := []) [] [(41, 61), (42, 62), (43, 63)] _ rfl (by decide) Try.func17 rfl rfl my2 (gMake_fn ((List.length ra)) ([ra, rb]) _ (GW.low_lend _ (by decide)) _ _ (Ty.up _ (GW.le_lend _ _) (cvi (σ := s2) (by first | omega | assumption) (D2.dn 1 (by decide) rfl rfl))) (Ty.up _ (GW.le_lend _ _) q6)  (by first | omega | assumption) (by first | omega | assumption) (by first | omega | assumption))) fun a3 s3 hs1 ok3 r1 sm1 => ?_
 have F3 := ((F0.step0 D1.stp).step0 D2.stp).stepL hs1 (by decide); have q7 := kpL hs1 (by decide) (sm1 0 (by decide)) (D2.kt q1 rfl); have q8 := kpL hs1 (by decide) (sm1 1 (by decide)) (D2.kt q2 rfl)
 obtain ⟨t1, ⟨g1, g2, x1, x2, x3, hT1, o1, o2, o3, hp1⟩, B1⟩ := r1
 have q9 : At (Ty.tup2 (Ty.val x1) (Ty.int (0 : Int))) s3 a3 (.tmp 21) := Ty.up _ B1.le hT1
 have o4 : OwnP s3 61 x1 [(Ty.nat ((List.length ra))), (Ty.val x3), (Ty.val x2)] := OwnP.ren o1 (B1.ren (by decide) rfl)
 have o5 : ChnU s3 62 22 108 x2 ((List.length ra)) (g1) (g2) := ChnU.ren o2 (B1.ren (by decide) rfl)
 have o6 : Own s3 63 22 1 x3 (List.length ([ra, rb])) (List.map Ty.ints ([ra, rb])) := Own.ren o3 (B1.ren (by decide) rfl)
 refine tL ok3 (Yld.toL (y_mv q9)) fun a4 s4 hs2 ok4 r2 sm2 => ?_
 have F4 := F3.stepL hs2 (by decide); have q10 := kpL hs2 (by decide) (sm2 0 (by decide)) q7; have q11 := kpL hs2 (by decide) (sm2 1 (by decide)) q8; have o7 := OwnP.keepL o4 hs2 (by decide) (by decide); have o8 := ChnU.keepL o5 hs2 (by decide) (by decide); have o9 := Own.keepL o6 hs2 (by decide) (by decide)
 have q12 : At (Ty.tup2 (Ty.val x1) (Ty.int (0 : Int))) s4 a4 (.tmp 15) := r2
 clear r2
 refine tL (R := (fun v τ => Pr.has (Ty.pr (Ty.val x1)) τ v)) ok4 (Yld.toL (y_ext2_0 q12)) fun a5 s5 hs3 ok5 r3 sm3 => ?_
 have F5 := F4.stepL hs3 (by decide); have q13 := kpL hs3 (by decide) (sm3 0 (by decide)) q10; have q14 := kpL hs3 (by decide) (sm3 1 (by decide)) q11; have q15 := kpL hs3 (by decide) (sm3 15 (by decide)) q12; have o10 := OwnP.keepL o7 hs3 (by decide) (by decide); have o11 := ChnU.keepL o8 hs3 (by decide) (by decide); have o12 := Own.keepL o9 hs3 (by decide) (by decide)
 have q16 : At (Ty.val x1) s5 a5 (.tmp 22) := r3
 clear r3
 refine tL (R := (fun v τ => Pr.has (Ty.pr (Ty.int (0 : Int))) τ v)) ok5 (Yld.toL (y_ext2_1 q15)) fun a6 s6 hs4 ok6 r4 sm4 => ?_
 have F6 := F5.stepL hs4 (by decide); have q17 := kpL hs4 (by decide) (sm4 0 (by decide)) q13; have q18 := kpL hs4 (by decide) (sm4 1 (by decide)) q14; have q19 := kpL hs4 (by decide) (sm4 22 (by decide)) q16; have o13 := OwnP.keepL o10 hs4 (by decide) (by decide); have o14 := ChnU.keepL o11 hs4 (by decide) (by decide); have o15 := Own.keepL o12 hs4 (by decide) (by decide)
 have q20 : At (Ty.int (0 : Int)) s6 a6 (.tmp 23) := r4
 clear r4
 refine tL ok6 (Yld.toL (y_as q19)) fun a7 s7 hs5 ok7 r5 sm5 => ?_
 have F7 := F6.stepL hs5 (by decide); have q21 := kpL hs5 (by decide) (sm5 0 (by decide)) q17; have q22 := kpL hs5 (by decide) (sm5 1 (by decide)) q18; have q23 := kpL hs5 (by decide) (sm5 23 (by decide)) q20; have o16 := OwnP.keepL o13 hs5 (by decide) (by decide); have o17 := ChnU.keepL o14 hs5 (by decide) (by decide); have o18 := Own.keepL o15 hs5 (by decide) (by decide)
 have q24 : At (Ty.val x1) s7 a7 (.tmp 6) := r5
 clear r5
 refine tL ok7 (Yld.toL (y_as q23)) fun a8 s8 hs6 ok8 r6 sm6 => ?_
 have F8 := F7.stepL hs6 (by decide); have q25 := kpL hs6 (by decide) (sm6 0 (by decide)) q21; have q26 := kpL hs6 (by decide) (sm6 1 (by decide)) q22; have q27 := kpL hs6 (by decide) (sm6 6 (by decide)) q24; have o19 := OwnP.keepL o16 hs6 (by decide) (by decide); have o20 := ChnU.keepL o17 hs6 (by decide) (by decide); have o21 := Own.keepL o18 hs6 (by decide) (by decide)
 have q28 : At (Ty.int (0 : Int)) s8 a8 (.tmp 7) := r6
 clear r6; refine wpList_nil (tn (wp_seq (wp_seq ?_)))
 refine gI a8 s8 ok8 (gM q28 (gT (Ty.bool false) rfl (fun A B G H I d0 => rP ((y_neq (ed d0 rfl rfl rfl) rfl).mono (fun τ _ h => cvb (σ := τ) (by decide) h))) (gE ok8 fun a9 s9 ok9 D3 => ?_))); have o22 := OwnP.k0 o19 D3.stp; have o23 := ChnU.k0 o20 D3.stp; have o24 := Own.k0 o21 D3.stp; refine tn ?_
 refine cond_t (D3.dn 1 rfl rfl) (fun c1 => (by cases c1)) (fun _ => ?_)
 refine wp_skip (tn (wp_seq ?_))
 refine gI a9 s9 ok9 (gR (Pr.ownm Ty.int kI 6 (fun _ => none : Int → Option Int)) rfl (by intro A B G H I; exact rP (y_makemap 6)) (gE2 ok9 fun a10 s10 ok10 D4 => ?_)); have o25 := OwnP.k0 o22 D4.stp; have o26 := ChnU.k0 o23 D4.stp; have o27 := Own.k0 o24 D4.stp
 obtain ⟨x4, hx1⟩ : ∃ x, a10.eval (.tmp 27) = x := ⟨_, rfl⟩
 have q37 : At (Ty.val x4) s10 a10 (.tmp 27) := hx1
 have o28 := al2 (R := (Pr.ownm Ty.int kI 6 (fun _ => none : Int → Option Int))) hx1 (D4.done 0 (by decide))
 refine tL (R := (fun v τ => Pr.has (Ty.pr (Ty.agg [(Ty.val (Value.slice none 0 0)), (Ty.val x4), (Ty.val (Value.slice none 0 0)), (Ty.val (Value.slice none 0 0))])) τ v)) ok10 (Yld.toL (y_bld [(1, (.tmp 27), (Ty.val x4))] [(Ty.val (Value.slice none 0 0)), (Ty.val (Value.map none)), (Ty.val (Value.slice none 0 0)), (Ty.val (Value.slice none 0 0))] (l := [(0, 1), (1, 1), (2, 2)]) rfl Try.inf103 rfl (alloc_vals (vs := [.slice none 0 0, .map none, .slice none 0 0, .slice none 0 0]) rfl) rfl (by intro p hp; simp only [List.mem_cons, List.not_mem_nil, or_false] at hp; rcases hp with rfl; exact ⟨one_val (OwnM.one o28), q37⟩))) fun a11 s11 hs7 ok11 r7 sm7 => ?_
 have F11 := ((F8.step0 D3.stp).step0 D4.stp).stepL hs7 (by decide); have q38 := kpL hs7 (by decide) (sm7 0 (by decide)) (D4.kt (D3.kt q25 rfl) rfl); have q39 := kpL hs7 (by decide) (sm7 1 (by decide)) (D4.kt (D3.kt q26 rfl) rfl); have q40 := kpL hs7 (by decide) (sm7 6 (by decide)) (D4.kt (D3.kt q27 rfl) rfl); have o29 := OwnP.keepL o25 hs7 (by decide) (by decide); have o30 := ChnU.keepL o26 hs7 (by decide) (by decide); have o31 := Own.keepL o27 hs7 (by decide) (by decide); have o32 := OwnM.keepL o28 hs7 (by decide) (by decide)
 have q41 : At (Ty.agg [(Ty.val (Value.slice none 0 0)), (Ty.val x4), (Ty.val (Value.slice none 0 0)), (Ty.val (Value.slice none 0 0))]) s11 a11 (.tmp 28) := r7
 clear r7
 refine tL (R := (fun v τ => Pr.has (Pr.ownp 5 [(Ty.val (Value.slice none 0 0)), (Ty.val x4), (Ty.val (Value.slice none 0 0)), (Ty.val (Value.slice none 0 0))]) τ v)) ok11 (Yld.toL (y_boxo 5 q41)) fun a12 s12 hs8 ok12 r8 sm8 => ?_
 have F12 := F11.stepL hs8 (by decide); have q42 := kpL hs8 (by decide) (sm8 0 (by decide)) q38; have q43 := kpL hs8 (by decide) (sm8 1 (by decide)) q39; have q44 := kpL hs8 (by decide) (sm8 6 (by decide)) q40; have o34 := OwnP.keepL o29 hs8 (by decide) (by decide); have o35 := ChnU.keepL o30 hs8 (by decide) (by decide); have o36 := Own.keepL o31 hs8 (by decide) (by decide); have o37 := OwnM.keepL o32 hs8 (by decide) (by decide)
 obtain ⟨x5, hx2⟩ : ∃ x, a12.eval (.tmp 29) = x := ⟨_, rfl⟩
 have q45 : At (Ty.val x5) s12 a12 (.tmp 29) := hx2
 have o33 := al2 (R := (Pr.ownp 5 [(Ty.val (Value.slice none 0 0)), (Ty.val x4), (Ty.val (Value.slice none 0 0)), (Ty.val (Value.slice none 0 0))])) hx2 r8
 clear r8
 refine tL ok12 (Yld.toL (y_as q45)) fun a13 s13 hs9 ok13 r9 sm9 => ?_
 have F13 := F12.stepL hs9 (by decide); have q46 := kpL hs9 (by decide) (sm9 0 (by decide)) q42; have q47 := kpL hs9 (by decide) (sm9 1 (by decide)) q43; have q48 := kpL hs9 (by decide) (sm9 6 (by decide)) q44; have o38 := OwnP.keepL o34 hs9 (by decide) (by decide); have o39 := ChnU.keepL o35 hs9 (by decide) (by decide); have o40 := Own.keepL o36 hs9 (by decide) (by decide); have o41 := OwnM.keepL o37 hs9 (by decide) (by decide); have o42 := OwnP.keepL o33 hs9 (by decide) (by decide)
 have q49 : At (Ty.val x5) s13 a13 (.tmp 8) := r9
 clear r9; refine wpList_nil (tn (wp_seq (wp_seq ?_)))
 refine gI a13 s13 ok13 (gM q49 (gM q48 (gE2 ok13 fun a14 s14 ok14 D5 => ?_))); have o43 := OwnP.k0 o38 D5.stp; have o44 := ChnU.k0 o39 D5.stp; have o45 := Own.k0 o40 D5.stp; have o46 := OwnM.k0 o41 D5.stp; have o47 := OwnP.k0 o42 D5.stp
 have q53 : At (Ty.val x5) s14 a14 (.tmp 31) := D5.done 0 (by decide)
 have q54 : At (Ty.val x1) s14 a14 (.tmp 32) := D5.done 1 (by decide)
 refine tL ok14 (y_callL (L := [41, 42, 43]) [(61, 41), (62, 42), (63, 43)] [(41, 61), (42, 62), (43, 63)] #[a14.eval (.tmp 32)] rfl (by decide) Try.func60 rfl rfl my1 (gElts_fn (x1) (x3) (x2) ((g2)) (((List.length ra))) ((g1)) (([ra, rb])) _ (GW.low_lend _ (by decide)) _ (Ty.up _ (GW.le_lend _ _) q54) (OwnP.ren (ownp_cell 0 (Ty.nat (((List.length ra)))) o43 rfl (fun _ _ h => (cvi (by (first | rfl | omega | (simp_all; done) | (simp_all; omega))) h))) (GW.ren_lend _ _ (by decide) rfl)) (ChnU.ren (cvch (by (rfl)) o44) (GW.ren_lend _ _ (by decide) rfl)) (Own.ren (cvo (by (simp)) (by (simp)) o45) (GW.ren_lend _ _ (by decide) rfl)) (by first | omega | assumption) (by first | omega | assumption))) fun a15 s15 hs10 ok15 r10 sm10 => ?_
 have F15 := (F13.step0 D5.stp).stepL hs10 (by decide); have q55 := kpL hs10 (by decide) (sm10 0 (by decide)) (D5.kt q46 rfl); have q56 := kpL hs10 (by decide) (sm10 1 (by decide)) (D5.kt q47 rfl); have q57 := kpL hs10 (by decide) (sm10 8 (by decide)) (D5.kt q49 rfl); have q58 := kpL hs10 (by decide) (sm10 31 (by decide)) q53; have o54 := OwnM.keepL o46 hs10 (by decide) (by decide); have o55 := OwnP.keepL o47 hs10 (by decide) (by decide)
 obtain ⟨t2, ⟨g3, hT2, o48, o49, o50, hp2⟩, B2⟩ := r10
 have q59 : At (Ty.tup2 (Ty.lst Ty.ints (g3)) (Ty.int (eltE (((List.length ra))) (([ra, rb]))))) s15 a15 (.tmp 33) := Ty.up _ B2.le hT2
 have o51 : OwnP s15 61 x1 [(Ty.nat (((List.length ra)))), (Ty.val x3), (Ty.val x2)] := OwnP.ren o48 (B2.ren (by decide) rfl)
 have o52 : ChnU s15 62 22 108 x2 (((List.length ra))) ((g1)) ((g2)) := ChnU.ren o49 (B2.ren (by decide) rfl)
 have o53 : Own s15 63 22 1 x3 (List.length (([ra, rb]))) (List.map Ty.ints (([ra, rb]))) := Own.ren o50 (B2.ren (by decide) rfl)
 refine tL ok15 (Yld.toL (y_mv q59)) fun a16 s16 hs11 ok16 r11 sm11 => ?_
 have F16 := F15.stepL hs11 (by decide); have q60 := kpL hs11 (by decide) (sm11 0 (by decide)) q55; have q61 := kpL hs11 (by decide) (sm11 1 (by decide)) q56; have q62 := kpL hs11 (by decide) (sm11 8 (by decide)) q57; have q63 := kpL hs11 (by decide) (sm11 31 (by decide)) q58; have o56 := OwnM.keepL o54 hs11 (by decide) (by decide); have o57 := OwnP.keepL o55 hs11 (by decide) (by decide); have o58 := OwnP.keepL o51 hs11 (by decide) (by decide); have o59 := ChnU.keepL o52 hs11 (by decide) (by decide); have o60 := Own.keepL o53 hs11 (by decide) (by decide)
 have q64 : At (Ty.tup2 (Ty.lst Ty.ints (g3)) (Ty.int (eltE (((List.length ra))) (([ra, rb]))))) s16 a16 (.tmp 30) := r11
 clear r11
 refine tL (R := (fun v τ => Pr.has (Ty.pr (Ty.lst Ty.ints (g3))) τ v)) ok16 (Yld.toL (y_ext2_0 q64)) fun a17 s17 hs12 ok17 r12 sm12 => ?_
 have F17 := F16.stepL hs12 (by decide); have q65 := kpL hs12 (by decide) (sm12 0 (by decide)) q60; have q66 := kpL hs12 (by decide) (sm12 1 (by decide)) q61; have q67 := kpL hs12 (by decide) (sm12 8 (by decide)) q62; have q68 := kpL hs12 (by decide) (sm12 31 (by decide)) q63; have q69 := kpL hs12 (by decide) (sm12 30 (by decide)) q64; have o61 := OwnM.keepL o56 hs12 (by decide) (by decide); have o62 := OwnP.keepL o57 hs12 (by decide) (by decide); have o63 := OwnP.keepL o58 hs12 (by decide) (by decide); have o64 := ChnU.keepL o59 hs12 (by decide) (by decide); have o65 := Own.keepL o60 hs12 (by decide) (by decide)
 have q70 : At (Ty.lst Ty.ints (g3)) s17 a17 (.tmp 34) := r12
 clear r12
 refine tL (R := (fun v τ => Pr.has (Ty.pr (Ty.int (eltE (((List.length ra))) (([ra, rb]))))) τ v)) ok17 (Yld.toL (y_ext2_1 q69)) fun a18 s18 hs13 ok18 r13 sm13 => ?_
 have F18 := F17.stepL hs13 (by decide); have q71 := kpL hs13 (by decide) (sm13 0 (by decide)) q65; have q72 := kpL hs13 (by decide) (sm13 1 (by decide)) q66; have q73 := kpL hs13 (by decide) (sm13 8 (by decide)) q67; have q74 := kpL hs13 (by decide) (sm13 31 (by decide)) q68; have q75 := kpL hs13 (by decide) (sm13 34 (by decide)) q70; have o66 := OwnM.keepL o61 hs13 (by decide) (by decide); have o67 := OwnP.keepL o62 hs13 (by decide) (by decide); have o68 := OwnP.keepL o63 hs13 (by decide) (by decide); have o69 := ChnU.keepL o64 hs13 (by decide) (by decide); have o70 := Own.keepL o65 hs13 (by decide) (by decide)
 have q76 : At (Ty.int (eltE (((List.length ra))) (([ra, rb])))) s18 a18 (.tmp 35) := r13
 clear r13
 refine tL (R := (fun v τ => Pr.has (Ty.pr (Ty.val x5)) τ v)) ok18 (Yld.toL (y_nilp o67 q74)) fun a19 s19 hs14 ok19 r14 sm14 => ?_
 have F19 := F18.stepL hs14 (by decide); have q77 := kpL hs14 (by decide) (sm14 0 (by decide)) q71; have q78 := kpL hs14 (by decide) (sm14 1 (by decide)) q72; have q79 := kpL hs14 (by decide) (sm14 8 (by decide)) q73; have q80 := kpL hs14 (by decide) (sm14 34 (by decide)) q75; have q81 := kpL hs14 (by decide) (sm14 35 (by decide)) q76; have o71 := OwnM.keepL o66 hs14 (by decide) (by decide); have o72 := OwnP.keepL o67 hs14 (by decide) (by decide); have o73 := OwnP.keepL o68 hs14 (by decide) (by decide); have o74 := ChnU.keepL o69 hs14 (by decide) (by decide); have o75 := Own.keepL o70 hs14 (by decide) (by decide)
 have q82 : At (Ty.val x5) s19 a19 (.tmp 36) := r14
 clear r14
 refine tL (R := (fun v τ => Pr.has (Ty.pr (Ty.val (ptrAt x5 0))) τ v)) ok19 (Yld.toL (ownp_field Try.fld103_0 Try.inf24 (by decide) o72 q82)) fun a20 s20 hs15 ok20 r15 sm15 => ?_
 have F20 := F19.stepL hs15 (by decide); have q83 := kpL hs15 (by decide) (sm15 0 (by decide)) q77; have q84 := kpL hs15 (by decide) (sm15 1 (by decide)) q78; have q85 := kpL hs15 (by decide) (sm15 8 (by decide)) q79; have q86 := kpL hs15 (by decide) (sm15 34 (by decide)) q80; have q87 := kpL hs15 (by decide) (sm15 35 (by decide)) q81; have o76 := OwnM.keepL o71 hs15 (by decide) (by decide); have o77 := OwnP.keepL o72 hs15 (by decide) (by decide); have o78 := OwnP.keepL o73 hs15 (by decide) (by decide); have o79 := ChnU.keepL o74 hs15 (by decide) (by decide); have o80 := Own.keepL o75 hs15 (by decide) (by decide)
 have q88 : At (Ty.val (ptrAt x5 0)) s20 a20 (.tmp 37) := r15
 clear r15
 refine tailL0 (L := [5]) (R := (fun _ τ => OwnP τ 5 x5 ([(Ty.val (Value.slice none 0 0)), (Ty.val x4), (Ty.val (Value.slice none 0 0)), (Ty.val (Value.slice none 0 0))].set 0 (Ty.lst Ty.ints (g3))))) rfl rfl (YldM.toL (m_storep Try.inf24 (by decide) o77 q88 (Nat.le_of_ble_eq_true rfl) q86 (one_sl))) (fun v1 s21 hs16 r16 => ?_)
 have F21 := F20.stepL hs16 (by decide); have q89 := kpL hs16 (by decide) rfl q83; have q90 := kpL hs16 (by decide) rfl q84; have q91 := kpL hs16 (by decide) rfl q85; have q92 := kpL hs16 (by decide) rfl q87; have o82 := OwnM.keepL o76 hs16 (by decide) (by decide); have o83 := OwnP.keepL o78 hs16 (by decide) (by decide); have o84 := ChnU.keepL o79 hs16 (by decide) (by decide); have o85 := Own.keepL o80 hs16 (by decide) (by decide)
 have o81 : OwnP s21 5 x5 [(Ty.lst Ty.ints (g3)), (Ty.val x4), (Ty.val (Value.slice none 0 0)), (Ty.val (Value.slice none 0 0))] := r16
 clear r16
 refine tL ok20 (Yld.toL (y_as q92)) fun a21 s22 hs17 ok21 r17 sm16 => ?_
 have F22 := F21.stepL hs17 (by decide); have q94 := kpL hs17 (by decide) (sm16 0 (by decide)) q89; have q95 := kpL hs17 (by decide) (sm16 1 (by decide)) q90; have q96 := kpL hs17 (by decide) (sm16 8 (by decide)) q91; have o86 := OwnM.keepL o82 hs17 (by decide) (by decide); have o87 := OwnP.keepL o83 hs17 (by decide) (by decide); have o88 := ChnU.keepL o84 hs17 (by decide) (by decide); have o89 := Own.keepL o85 hs17 (by decide) (by decide); have o90 := OwnP.keepL o81 hs17 (by decide) (by decide)
 have q97 : At (Ty.int (eltE (((List.length ra))) (([ra, rb])))) s22 a21 (.tmp 7) := r17
 clear r17; refine wpList_nil (tn (wp_seq ?_))
 refine gI a21 s22 ok21 (gM q97 (gS rfl (fun A B G H I d0 => rP (y_neq (ed d0 rfl rfl rfl) rfl)) (gE ok21 fun a22 s23 ok22 D6 => ?_))); have o91 := OwnM.k0 o86 D6.stp; have o92 := OwnP.k0 o90 D6.stp; refine tn ?_
 refine cond_p (p := ((eltE (((List.length ra))) (([ra, rb]))) ≠ (0 : Int))) (D6.dn 1 rfl rfl) (fun c2 => ?_) (fun c2 => ?_)
 ·
  refine wp_seq ?_
  refine gI a22 s23 ok22 (gM (D6.kt q97 rfl) (gC (Ty.val (Value.pointer none)) (gB 0 (gE ok22 fun a23 s24 ok23 D7 => ?_)))); have o93 := OwnM.k0 o91 D7.stp; have o94 := OwnP.k0 o92 D7.stp; refine tn (wp_ret (tr ?_))
  exact retL2 rfl ok23 ((F22.step0 D6.stp).step0 D7.stp) (hasT2 (D7.dn 1 rfl rfl) (cvi (by (unfold eltE; rw [if_neg hS])) (D7.dn 2 rfl rfl)))
 ·
  exfalso
  unfold eltE at c2; rw [if_neg hS] at c2; exact c2 (by decide)


theorem mk2E_fn (ra rb : List Int) (σ : GW) (v0 v1 : Value) (hv0 : Ty.has (Ty.lst Ty.int ra) σ v0) (hv1 : Ty.has (Ty.lst Ty.int rb) σ v1) (hbad : mkE ra rb ≠ 0) : FnC Try.prog 68 #[v0, v1] σ (Ty.tup2 (Ty.val (Value.pointer none)) (Ty.int (mkE ra rb))) := by
  by_cases h : gensMay ((ra.length : Nat) : Int) [ra, rb] ≠ 0
  · have e : mkE ra rb = gensMay ((ra.length : Nat) : Int) [ra, rb] := if_pos h
    rw [e]; exact mk2A_fn ra rb σ v0 v1 hv0 hv1 h
  · have hM : gensMay ((ra.length : Nat) : Int) [ra, rb] = 0 := Classical.not_not.1 h
    have e : mkE ra rb = eltE ra.length [ra, rb] := if_neg h
    have hS : ¬ szTo ra.length (fun z => z ∈ [ra, rb]) ra.length ≤ 5040 := fun G => hbad (by rw [e]; exact if_pos G)
    have e2 : mkE ra rb = 3 := by rw [e]; exact if_neg hS
    rw [e2]; exact mk2B_fn ra rb σ v0 v1 hv0 hv1 hM hS


set_option maxHeartbeats 4000000 in
set_option maxRecDepth 100000 in
theorem xQsetsE_fn (ra : List Int) (rb : List Int) (σ : GW)  (v0 v1 : Value) (hv0 : Ty.has (Ty.lst Ty.int ra) σ v0) (hv1 : Ty.has (Ty.lst Ty.int rb) σ v1)  (hbad : mkE ra rb ≠ 0) :
    FnC Try.prog 26 #[v0, v1] σ (Ty.tup2 (Ty.lst Ty.ints ([] : List (List Int))) (Ty.int (mkE ra rb))) := by
 refine fn_intro0 Try.func26 rfl Try.ntmps26 (Nat.le_of_ble_eq_true rfl) (fun s0 a0 hle F0 ok0 hargs => ?_)
 have p0 := pA hle (hargs 0 _ rfl) hv0
 have b1 := sl_le p0
 have p1 := pA hle (hargs 1 _ rfl) hv1
 have b2 := sl_le p1
 clear hargs; refine wp_seq ?_
 refine gI a0 s0 ok0 (gC (Ty.val (Value.slice none 0 0)) (gC (Ty.int (0 : Int)) (gE ok0 fun a1 s1 ok1 D1 => ?_))); refine tn (wp_seq ?_)
 refine gI a1 s1 ok1 (gM (D1.kt p0 rfl) (gM (D1.kt p1 rfl) (gS rfl (fun A B G H I d0 d1 => rP (y_call _ Try.func68 rfl rfl my2 (mk2E_fn (ra) (rb) _ _ _ (ed d0 rfl rfl rfl) (ed d1 rfl rfl rfl) (by omega)))) (gS rfl (fun A B G H I d0 => rP (y_move (ed d0 rfl rfl rfl))) (gT (Ty.val (Value.pointer none)) rfl (fun A B G H I d0 => rP (y_ext2_0 (ed d0 rfl rfl rfl))) (gT (Ty.int (mkE ra rb)) rfl (fun A B G H I d0 d1 => rP (y_ext2_1 (ed d0 rfl rfl rfl))) (gB 0 (gB 0 (gE ok1 fun a2 s2 ok2 D2 => ?_))))))))); have q4 := D2.dn 7 rfl rfl; refine tn (wp_seq (wp_seq ?_))
 refine gI a2 s2 ok2 (gM q4 (gS rfl (fun A B G H I d0 => rP (y_neq (ed d0 rfl rfl rfl) rfl)) (gE ok2 fun a3 s3 ok3 D3 => ?_))); refine tn ?_
 refine cond_p (p := ((mkE ra rb) ≠ (0 : Int))) (D3.dn 1 rfl rfl) (fun c1 => ?_) (fun c1 => ?_)
 ·
  refine wp_seq ?_
  refine gI a3 s3 ok3 (gM (D3.kt q4 rfl) (gC (Ty.val (Value.slice none 0 0)) (gB 0 (gE ok3 fun a4 s4 ok4 D4 => ?_)))); refine tn (wp_ret (tr ?_))
  exact retL2 rfl ok4 ((((F0.step0 D1.stp).step0 D2.stp).step0 D3.stp).step0 D4.stp) (hasT2 (nil_lst (by (first | rfl | omega | (simp_all; done) | (simp_all; omega))) (D4.dn 1 rfl rfl)) (D4.dn 2 rfl rfl))
 ·
  exfalso
  exact c1 hbad


set_option maxHeartbeats 4000000 in
set_option maxRecDepth 100000 in
theorem xRoundsE_fn (ra : List Int) (rb : List Int) (ch : List Int) (σ : GW)  (v0 v1 v2 : Value) (hv0 : Ty.has (Ty.lst Ty.int ra) σ v0) (hv1 : Ty.has (Ty.lst Ty.int rb) σ v1) (hv2 : Ty.has (Ty.lst Ty.int ch) σ v2)  (hbad : mkE ra rb ≠ 0) :
    FnC Try.prog 27 #[v0, v1, v2] σ (Ty.tup2 (Ty.int (0 : Int)) (Ty.int (mkE ra rb))) := by
 refine fn_intro0 Try.func27 rfl Try.ntmps27 (Nat.le_of_ble_eq_true rfl) (fun s0 a0 hle F0 ok0 hargs => ?_)
 have p0 := pA hle (hargs 0 _ rfl) hv0
 have b1 := sl_le p0
 have p1 := pA hle (hargs 1 _ rfl) hv1
 have b2 := sl_le p1
 have p2 := pA hle (hargs 2 _ rfl) hv2
 have b3 := sl_le p2
 clear hargs; refine wp_seq ?_
 refine gI a0 s0 ok0 (gC (Ty.int (0 : Int)) (gC (Ty.int (0 : Int)) (gE ok0 fun a1 s1 ok1 D1 => ?_))); refine tn (wp_seq ?_)
 refine gI a1 s1 ok1 (gM (D1.kt p0 rfl) (gM (D1.kt p1 rfl) (gS rfl (fun A B G H I d0 d1 => rP (y_call _ Try.func68 rfl rfl my2 (mk2E_fn (ra) (rb) _ _ _ (ed d0 rfl rfl rfl) (ed d1 rfl rfl rfl) (by omega)))) (gS rfl (fun A B G H I d0 => rP (y_move (ed d0 rfl rfl rfl))) (gT (Ty.val (Value.pointer none)) rfl (fun A B G H I d0 => rP (y_ext2_0 (ed d0 rfl rfl rfl))) (gT (Ty.int (mkE ra rb)) rfl (fun A B G H I d0 d1 => rP (y_ext2_1 (ed d0 rfl rfl rfl))) (gB 0 (gB 0 (gE ok1 fun a2 s2 ok2 D2 => ?_))))))))); have q6 := D2.dn 7 rfl rfl; refine tn (wp_seq (wp_seq ?_))
 refine gI a2 s2 ok2 (gM q6 (gS rfl (fun A B G H I d0 => rP (y_neq (ed d0 rfl rfl rfl) rfl)) (gE ok2 fun a3 s3 ok3 D3 => ?_))); refine tn ?_
 refine cond_p (p := ((mkE ra rb) ≠ (0 : Int))) (D3.dn 1 rfl rfl) (fun c1 => ?_) (fun c1 => ?_)
 ·
  refine wp_seq ?_
  refine gI a3 s3 ok3 (gM (D3.kt q6 rfl) (gC (Ty.int (0 : Int)) (gB 0 (gE ok3 fun a4 s4 ok4 D4 => ?_)))); refine tn (wp_ret (tr ?_))
  exact retL2 rfl ok4 ((((F0.step0 D1.stp).step0 D2.stp).step0 D3.stp).step0 D4.stp) (hasT2 (D4.dn 1 rfl rfl) (D4.dn 2 rfl rfl))
 ·
  exfalso
  exact c1 hbad


set_option maxHeartbeats 4000000 in
set_option maxRecDepth 100000 in
theorem xSaysA_fn (ra : List Int) (rb : List Int) (ch : List Int) (σ : GW)  (v0 v1 v2 : Value) (hv0 : Ty.has (Ty.lst Ty.int ra) σ v0) (hv1 : Ty.has (Ty.lst Ty.int rb) σ v1) (hv2 : Ty.has (Ty.lst Ty.int ch) σ v2)  (hbad : mkE ra rb ≠ 0) :
    FnC Try.prog 4 #[v0, v1, v2] σ (Ty.bool true) := by
 refine fn_intro0 Try.func4 rfl Try.ntmps4 (Nat.le_of_ble_eq_true rfl) (fun s0 a0 hle F0 ok0 hargs => ?_)
 have p0 := pA hle (hargs 0 _ rfl) hv0
 have b1 := sl_le p0
 have p1 := pA hle (hargs 1 _ rfl) hv1
 have b2 := sl_le p1
 have p2 := pA hle (hargs 2 _ rfl) hv2
 have b3 := sl_le p2
 clear hargs; refine wp_seq ?_
 refine gI a0 s0 ok0 (gC (Ty.bool false) (gE ok0 fun a1 s1 ok1 D1 => ?_)); have q1 := D1.kt p0 rfl; have q2 := D1.kt p1 rfl; refine tn (wp_seq ?_)
 refine gI a1 s1 ok1 (gM q1 (gS rfl (fun A B G H I d0 => rP (y_len Try.underlying22 (ed d0 rfl rfl rfl))) (gM q1 (gM q2 (gT (Ty.sl 1 2 [(Ty.lst Ty.int ra), (Ty.lst Ty.int rb)]) rfl (fun A B G H I d0 d1 => rP (y_build2 Try.underlying24 Try.inf22 rfl (one_sl) (one_sl) (ed d0 rfl rfl rfl) (ed d1 rfl rfl rfl))) (gS rfl (fun A B G H I d0 d1 => rP (y_call _ Try.func24 rfl rfl my2 (rGensMay_fn ((((List.length ra) : Nat) : Int)) ([ra, rb]) _ _ _ (cvi (σ := B) (by omega) (ed d0 rfl rfl rfl)) (ed d1 rfl rfl rfl) ))) (gB 0 (gE ok1 fun a2 s2 ok2 D2 => ?_)))))))); refine tn (wp_seq ?_)
 refine gI a2 s2 ok2 (gC (Ty.val (Value.slice none 0 0)) (gE ok2 fun a3 s3 ok3 D3 => ?_)); have q11 := D3.kt (D2.dn 6 rfl rfl) rfl; refine tn (wp_seq (wp_seq ?_))
 refine gI a3 s3 ok3 (gM q11 (gS rfl (fun A B G H I d0 => rP (y_eql (ed d0 rfl rfl rfl) rfl)) (gE ok3 fun a4 s4 ok4 D4 => ?_))); have F4 := (((F0.step0 D1.stp).step0 D2.stp).step0 D3.stp).step0 D4.stp; have q13 := D4.kt (D3.kt (D2.kt q1 rfl) rfl) rfl; have q14 := D4.kt (D3.kt (D2.kt q2 rfl) rfl) rfl; have q15 := D4.kt (D3.kt (D2.kt (D1.kt p2 rfl) rfl) rfl) rfl; refine tn ?_
 refine cond_p (p := ((gensMay ((((List.length ra) : Nat) : Int)) ([ra, rb])) = (0 : Int))) (D4.dn 1 rfl rfl) (fun c1 => ?_) (fun c1 => ?_)
 ·
  have hM : gensMay ((ra.length : Nat) : Int) [ra, rb] = 0 := c1; have hT2 := TwoP.of hM; have hn := hT2.hn; have hG := hT2.g; have hra := hT2.cx; have hrb := hT2.cy; have hl8 : [ra, rb].length ≤ 8 := (by simp); have hS : ¬ szTo ra.length (fun z => z ∈ [ra, rb]) ra.length ≤ 5040 := (fun hs_ => hbad (by unfold mkE eltE; rw [if_neg (fun h_ => h_ hM), if_pos hs_])); have hm3 : mkE ra rb = 3 := (by unfold mkE eltE; rw [if_neg (fun h_ => h_ hM), if_neg hS]); have hsb := szTo_bd (n := ra.length) (S := fun z => z ∈ [ra, rb]) (k := ra.length) hn.2
  refine wp_seq ?_
  refine gI a4 s4 ok4 (gM q13 (gS rfl (fun A B G H I d0 => rP (y_len Try.underlying22 (ed d0 rfl rfl rfl))) (gM q13 (gM q14 (gT (Ty.sl 1 2 [(Ty.lst Ty.int ra), (Ty.lst Ty.int rb)]) rfl (fun A B G H I d0 d1 => rP (y_build2 Try.underlying24 Try.inf22 rfl (one_sl) (one_sl) (ed d0 rfl rfl rfl) (ed d1 rfl rfl rfl))) (gS rfl (fun A B G H I d0 d1 => rP (y_call _ Try.func20 rfl rfl my2 (rSizes_fn ((List.length ra)) ([ra, rb]) _ _ _ (cvi (σ := B) (by first | omega | assumption | exact hst1) (ed d0 rfl rfl rfl)) (ed d1 rfl rfl rfl) (by first | omega | assumption | exact hst1) (by first | omega | assumption | exact hst1) (by first | omega | assumption | exact hst1)))) (gB 0 (gE ok4 fun a5 s5 ok5 D5 => ?_)))))))); have q24 := D5.dn 6 rfl rfl; refine tn (wp_seq (wp_seq ?_))
  refine gI a5 s5 ok5 (gM q24 (gS rfl (fun A B G H I d0 => rP (y_gtr (ed d0 rfl rfl rfl) rfl)) (gS rfl (fun A B G H I d0 => rP (y_move (ed d0 rfl rfl rfl))) (gS rfl (fun A B G H I d0 => gu H (ed d0 rfl rfl rfl) fun hg => y_move (kp (I 9 rfl) G q24)) (gS rfl (fun A B G H I d0 d1 => gu H (ed d1 rfl rfl rfl) fun hg => y_lss ((ed d0 rfl rfl rfl).1 hg) rfl) (gS rfl (fun A B G H I d0 d1 => rP (y_pick_and (ed d0 rfl rfl rfl) (ed d1 rfl rfl rfl) rfl)) (gE ok5 fun a6 s6 ok6 D6 => ?_))))))); refine tn ?_
  refine cond_t (D6.dn 5 rfl rfl) (fun c2 => ?_) (fun c2 => ?_)
  ·
   exfalso
   simp only [Bool.and_eq_true, decide_eq_true_eq] at c2; omega
  ·
   refine wp_skip (tn (wp_seq ?_))
   refine gI a6 s6 ok6 (gM (D6.kt q24 rfl) (gS rfl (fun A B G H I d0 => rP (y_gtr (ed d0 rfl rfl rfl) rfl)) (gE ok6 fun a7 s7 ok7 D7 => ?_))); refine tn ?_
   refine cond_p (p := ((5040 : Int) < (((szTo ((List.length ra)) (fun y => y ∈ ([ra, rb])) ((List.length ra))) : Nat) : Int))) (D7.dn 1 rfl rfl) (fun c3 => ?_) (fun c3 => ?_)
   ·
    refine gI a7 s7 ok7 (gC (Ty.int (3 : Int)) (gE ok7 fun a8 s8 ok8 D8 => ?_)); have q38 := D8.kt (D7.kt (D6.kt (D5.kt q13 rfl) rfl) rfl) rfl; have q39 := D8.kt (D7.kt (D6.kt (D5.kt q14 rfl) rfl) rfl) rfl; refine tn (wp_seq ?_)
    refine gI a8 s8 ok8 (gM q38 (gM q39 (gS rfl (fun A B G H I d0 d1 => rP (y_call _ Try.func26 rfl rfl my2 (xQsetsE_fn (ra) (rb) _ _ _ (ed d0 rfl rfl rfl) (ed d1 rfl rfl rfl) (by omega)))) (gS rfl (fun A B G H I d0 => rP (y_move (ed d0 rfl rfl rfl))) (gT (Ty.lst Ty.ints ([] : List (List Int))) rfl (fun A B G H I d0 => rP (y_ext2_0 (ed d0 rfl rfl rfl))) (gT (Ty.int (mkE ra rb)) rfl (fun A B G H I d0 d1 => rP (y_ext2_1 (ed d0 rfl rfl rfl))) (gB 0 (gB 0 (gE ok8 fun a9 s9 ok9 D9 => ?_))))))))); refine tn (wp_seq ?_)
    refine gI a9 s9 ok9 (gM (D9.kt q38 rfl) (gM (D9.kt q39 rfl) (gM (D9.kt (D8.kt (D7.kt (D6.kt (D5.kt q15 rfl) rfl) rfl) rfl) rfl) (gS rfl (fun A B G H I d0 d1 d2 => rP (y_call _ Try.func27 rfl rfl my3 (xRoundsE_fn (ra) (rb) (ch) _ _ _ _ (ed d0 rfl rfl rfl) (ed d1 rfl rfl rfl) (ed d2 rfl rfl rfl) (by omega)))) (gS rfl (fun A B G H I d0 => rP (y_move (ed d0 rfl rfl rfl))) (gT (Ty.int (0 : Int)) rfl (fun A B G H I d0 => rP (y_ext2_0 (ed d0 rfl rfl rfl))) (gT (Ty.int (mkE ra rb)) rfl (fun A B G H I d0 d1 => rP (y_ext2_1 (ed d0 rfl rfl rfl))) (gB 0 (gB 0 (gE ok9 fun a10 s10 ok10 D10 => ?_)))))))))); have q54 := D10.kt (D9.kt (D8.dn 0 rfl rfl) rfl) rfl; refine tn (wp_seq (wp_seq ?_))
    refine gI a10 s10 ok10 (gM q54 (gT (Ty.bool true) rfl (fun A B G H I d0 => rP ((y_neq (ed d0 rfl rfl rfl) rfl).mono (fun τ _ h => cvb (σ := τ) (by decide) h))) (gE ok10 fun a11 s11 ok11 D11 => ?_))); have q63 := D11.kt q54 rfl; refine tn ?_
    refine cond_t (D11.dn 1 rfl rfl) (fun _ => ?_) (fun c4 => (by cases c4))
    refine wp_seq ?_
    refine gI a11 s11 ok11 (gM (D11.kt (D10.kt (D9.dn 7 rfl rfl) rfl) rfl) (gM q63 (gS rfl (fun A B G H I d0 d1 => rP (y_eql (ed d0 rfl rfl rfl) (ed d1 rfl rfl rfl))) (gS rfl (fun A B G H I d0 => rP (y_move (ed d0 rfl rfl rfl))) (gS rfl (fun A B G H I d0 => gu H (ed d0 rfl rfl rfl) fun hg => y_move (kp (I 13 rfl) G (D11.kt (D10.dn 8 rfl rfl) rfl))) (gS rfl (fun A B G H I d0 => gu H (ed d0 rfl rfl rfl) fun hg => y_move (kp (I 7 rfl) G q63)) (gS rfl (fun A B G H I d0 d1 d2 => gu H (ed d2 rfl rfl rfl) fun hg => y_eql ((ed d0 rfl rfl rfl).1 hg) ((ed d1 rfl rfl rfl).1 hg)) (gS rfl (fun A B G H I d0 d1 => rP (y_pick_and (ed d0 rfl rfl rfl) (ed d1 rfl rfl rfl) rfl)) (gS rfl (fun A B G H I d0 d1 => rP (y_move (ed d0 rfl rfl rfl))) (gT (Ty.grd (((decide ((mkE ra rb) = (3 : Int))) && (decide ((mkE ra rb) = (3 : Int)))) = true) (Ty.lst Ty.ints ([] : List (List Int)))) rfl (by intro A B G H I d0; refine run_guard H rfl rfl (by decide) (ed d0 rfl rfl rfl) (fun hg => ?_); obtain ⟨d1, d2⟩ := Bool.and_eq_true_iff.mp hg; have d1 := of_decide_eq_true d1; have d2 := of_decide_eq_true d2; exact y_move (kp (I 10 rfl) G (D11.kt (D10.kt (D9.dn 6 rfl rfl) rfl) rfl))) (gT (Ty.grd (((decide ((mkE ra rb) = (3 : Int))) && (decide ((mkE ra rb) = (3 : Int)))) = true) (Ty.nat (List.length ([] : List (List Int))))) rfl (by intro A B G H I d0 d1; refine run_guard H rfl rfl (by decide) (ed d1 rfl rfl rfl) (fun hg => ?_); obtain ⟨d3, d4⟩ := Bool.and_eq_true_iff.mp hg; have d3 := of_decide_eq_true d3; have d4 := of_decide_eq_true d4; exact y_len Try.underlying24 ((ed d0 rfl rfl rfl).1 hg)) ?_)))))))))))
    refine gT (Ty.grd (((decide ((mkE ra rb) = (3 : Int))) && (decide ((mkE ra rb) = (3 : Int)))) = true) (Ty.bool (decide ((((List.length ([] : List (List Int))) : Nat) : Int) = (0 : Int))))) rfl (by intro A B G H I d0 d1; refine run_guard H rfl rfl (by decide) (ed d1 rfl rfl rfl) (fun hg => ?_); obtain ⟨d5, d6⟩ := Bool.and_eq_true_iff.mp hg; have d5 := of_decide_eq_true d5; have d6 := of_decide_eq_true d6; exact y_eql ((ed d0 rfl rfl rfl).1 hg) rfl) (gS rfl (fun A B G H I d0 d1 => rP (y_pick_and (ed d0 rfl rfl rfl) (ed d1 rfl rfl rfl) rfl)) (gS rfl (fun A B G H I d0 d1 => rP (y_move (ed d0 rfl rfl rfl))) (gT (Ty.grd ((((decide ((mkE ra rb) = (3 : Int))) && (decide ((mkE ra rb) = (3 : Int)))) && (decide ((((List.length ([] : List (List Int))) : Nat) : Int) = (0 : Int)))) = true) (Ty.int (0 : Int))) rfl (by intro A B G H I d0; refine run_guard H rfl rfl (by decide) (ed d0 rfl rfl rfl) (fun hg => ?_); obtain ⟨d7, d8⟩ := Bool.and_eq_true_iff.mp hg; obtain ⟨d9, d10⟩ := Bool.and_eq_true_iff.mp d7; have d9 := of_decide_eq_true d9; have d10 := of_decide_eq_true d10; have d8 := of_decide_eq_true d8; exact y_move (kp (I 12 rfl) G (D11.kt (D10.dn 7 rfl rfl) rfl))) (gT (Ty.grd ((((decide ((mkE ra rb) = (3 : Int))) && (decide ((mkE ra rb) = (3 : Int)))) && (decide ((((List.length ([] : List (List Int))) : Nat) : Int) = (0 : Int)))) = true) (Ty.bool true)) rfl (by intro A B G H I d0 d1; refine run_guard H rfl rfl (by decide) (ed d1 rfl rfl rfl) (fun hg => ?_); obtain ⟨d11, d12⟩ := Bool.and_eq_true_iff.mp hg; obtain ⟨d13, d14⟩ := Bool.and_eq_true_iff.mp d11; have d13 := of_decide_eq_true d13; have d14 := of_decide_eq_true d14; have d12 := of_decide_eq_true d12; exact (y_eql ((ed d0 rfl rfl rfl).1 hg) rfl).mono (fun τ _ h => cvb (σ := τ) (by decide) h)) (gS rfl (fun A B G H I d0 d1 => rP (y_pick_and (ed d0 rfl rfl rfl) (ed d1 rfl rfl rfl) rfl)) (gB 0 (gE ok11 fun a12 s12 ok12 D12 => ?_))))))); refine tn (wp_ret (tr ?_))
    exact retL1 rfl ok12 ((((((((F4.step0 D5.stp).step0 D6.stp).step0 D7.stp).step0 D8.stp).step0 D9.stp).step0 D10.stp).step0 D11.stp).step0 D12.stp) (cvb (by (rw [hm3]; rfl)) (D12.dn 17 rfl rfl))
   ·
    exfalso
    omega
 ·
  have hmg : mkE ra rb = gensMay ((ra.length : Nat) : Int) [ra, rb] := if_pos c1
  refine wp_skip (tn (wp_seq ?_))
  refine gI a4 s4 ok4 (gM q13 (gM q14 (gS rfl (fun A B G H I d0 d1 => rP (y_call _ Try.func26 rfl rfl my2 (xQsetsE_fn (ra) (rb) _ _ _ (ed d0 rfl rfl rfl) (ed d1 rfl rfl rfl) (by omega)))) (gS rfl (fun A B G H I d0 => rP (y_move (ed d0 rfl rfl rfl))) (gT (Ty.lst Ty.ints ([] : List (List Int))) rfl (fun A B G H I d0 => rP (y_ext2_0 (ed d0 rfl rfl rfl))) (gT (Ty.int (mkE ra rb)) rfl (fun A B G H I d0 d1 => rP (y_ext2_1 (ed d0 rfl rfl rfl))) (gB 0 (gB 0 (gE ok4 fun a13 s13 ok13 D13 => ?_))))))))); refine tn (wp_seq ?_)
  refine gI a13 s13 ok13 (gM (D13.kt q13 rfl) (gM (D13.kt q14 rfl) (gM (D13.kt q15 rfl) (gS rfl (fun A B G H I d0 d1 d2 => rP (y_call _ Try.func27 rfl rfl my3 (xRoundsE_fn (ra) (rb) (ch) _ _ _ _ (ed d0 rfl rfl rfl) (ed d1 rfl rfl rfl) (ed d2 rfl rfl rfl) (by omega)))) (gS rfl (fun A B G H I d0 => rP (y_move (ed d0 rfl rfl rfl))) (gT (Ty.int (0 : Int)) rfl (fun A B G H I d0 => rP (y_ext2_0 (ed d0 rfl rfl rfl))) (gT (Ty.int (mkE ra rb)) rfl (fun A B G H I d0 d1 => rP (y_ext2_1 (ed d0 rfl rfl rfl))) (gB 0 (gB 0 (gE ok13 fun a14 s14 ok14 D14 => ?_)))))))))); have q80 := D14.kt (D13.kt (D4.kt q11 rfl) rfl) rfl; refine tn (wp_seq (wp_seq ?_))
  refine gI a14 s14 ok14 (gM q80 (gS rfl (fun A B G H I d0 => rP (y_neq (ed d0 rfl rfl rfl) rfl)) (gE ok14 fun a15 s15 ok15 D15 => ?_))); have q89 := D15.kt q80 rfl; refine tn ?_
  refine cond_p (p := ((gensMay ((((List.length ra) : Nat) : Int)) ([ra, rb])) ≠ (0 : Int))) (D15.dn 1 rfl rfl) (fun c5 => ?_) (fun c5 => ?_)
  ·
   refine wp_seq ?_
   refine gI a15 s15 ok15 (gM (D15.kt (D14.kt (D13.dn 7 rfl rfl) rfl) rfl) (gM q89 (gS rfl (fun A B G H I d0 d1 => rP (y_eql (ed d0 rfl rfl rfl) (ed d1 rfl rfl rfl))) (gS rfl (fun A B G H I d0 => rP (y_move (ed d0 rfl rfl rfl))) (gS rfl (fun A B G H I d0 => gu H (ed d0 rfl rfl rfl) fun hg => y_move (kp (I 13 rfl) G (D15.kt (D14.dn 8 rfl rfl) rfl))) (gS rfl (fun A B G H I d0 => gu H (ed d0 rfl rfl rfl) fun hg => y_move (kp (I 7 rfl) G q89)) (gS rfl (fun A B G H I d0 d1 d2 => gu H (ed d2 rfl rfl rfl) fun hg => y_eql ((ed d0 rfl rfl rfl).1 hg) ((ed d1 rfl rfl rfl).1 hg)) (gS rfl (fun A B G H I d0 d1 => rP (y_pick_and (ed d0 rfl rfl rfl) (ed d1 rfl rfl rfl) rfl)) (gS rfl (fun A B G H I d0 d1 => rP (y_move (ed d0 rfl rfl rfl))) (gT (Ty.grd (((decide ((mkE ra rb) = (gensMay ((((List.length ra) : Nat) : Int)) ([ra, rb])))) && (decide ((mkE ra rb) = (gensMay ((((List.length ra) : Nat) : Int)) ([ra, rb]))))) = true) (Ty.lst Ty.ints ([] : List (List Int)))) rfl (by intro A B G H I d0; refine run_guard H rfl rfl (by decide) (ed d0 rfl rfl rfl) (fun hg => ?_); obtain ⟨d15, d16⟩ := Bool.and_eq_true_iff.mp hg; have d15 := of_decide_eq_true d15; have d16 := of_decide_eq_true d16; exact y_move (kp (I 10 rfl) G (D15.kt (D14.kt (D13.dn 6 rfl rfl) rfl) rfl))) (gT (Ty.grd (((decide ((mkE ra rb) = (gensMay ((((List.length ra) : Nat) : Int)) ([ra, rb])))) && (decide ((mkE ra rb) = (gensMay ((((List.length ra) : Nat) : Int)) ([ra, rb]))))) = true) (Ty.nat (List.length ([] : List (List Int))))) rfl (by intro A B G H I d0 d1; refine run_guard H rfl rfl (by decide) (ed d1 rfl rfl rfl) (fun hg => ?_); obtain ⟨d17, d18⟩ := Bool.and_eq_true_iff.mp hg; have d17 := of_decide_eq_true d17; have d18 := of_decide_eq_true d18; exact y_len Try.underlying24 ((ed d0 rfl rfl rfl).1 hg)) ?_)))))))))))
   refine gT (Ty.grd (((decide ((mkE ra rb) = (gensMay ((((List.length ra) : Nat) : Int)) ([ra, rb])))) && (decide ((mkE ra rb) = (gensMay ((((List.length ra) : Nat) : Int)) ([ra, rb]))))) = true) (Ty.bool (decide ((((List.length ([] : List (List Int))) : Nat) : Int) = (0 : Int))))) rfl (by intro A B G H I d0 d1; refine run_guard H rfl rfl (by decide) (ed d1 rfl rfl rfl) (fun hg => ?_); obtain ⟨d19, d20⟩ := Bool.and_eq_true_iff.mp hg; have d19 := of_decide_eq_true d19; have d20 := of_decide_eq_true d20; exact y_eql ((ed d0 rfl rfl rfl).1 hg) rfl) (gS rfl (fun A B G H I d0 d1 => rP (y_pick_and (ed d0 rfl rfl rfl) (ed d1 rfl rfl rfl) rfl)) (gS rfl (fun A B G H I d0 d1 => rP (y_move (ed d0 rfl rfl rfl))) (gT (Ty.grd ((((decide ((mkE ra rb) = (gensMay ((((List.length ra) : Nat) : Int)) ([ra, rb])))) && (decide ((mkE ra rb) = (gensMay ((((List.length ra) : Nat) : Int)) ([ra, rb]))))) && (decide ((((List.length ([] : List (List Int))) : Nat) : Int) = (0 : Int)))) = true) (Ty.int (0 : Int))) rfl (by intro A B G H I d0; refine run_guard H rfl rfl (by decide) (ed d0 rfl rfl rfl) (fun hg => ?_); obtain ⟨d21, d22⟩ := Bool.and_eq_true_iff.mp hg; obtain ⟨d23, d24⟩ := Bool.and_eq_true_iff.mp d21; have d23 := of_decide_eq_true d23; have d24 := of_decide_eq_true d24; have d22 := of_decide_eq_true d22; exact y_move (kp (I 12 rfl) G (D15.kt (D14.dn 7 rfl rfl) rfl))) ?_)))
   refine gT (Ty.grd ((((decide ((mkE ra rb) = (gensMay ((((List.length ra) : Nat) : Int)) ([ra, rb])))) && (decide ((mkE ra rb) = (gensMay ((((List.length ra) : Nat) : Int)) ([ra, rb]))))) && (decide ((((List.length ([] : List (List Int))) : Nat) : Int) = (0 : Int)))) = true) (Ty.bool true)) rfl (by intro A B G H I d0 d1; refine run_guard H rfl rfl (by decide) (ed d1 rfl rfl rfl) (fun hg => ?_); obtain ⟨d25, d26⟩ := Bool.and_eq_true_iff.mp hg; obtain ⟨d27, d28⟩ := Bool.and_eq_true_iff.mp d25; have d27 := of_decide_eq_true d27; have d28 := of_decide_eq_true d28; have d26 := of_decide_eq_true d26; exact (y_eql ((ed d0 rfl rfl rfl).1 hg) rfl).mono (fun τ _ h => cvb (σ := τ) (by decide) h)) (gS rfl (fun A B G H I d0 d1 => rP (y_pick_and (ed d0 rfl rfl rfl) (ed d1 rfl rfl rfl) rfl)) (gB 0 (gE ok15 fun a16 s16 ok16 D16 => ?_))); refine tn (wp_ret (tr ?_))
   exact retL1 rfl ok16 ((((F4.step0 D13.stp).step0 D14.stp).step0 D15.stp).step0 D16.stp) (cvb (by (rw [hmg]; simp)) (D16.dn 17 rfl rfl))
  ·
   exfalso
   exact c5 c1


end Go.Proofs.Ytkjifbgofckfeaa
