/- The functions that the law ExtentSays reaches, each by its contract. Part 7. -/
import Derived.Test.YtkjifbgofckfeaaExtentSaysW6
namespace Go.Proofs.Ytkjifbgofckfeaa
open Go.KL

set_option maxHeartbeats 4000000 in
set_option maxRecDepth 100000 in
theorem rQsets_fn (n : Nat) (gens : List (List Int)) (E : List (List Int)) (x : List Int) (y : List Int) (σ : GW) (hlow : Low [] σ) (v0 v1 v2 : Value) (hv0 : Ty.has (Ty.lst Ty.ints E) σ v0) (hv1 : Ty.has (Ty.lst Ty.int x) σ v1) (hv2 : Ty.has (Ty.lst Ty.int y) σ v2)  (hn : 1 ≤ n ∧ n ≤ 12) (hG : ∀ x ∈ gens, RowN n x) (hEO : EltsOk n gens E) (hx : Cl n (fun y => y ∈ gens) x) (hy : Cl n (fun y => y ∈ gens) y) (hE : E.length ≤ 5040) :
    FnL Try.prog 28 #[v0, v1, v2] σ [] (fun v τ => ∃ (Q : (List (List Int))), (Ty.has (Ty.lst Ty.ints Q) τ v) ∧ (QsP (qN E x y) E.length Q)) := by
 have hyro := (hy.row hn hG).row
 have hrE := hEO.rows hn hG
 have hxr := hx.row hn hG
 have hyr := hy.row hn hG
 have hyu := hyr.undo
 have hqp := hEO.qPerm hn hG hx hy
 have hxl := hxr.len
 have hyl := hyr.len
 have hyul := hyu.len
 refine fn_introL hlow Try.func28 rfl Try.ntmps28 (Nat.le_of_ble_eq_true rfl) (fun a0 F0 ok0 hargs => ?_)
 have p0 := pB (hargs 0 _ rfl) hv0
 have b1 := sl_le p0
 have p1 := pB (hargs 1 _ rfl) hv1
 have b2 := sl_le p1
 have p2 := pB (hargs 2 _ rfl) hv2
 have b3 := sl_le p2
 clear hargs; refine wp_seq ?_
 refine gI a0 σ ok0 (gC (Ty.val (Value.slice none 0 0)) (gE ok0 fun a1 s1 ok1 D1 => ?_)); have q1 := D1.kt p0 rfl; refine tn (wp_seq ?_)
 refine gI a1 s1 ok1 (gM q1 (gS rfl (fun A B G H I d0 => rP (y_len Try.underlying24 (ed d0 rfl rfl rfl))) (gR (Pr.own 5 3 1 (List.length E) (List.map Ty.int (List.replicate (List.length E) 0))) rfl (by intro A B G H I d0 d1; have e1 := ed d0 rfl rfl rfl; exact rP ((y_make (k := 5) (T := Ty.int 0) (n := (List.length E)) Try.underlying22 Try.inf3 rfl (fun _ => rfl) e1 e1 (by omega) (by omega)).mono (fun _ _ h => cvo (by simp) (by simp) h))) (gE2 ok1 fun a2 s2 ok2 D2 => ?_))))
 obtain ⟨x1, hx1⟩ : ∃ x, a2.eval (.tmp 23) = x := ⟨_, rfl⟩
 have q7 : At (Ty.val x1) s2 a2 (.tmp 23) := hx1
 have o1 := al2 (R := (Pr.own 5 3 1 (List.length E) (List.map Ty.int (List.replicate (List.length E) 0)))) hx1 (D2.done 2 (by decide))
 refine tL ok2 (Yld.toL (y_as q7)) fun a3 s3 hs1 ok3 r1 sm1 => ?_
 have F3 := ((F0.step0 D1.stp).step0 D2.stp).stepL hs1 (by decide); have q8 := kpL hs1 (by decide) (sm1 0 (by decide)) (D2.kt q1 rfl); have q9 := kpL hs1 (by decide) (sm1 1 (by decide)) (D2.kt (D1.kt p1 rfl) rfl); have q10 := kpL hs1 (by decide) (sm1 2 (by decide)) (D2.kt (D1.kt p2 rfl) rfl); have o2 := Own.keepL o1 hs1 (by decide) (by decide)
 have q11 : At (Ty.val x1) s3 a3 (.tmp 7) := r1
 clear r1; refine wpList_nil (tn (wp_seq ?_))
 refine gI a3 s3 ok3 (gR (Pr.ownm Ty.int kI 6 (fun _ => none : Int → Option Int)) rfl (by intro A B G H I; exact rP (y_makemap 6)) (gE2 ok3 fun a4 s4 ok4 D3 => ?_)); have o3 := Own.k0 o2 D3.stp
 obtain ⟨x2, hx2⟩ : ∃ x, a4.eval (.tmp 24) = x := ⟨_, rfl⟩
 have q16 : At (Ty.val x2) s4 a4 (.tmp 24) := hx2
 have o4 := al2 (R := (Pr.ownm Ty.int kI 6 (fun _ => none : Int → Option Int))) hx2 (D3.done 0 (by decide))
 refine tL ok4 (Yld.toL (y_as q16)) fun a5 s5 hs2 ok5 r2 sm2 => ?_
 have F5 := (F3.step0 D3.stp).stepL hs2 (by decide); have q17 := kpL hs2 (by decide) (sm2 0 (by decide)) (D3.kt q8 rfl); have q18 := kpL hs2 (by decide) (sm2 1 (by decide)) (D3.kt q9 rfl); have q19 := kpL hs2 (by decide) (sm2 2 (by decide)) (D3.kt q10 rfl); have q20 := kpL hs2 (by decide) (sm2 7 (by decide)) (D3.kt q11 rfl); have o5 := Own.keepL o3 hs2 (by decide) (by decide); have o6 := OwnM.keepL o4 hs2 (by decide) (by decide)
 have q21 : At (Ty.val x2) s5 a5 (.tmp 8) := r2
 clear r2; refine wpList_nil (tn (wp_seq (wp_seq ?_)))
 refine gI a5 s5 ok5 (gC (Ty.int (0 : Int)) (gE ok5 fun a6 s6 ok6 D4 => ?_)); have o7 := Own.k0 o5 D4.stp; have o8 := OwnM.k0 o6 D4.stp; refine tn (wp_block ?_)
 refine loop (fun n1 a7 w1 => ∃ (t1 : GW) (a : Nat) (x7_0 : Value), t1.w = w1 ∧ FromL [] σ t1 ∧ Ok 134 [] a7 ∧ At (Ty.nat a) t1 a7 (.tmp 9) ∧ At (Ty.val x7_0) t1 a7 (.tmp 7) ∧ At (Ty.lst Ty.ints E) t1 a7 (.tmp 0) ∧ At (Ty.lst Ty.int x) t1 a7 (.tmp 1) ∧ At (Ty.lst Ty.int y) t1 a7 (.tmp 2) ∧ At (Ty.val x2) t1 a7 (.tmp 8) ∧ Own t1 5 3 1 x7_0 (List.length (ofS E.length a)) (List.map Ty.int (ofS E.length a)) ∧ OwnM Ty.int kI t1 6 x2 (plF E a) ∧ (a ≤ E.length) ∧ n1 = E.length - a) (E.length - (0)) ?_ ?_
 ·
  exact ⟨s6, 0, x1, rfl, (F5.step0 D4.stp), ok6, (cvi (by (first | rfl | omega | (simp_all; done) | (simp_all; omega))) (D4.dn 0 rfl rfl)), (D4.kt q20 rfl), (D4.kt q17 rfl), (D4.kt q18 rfl), (D4.kt q19 rfl), (D4.kt q21 rfl), (cvo (by (first | (rw [ofS_zero]; done) | simp [ofS])) (by (first | (rw [ofS_zero]; done) | simp [ofS])) o7), (cvm (by (rfl)) o8), by omega, rfl⟩
 ·
  rintro n2 a8 w2 ⟨t2, a, x7_0, rfl, F7, ok7, q28, q29, q30, q31, q32, q33, o9, o10, ha, rfl⟩
  have hofl := ofS_len (N := E.length) (k := a)
  refine wp_seq (wp_seq ?_)
  refine gI a8 t2 ok7 (gM q28 (gM q30 (gS rfl (fun A B G H I d0 => rP (y_len Try.underlying24 (ed d0 rfl rfl rfl))) (gS rfl (fun A B G H I d0 d1 => rP (y_lss (ed d0 rfl rfl rfl) (ed d1 rfl rfl rfl))) (gE ok7 fun a9 s7 ok8 D5 => ?_))))); have F8 := F7.step0 D5.stp; have q34 := D5.kt q28 rfl; have q35 := D5.kt q29 rfl; have q36 := D5.kt q30 rfl; have q37 := D5.kt q31 rfl; have q38 := D5.kt q32 rfl; have q39 := D5.kt q33 rfl; have o11 := Own.k0 o9 D5.stp; have o12 := OwnM.k0 o10 D5.stp; refine tn ?_
  refine cond_p (p := (((a : Nat) : Int) < (((List.length E) : Nat) : Int))) (D5.dn 3 rfl rfl) (fun c1 => ?_) (fun c1 => ?_)
  ·
   have her := hrE _ (mem_atD [] (show a < E.length by omega)); have hea := her.row
   refine wp_skip (tn (wp_seq (wp_block (wp_seq ?_))))
   refine gI a9 s7 ok8 (gM q35 (gM q34 (gM q34 (gT (Ty.val (cellPtr x7_0 a)) rfl (fun A B G H I d0 d1 d2 d3 d4 => rP (own_index1 (i := ((a : Nat) : Int)) Try.underlying22 Try.inf3 (Own.k0 o11 G) (ed d0 rfl rfl rfl) (ed d1 rfl rfl rfl) (by omega) (by omega))) (gE2 ok8 fun a10 s8 ok9 D6 => ?_))))); have o13 := Own.k0 o11 D6.stp; have o14 := OwnM.k0 o12 D6.stp
   refine tailL0 (L := [5]) (R := (fun _ τ => Own τ 5 3 1 x7_0 (List.length (ofS E.length a)) ((List.map Ty.int (ofS E.length a)).set a (Ty.nat a)))) rfl rfl (YldM.toL (m_store Try.inf3 (by decide) o13 (D6.dn 3 (by decide) rfl rfl) (by simp only [List.length_map, List.length_set]; omega) (D6.dn 2 (by decide) rfl rfl) (one_val rfl))) (fun v1 s9 hs3 r3 => ?_)
   have F10 := (F8.step0 D6.stp).stepL hs3 (by decide); have q49 := kpL hs3 (by decide) rfl (D6.kt q34 rfl); have q50 := kpL hs3 (by decide) rfl (D6.kt q35 rfl); have q51 := kpL hs3 (by decide) rfl (D6.kt q36 rfl); have q52 := kpL hs3 (by decide) rfl (D6.kt q37 rfl); have q53 := kpL hs3 (by decide) rfl (D6.kt q38 rfl); have q54 := kpL hs3 (by decide) rfl (D6.kt q39 rfl); have o16 := OwnM.keepL o14 hs3 (by decide) (by decide)
   have o15 : Own s9 5 3 1 x7_0 (List.length ((ofS E.length a).set a ((a : Nat) : Int))) (List.map Ty.int ((ofS E.length a).set a ((a : Nat) : Int))) := (cvo (by simp) (by first | (simp; done) | (rw [List.map_set]; done) | (rw [List.map_set]; rfl)) r3)
   clear r3; refine wpList_nil (tn ?_)
   refine gI a10 s9 ok9 (gM q54 (gM q51 (gM q49 (gT (Ty.ref [(Ty.lst Ty.int (E.getD a []))]) rfl (fun A B G H I d0 d1 => rP (y_index1 Try.underlying24 Try.inf22 (ed d0 rfl rfl rfl) (ed d1 rfl rfl rfl) (by omega) (lst_get Ty.ints E [] a (by omega)))) (gS rfl (fun A B G H I d0 => rP (y_load Try.underlying22 rfl (ed d0 rfl rfl rfl) rfl)) (gS rfl (fun A B G H I d0 => rP (y_call _ Try.func21 rfl rfl my1 (rRank_fn ((E.getD a [])) _ _ (ed d0 rfl rfl rfl) (by first | omega | assumption)))) (gM q49 (gE2 ok9 fun a11 s10 ok10 D7 => ?_)))))))); have o17 := OwnM.k0 o16 D7.stp; have o18 := Own.k0 o15 D7.stp
   have q62 : At (Ty.val x2) s10 a11 (.tmp 35) := D7.done 0 (by decide)
   refine tailL0 (L := [6]) (R := (fun _ τ => OwnM Ty.int kI τ 6 x2 (fun x_ => if x_ = (((rankL ((E.getD a []))) : Nat) : Int) then some ((a : Nat) : Int) else (plF E a) x_))) rfl rfl (YldM.toL (m_mapset (i := (((rankL ((E.getD a []))) : Nat) : Int)) Try.underlying100 (keyInt Try.underlying3) (by decide) o17 q62 (D7.dn 5 (by decide) rfl rfl) (D7.dn 6 (by decide) rfl rfl))) (fun v2 s11 hs4 r4 => ?_)
   have F12 := (F10.step0 D7.stp).stepL hs4 (by decide); have q65 := kpL hs4 (by decide) rfl (D7.kt q49 rfl); have q66 := kpL hs4 (by decide) rfl (D7.kt q50 rfl); have q67 := kpL hs4 (by decide) rfl (D7.kt q51 rfl); have q68 := kpL hs4 (by decide) rfl (D7.kt q52 rfl); have q69 := kpL hs4 (by decide) rfl (D7.kt q53 rfl); have q70 := kpL hs4 (by decide) rfl (D7.kt q54 rfl); have o20 := Own.keepL o18 hs4 (by decide) (by decide)
   have o19 : OwnM Ty.int kI s11 6 x2 (fun x_ => if x_ = (((rankL ((E.getD a []))) : Nat) : Int) then some ((a : Nat) : Int) else (plF E a) x_) := r4
   clear r4; refine wpList_nil (bn (tn ?_))
   refine gI a11 s11 ok10 (gM q65 (gT (Ty.nat (a + 1)) rfl (fun A B G H I d0 => rP ((y_add (ed d0 rfl rfl rfl) rfl (w64 (by omega) (by omega))).mono (fun τ _ h => cvi (σ := τ) (by first | omega | exact (Int.natCast_mul _ _).symm) h))) (gB 0 (gE ok10 fun a12 s12 ok11 D8 => ?_)))); have o21 := Own.k0 o20 D8.stp; have o22 := OwnM.k0 o19 D8.stp
   exact tn ⟨E.length - ((a+1)), by omega, s12, (a+1), x7_0, rfl, (F12.step0 D8.stp), ok11, (cvi (by (first | rfl | omega | (simp_all; done) | (simp_all; omega))) (D8.dn 2 rfl rfl)), (D8.kt q66 rfl), (D8.kt q67 rfl), (D8.kt q68 rfl), (D8.kt q69 rfl), (D8.kt q70 rfl), (cvo (by (first | (rw [ofS_set (by omega)]; done) | (simp [ofS]; done))) (by (first | (rw [ofS_set (by omega)]; done) | (simp [ofS]; done))) o21), (cvm (by (rfl)) o22), by omega, rfl⟩
  ·
   have ea : a = E.length := (by omega)
   refine wp_exit (tx (tx (bx (tn (wp_seq ?_)))))
   refine gI a9 s7 ok8 (gM q38 (gS rfl (fun A B G H I d0 => rP (y_call _ Try.func23 rfl rfl my1 (rUndo_fn (y) _ _ (ed d0 rfl rfl rfl) (by assumption)))) (gB 0 (gE ok8 fun a13 s13 ok12 D9 => ?_)))); have o23 := Own.k0 o11 D9.stp; have o24 := OwnM.k0 o12 D9.stp; refine tn (wp_seq (wp_seq ?_))
   refine gI a13 s13 ok12 (gC (Ty.int (0 : Int)) (gE ok12 fun a14 s14 ok13 D10 => ?_)); have o25 := Own.k0 o23 D10.stp; have o26 := OwnM.k0 o24 D10.stp; refine tn (wp_block ?_)
   refine loop (fun n3 a15 w3 => ∃ (t3 : GW) (i : Nat) (l : (List Int)) (x7_1 : Value), t3.w = w3 ∧ FromL [] σ t3 ∧ Ok 134 [] a15 ∧ At (Ty.nat i) t3 a15 (.tmp 11) ∧ At (Ty.val x7_1) t3 a15 (.tmp 7) ∧ At (Ty.lst Ty.ints E) t3 a15 (.tmp 0) ∧ At (Ty.lst Ty.int x) t3 a15 (.tmp 1) ∧ At (Ty.val x2) t3 a15 (.tmp 8) ∧ At (Ty.lst Ty.int (undoL (y))) t3 a15 (.tmp 10) ∧ Own t3 5 3 1 x7_1 (List.length l) (List.map Ty.int l) ∧ OwnM Ty.int kI t3 6 x2 (plF E a) ∧ (i ≤ E.length) ∧ (JnI (qN E x y) E.length l i) ∧ n3 = E.length - i) (E.length - (0)) ?_ ?_
   ·
    exact ⟨s14, 0, (ofS E.length a), x7_0, rfl, ((F8.step0 D9.stp).step0 D10.stp), ok13, (cvi (by (first | rfl | omega | (simp_all; done) | (simp_all; omega))) (D10.dn 0 rfl rfl)), (D10.kt (D9.kt q35 rfl) rfl), (D10.kt (D9.kt q36 rfl) rfl), (D10.kt (D9.kt q37 rfl) rfl), (D10.kt (D9.kt q39 rfl) rfl), (D10.kt (D9.dn 2 rfl rfl) rfl), (cvo (by (simp)) (by (simp)) o25), o26, by omega, by rw [ea, ofS_all]; exact JnI.start, rfl⟩
   ·
    rintro n4 a16 w4 ⟨t4, i, l, x7_1, rfl, F16, ok14, q89, q90, q91, q92, q93, q94, o27, o28, hi, hJ, rfl⟩
    have hll := hJ.len
    refine wp_seq (wp_seq ?_)
    refine gI a16 t4 ok14 (gM q89 (gM q91 (gS rfl (fun A B G H I d0 => rP (y_len Try.underlying24 (ed d0 rfl rfl rfl))) (gS rfl (fun A B G H I d0 d1 => rP (y_lss (ed d0 rfl rfl rfl) (ed d1 rfl rfl rfl))) (gE ok14 fun a17 s15 ok15 D11 => ?_))))); have F17 := F16.step0 D11.stp; have q95 := D11.kt q89 rfl; have q96 := D11.kt q90 rfl; have q97 := D11.kt q91 rfl; have q98 := D11.kt q92 rfl; have q99 := D11.kt q93 rfl; have q100 := D11.kt q94 rfl; have o29 := Own.k0 o27 D11.stp; have o30 := OwnM.k0 o28 D11.stp; refine tn ?_
    refine cond_p (p := (((i : Nat) : Int) < (((List.length E) : Nat) : Int))) (D11.dn 3 rfl rfl) (fun c2 => ?_) (fun c2 => ?_)
    ·
     have her := hrE _ (mem_atD [] (show i < E.length by omega)); have hb1 := hxr.bds her.len; have hexr := her.by hxr; have hb2 := hyu.bds hexr.len; have hrr := (hexr.by hyu).row; obtain ⟨hq1, hq2, _⟩ := hEO.q hn hG hx hy (show i < E.length by omega)
     refine wp_skip (tn (wp_seq (wp_block (wp_seq ?_))))
     refine gI a17 s15 ok15 (gM q99 (gM q97 (gM q95 (gT (Ty.ref [(Ty.lst Ty.int (E.getD i []))]) rfl (fun A B G H I d0 d1 => rP (y_index1 Try.underlying24 Try.inf22 (ed d0 rfl rfl rfl) (ed d1 rfl rfl rfl) (by omega) (lst_get Ty.ints E [] i (by omega)))) (gS rfl (fun A B G H I d0 => rP (y_load Try.underlying22 rfl (ed d0 rfl rfl rfl) rfl)) (gM q98 (gS rfl (fun A B G H I d0 d1 => rP (y_call _ Try.func22 rfl rfl my2 (rBy_fn ((E.getD i [])) (x) _ _ _ (ed d0 rfl rfl rfl) (ed d1 rfl rfl rfl) (by first | assumption | omega) (by first | assumption | omega)))) (gM q100 (gS rfl (fun A B G H I d0 d1 d2 => rP (y_call _ Try.func22 rfl rfl my2 (rBy_fn ((byL ((E.getD i [])) (x))) ((undoL (y))) _ _ _ (ed d0 rfl rfl rfl) (ed d1 rfl rfl rfl) (by first | assumption | omega) (by first | assumption | omega)))) (gS rfl (fun A B G H I d0 d1 => rP (y_call _ Try.func21 rfl rfl my1 (rRank_fn ((byL ((byL ((E.getD i [])) (x))) ((undoL (y))))) _ _ (ed d0 rfl rfl rfl) (by first | omega | assumption)))) (gT (Ty.int (((plF E a) (((rankL ((byL ((byL ((E.getD i [])) (x))) ((undoL (y)))))) : Nat) : Int)).getD 0)) rfl (fun A B G H I d0 d1 => rP (y_lookup (i := (((rankL ((byL ((byL ((E.getD i [])) (x))) ((undoL (y)))))) : Nat) : Int)) (z := 0) Try.underlying100 (keyInt Try.underlying3) Try.inf3 (fun _ => rfl) (OwnM.k0 o30 G) (ed d0 rfl rfl rfl) (ed d1 rfl rfl rfl))) (gB 0 (gE ok15 fun a18 s16 ok16 D12 => ?_))))))))))))); have q102 := D12.kt q95 rfl; have q103 := D12.kt q96 rfl; have o31 := Own.k0 o29 D12.stp; have o32 := OwnM.k0 o30 D12.stp
     have q109 : At (Ty.nat (qN E x y i)) s16 a18 (.tmp 12) := (cvi (by (rw [ea]; exact hq2)) (D12.dn 11 rfl rfl))
     refine tn (wp_seq (wp_seq ?_))
     refine gI a18 s16 ok16 (gM q103 (gM q109 (gT (Ty.val (cellPtr x7_1 (qN E x y i))) rfl (fun A B G H I d0 d1 => rP (own_index1 (i := (((qN E x y i) : Nat) : Int)) Try.underlying22 Try.inf3 (Own.k0 o31 G) (ed d0 rfl rfl rfl) (ed d1 rfl rfl rfl) (by omega) (by omega))) (gS rfl (fun A B G H I d0 => rP (own_load Try.underlying3 rfl (Own.k0 o31 G) (ed d0 rfl rfl rfl) (lst_get Ty.int l 0 (qN E x y i) (by omega)))) (gM q103 (gM q102 (gT (Ty.val (cellPtr x7_1 i)) rfl (fun A B G H I d0 d1 => rP (own_index1 (i := ((i : Nat) : Int)) Try.underlying22 Try.inf3 (Own.k0 o31 G) (ed d0 rfl rfl rfl) (ed d1 rfl rfl rfl) (by omega) (by omega))) (gS rfl (fun A B G H I d0 => rP (own_load Try.underlying3 rfl (Own.k0 o31 G) (ed d0 rfl rfl rfl) (lst_get Ty.int l 0 i (by omega)))) (gS rfl (fun A B G H I d0 d1 => rP (y_eql (ed d0 rfl rfl rfl) (ed d1 rfl rfl rfl))) (gE ok16 fun a19 s17 ok17 D13 => ?_)))))))))); have F19 := (F17.step0 D12.stp).step0 D13.stp; have q110 := D13.kt q102 rfl; have q111 := D13.kt q103 rfl; have q112 := D13.kt (D12.kt q97 rfl) rfl; have q113 := D13.kt (D12.kt q98 rfl) rfl; have q114 := D13.kt (D12.kt q99 rfl) rfl; have q115 := D13.kt (D12.kt q100 rfl) rfl; have o33 := Own.k0 o31 D13.stp; have o34 := OwnM.k0 o32 D13.stp; refine tn ?_
     refine cond_p (p := ((l.getD (qN E x y i) 0) = (l.getD i 0))) (D13.dn 8 rfl rfl) (fun c3 => ?_) (fun c3 => ?_)
     ·
      refine wp_exit (tx (bx (tn ?_)))
      refine gI a19 s17 ok17 (gM q110 (gT (Ty.nat (i + 1)) rfl (fun A B G H I d0 => rP ((y_add (ed d0 rfl rfl rfl) rfl (w64 (by omega) (by omega))).mono (fun τ _ h => cvi (σ := τ) (by first | omega | exact (Int.natCast_mul _ _).symm) h))) (gB 0 (gE ok17 fun a20 s18 ok18 D14 => ?_)))); have o35 := Own.k0 o33 D14.stp; have o36 := OwnM.k0 o34 D14.stp
      exact tn ⟨E.length - ((i+1)), by omega, s18, (i+1), l, x7_1, rfl, (F19.step0 D14.stp), ok18, (cvi (by (first | rfl | omega | (simp_all; done) | (simp_all; omega))) (D14.dn 2 rfl rfl)), (D14.kt q111 rfl), (D14.kt q112 rfl), (D14.kt q113 rfl), (D14.kt q114 rfl), (D14.kt q115 rfl), o35, o36, by omega, hJ.same (by first | exact c3 | exact of_decide_eq_true c3), rfl⟩
     ·
      refine wp_skip (tn (wp_seq ?_))
      refine gI a19 s17 ok17 (gM q111 (gM q110 (gT (Ty.val (cellPtr x7_1 i)) rfl (fun A B G H I d0 d1 => rP (own_index1 (i := ((i : Nat) : Int)) Try.underlying22 Try.inf3 (Own.k0 o33 G) (ed d0 rfl rfl rfl) (ed d1 rfl rfl rfl) (by omega) (by omega))) (gS rfl (fun A B G H I d0 => rP (own_load Try.underlying3 rfl (Own.k0 o33 G) (ed d0 rfl rfl rfl) (lst_get Ty.int l 0 i (by omega)))) (gB 0 (gE ok17 fun a21 s19 ok19 D15 => ?_)))))); have q125 := D15.kt q111 rfl; have o37 := Own.k0 o33 D15.stp; have o38 := OwnM.k0 o34 D15.stp; refine tn (wp_seq ?_)
      refine gI a21 s19 ok19 (gM q125 (gM (D15.kt (D13.kt q109 rfl) rfl) (gT (Ty.val (cellPtr x7_1 (qN E x y i))) rfl (fun A B G H I d0 d1 => rP (own_index1 (i := (((qN E x y i) : Nat) : Int)) Try.underlying22 Try.inf3 (Own.k0 o37 G) (ed d0 rfl rfl rfl) (ed d1 rfl rfl rfl) (by omega) (by omega))) (gS rfl (fun A B G H I d0 => rP (own_load Try.underlying3 rfl (Own.k0 o37 G) (ed d0 rfl rfl rfl) (lst_get Ty.int l 0 (qN E x y i) (by omega)))) (gB 0 (gE ok19 fun a22 s20 ok20 D16 => ?_)))))); have o39 := Own.k0 o37 D16.stp; have o40 := OwnM.k0 o38 D16.stp; refine tn (wp_seq ?_)
      refine gI a22 s20 ok20 (gC (Ty.int (0 : Int)) (gE ok20 fun a23 s21 ok21 D17 => ?_)); have o41 := Own.k0 o39 D17.stp; have o42 := OwnM.k0 o40 D17.stp; refine tn (wp_block ?_)
      refine loop (fun n5 a24 w5 => ∃ (t5 : GW) (j : Nat) (x7_2 : Value), t5.w = w5 ∧ FromL [] σ t5 ∧ Ok 134 [] a24 ∧ At (Ty.nat j) t5 a24 (.tmp 15) ∧ At (Ty.val x7_2) t5 a24 (.tmp 7) ∧ At (Ty.nat i) t5 a24 (.tmp 11) ∧ At (Ty.lst Ty.ints E) t5 a24 (.tmp 0) ∧ At (Ty.lst Ty.int x) t5 a24 (.tmp 1) ∧ At (Ty.val x2) t5 a24 (.tmp 8) ∧ At (Ty.lst Ty.int (undoL (y))) t5 a24 (.tmp 10) ∧ At (Ty.int (l.getD i 0)) t5 a24 (.tmp 13) ∧ At (Ty.int (l.getD (qN E x y i) 0)) t5 a24 (.tmp 14) ∧ Own t5 5 3 1 x7_2 (List.length (relL l (l.getD i 0) (l.getD (qN E x y i) 0) j)) (List.map Ty.int (relL l (l.getD i 0) (l.getD (qN E x y i) 0) j)) ∧ OwnM Ty.int kI t5 6 x2 (plF E a) ∧ (j ≤ l.length) ∧ n5 = l.length - j) (l.length - (0)) ?_ ?_
      ·
       exact ⟨s21, 0, x7_1, rfl, (((F19.step0 D15.stp).step0 D16.stp).step0 D17.stp), ok21, (cvi (by (first | rfl | omega | (simp_all; done) | (simp_all; omega))) (D17.dn 0 rfl rfl)), (D17.kt (D16.kt q125 rfl) rfl), (D17.kt (D16.kt (D15.kt q110 rfl) rfl) rfl), (D17.kt (D16.kt (D15.kt q112 rfl) rfl) rfl), (D17.kt (D16.kt (D15.kt q113 rfl) rfl) rfl), (D17.kt (D16.kt (D15.kt q114 rfl) rfl) rfl), (D17.kt (D16.kt (D15.kt q115 rfl) rfl) rfl), (D17.kt (D16.kt (D15.dn 4 rfl rfl) rfl) rfl), (D17.kt (D16.dn 4 rfl rfl) rfl), (cvo (by (first | (rw [relL_zero]; done) | simp [relL_zero])) (by (first | (rw [relL_zero]; done) | simp [relL_zero])) o41), o42, by omega, rfl⟩
      ·
       rintro n6 a25 w6 ⟨t6, j, x7_2, rfl, F24, ok22, q149, q150, q151, q152, q153, q154, q155, q156, q157, o43, o44, hj, rfl⟩
       have hrl := relL_len (l := l) (a := l.getD i 0) (b := l.getD (qN E x y i) 0) (j := j)
       refine wp_seq (wp_seq ?_)
       refine gI a25 t6 ok22 (gM q149 (gM q150 (gT (Ty.nat (List.length (relL l (l.getD i 0) (l.getD (qN E x y i) 0) j))) rfl (fun A B G H I d0 => rP (own_len Try.underlying22 (al (R := (Pr.own 5 3 1 (List.length (relL l (l.getD i 0) (l.getD (qN E x y i) 0) j)) (List.map Ty.int (relL l (l.getD i 0) (l.getD (qN E x y i) 0) j)))) (ed d0 rfl rfl rfl) (Own.k0 o43 G)))) (gS rfl (fun A B G H I d0 d1 => rP (y_lss (ed d0 rfl rfl rfl) (ed d1 rfl rfl rfl))) (gE ok22 fun a26 s22 ok23 D18 => ?_))))); have F25 := F24.step0 D18.stp; have q158 := D18.kt q149 rfl; have q159 := D18.kt q150 rfl; have q160 := D18.kt q151 rfl; have q161 := D18.kt q152 rfl; have q162 := D18.kt q153 rfl; have q163 := D18.kt q154 rfl; have q164 := D18.kt q155 rfl; have q165 := D18.kt q156 rfl; have o45 := Own.k0 o43 D18.stp; have o46 := OwnM.k0 o44 D18.stp; refine tn ?_
       refine cond_p (p := (((j : Nat) : Int) < (((List.length (relL l (l.getD i 0) (l.getD (qN E x y i) 0) j)) : Nat) : Int))) (D18.dn 3 rfl rfl) (fun c4 => ?_) (fun c4 => ?_)
       ·
        refine wp_skip (tn (wp_seq (wp_block (wp_seq ?_))))
        refine gI a26 s22 ok23 (gM q159 (gM q158 (gT (Ty.val (cellPtr x7_2 j)) rfl (fun A B G H I d0 d1 => rP (own_index1 (i := ((j : Nat) : Int)) Try.underlying22 Try.inf3 (Own.k0 o45 G) (ed d0 rfl rfl rfl) (ed d1 rfl rfl rfl) (by omega) (by omega))) (gS rfl (fun A B G H I d0 => rP (own_load Try.underlying3 rfl (Own.k0 o45 G) (ed d0 rfl rfl rfl) (lst_get Ty.int (relL l (l.getD i 0) (l.getD (qN E x y i) 0) j) 0 j (by omega)))) (gM q165 (gS rfl (fun A B G H I d0 d1 => rP (y_eql (ed d0 rfl rfl rfl) (ed d1 rfl rfl rfl))) (gE ok23 fun a27 s23 ok24 D19 => ?_))))))); have F26 := F25.step0 D19.stp; have q168 := D19.kt q158 rfl; have q169 := D19.kt q159 rfl; have q170 := D19.kt q160 rfl; have q171 := D19.kt q161 rfl; have q172 := D19.kt q162 rfl; have q173 := D19.kt q163 rfl; have q174 := D19.kt q164 rfl; have q175 := D19.kt q165 rfl; have q176 := D19.kt (D18.kt q157 rfl) rfl; have o47 := Own.k0 o45 D19.stp; have o48 := OwnM.k0 o46 D19.stp; refine tn ?_
        refine cond_p (p := (((relL l (l.getD i 0) (l.getD (qN E x y i) 0) j).getD j 0) = (l.getD i 0))) (D19.dn 5 rfl rfl) (fun c5 => ?_) (fun c5 => ?_)
        ·
         have hrj : l.getD j 0 = l.getD i 0 := (by rw [← c5]; exact (relL_here (by omega)).symm)
         refine gI a27 s23 ok24 (gM q169 (gM q168 (gM q176 (gT (Ty.val (cellPtr x7_2 j)) rfl (fun A B G H I d0 d1 d2 d3 d4 => rP (own_index1 (i := ((j : Nat) : Int)) Try.underlying22 Try.inf3 (Own.k0 o47 G) (ed d0 rfl rfl rfl) (ed d1 rfl rfl rfl) (by omega) (by omega))) (gE2 ok24 fun a28 s24 ok25 D20 => ?_))))); have o49 := Own.k0 o47 D20.stp; have o50 := OwnM.k0 o48 D20.stp
         refine tailL0 (L := [5]) (R := (fun _ τ => Own τ 5 3 1 x7_2 (List.length (relL l (l.getD i 0) (l.getD (qN E x y i) 0) j)) ((List.map Ty.int (relL l (l.getD i 0) (l.getD (qN E x y i) 0) j)).set j (Ty.int (l.getD (qN E x y i) 0))))) rfl rfl (YldM.toL (m_store Try.inf3 (by decide) o49 (D20.dn 3 (by decide) rfl rfl) (by simp only [List.length_map, List.length_set]; omega) (D20.dn 2 (by decide) rfl rfl) (one_val rfl))) (fun v3 s25 hs5 r5 => ?_)
         have F28 := (F26.step0 D20.stp).stepL hs5 (by decide); have q189 := kpL hs5 (by decide) rfl (D20.kt q168 rfl); have q190 := kpL hs5 (by decide) rfl (D20.kt q169 rfl); have q191 := kpL hs5 (by decide) rfl (D20.kt q170 rfl); have q192 := kpL hs5 (by decide) rfl (D20.kt q171 rfl); have q193 := kpL hs5 (by decide) rfl (D20.kt q172 rfl); have q194 := kpL hs5 (by decide) rfl (D20.kt q173 rfl); have q195 := kpL hs5 (by decide) rfl (D20.kt q174 rfl); have q196 := kpL hs5 (by decide) rfl (D20.kt q175 rfl); have q197 := kpL hs5 (by decide) rfl (D20.kt q176 rfl); have o52 := OwnM.keepL o50 hs5 (by decide) (by decide)
         have o51 : Own s25 5 3 1 x7_2 (List.length ((relL l (l.getD i 0) (l.getD (qN E x y i) 0) j).set j (l.getD (qN E x y i) 0))) (List.map Ty.int ((relL l (l.getD i 0) (l.getD (qN E x y i) 0) j).set j (l.getD (qN E x y i) 0))) := (cvo (by simp) (by first | (simp; done) | (rw [List.map_set]; done) | (rw [List.map_set]; rfl)) r5)
         clear r5; refine wpList_nil (bn (tn ?_))
         refine gI a28 s25 ok25 (gM q189 (gT (Ty.nat (j + 1)) rfl (fun A B G H I d0 => rP ((y_add (ed d0 rfl rfl rfl) rfl (w64 (by omega) (by omega))).mono (fun τ _ h => cvi (σ := τ) (by first | omega | exact (Int.natCast_mul _ _).symm) h))) (gB 0 (gE ok25 fun a29 s26 ok26 D21 => ?_)))); have o53 := OwnM.k0 o52 D21.stp; have o54 := Own.k0 o51 D21.stp
         exact tn ⟨l.length - ((j+1)), by omega, s26, (j+1), x7_2, rfl, (F28.step0 D21.stp), ok26, (cvi (by (first | rfl | omega | (simp_all; done) | (simp_all; omega))) (D21.dn 2 rfl rfl)), (D21.kt q190 rfl), (D21.kt q191 rfl), (D21.kt q192 rfl), (D21.kt q193 rfl), (D21.kt q194 rfl), (D21.kt q195 rfl), (D21.kt q196 rfl), (D21.kt q197 rfl), (cvo (by (first | (rw [relL_yes (by omega) hrj]; done) | (rw [List.length_set, relL_len, relL_len]; done))) (by (first | (rw [relL_yes (by omega) hrj]; done) | (rw [List.length_set, relL_len, relL_len]; done))) o54), o53, by omega, rfl⟩
        ·
         have hrj : l.getD j 0 ≠ l.getD i 0 := (fun h_ => c5 (by rw [relL_here (by omega)]; exact h_))
         refine wp_skip (bn (tn ?_))
         refine gI a27 s23 ok24 (gM q168 (gT (Ty.nat (j + 1)) rfl (fun A B G H I d0 => rP ((y_add (ed d0 rfl rfl rfl) rfl (w64 (by omega) (by omega))).mono (fun τ _ h => cvi (σ := τ) (by first | omega | exact (Int.natCast_mul _ _).symm) h))) (gB 0 (gE ok24 fun a30 s27 ok27 D22 => ?_)))); have o55 := Own.k0 o47 D22.stp; have o56 := OwnM.k0 o48 D22.stp
         exact tn ⟨l.length - ((j+1)), by omega, s27, (j+1), x7_2, rfl, (F26.step0 D22.stp), ok27, (cvi (by (first | rfl | omega | (simp_all; done) | (simp_all; omega))) (D22.dn 2 rfl rfl)), (D22.kt q169 rfl), (D22.kt q170 rfl), (D22.kt q171 rfl), (D22.kt q172 rfl), (D22.kt q173 rfl), (D22.kt q174 rfl), (D22.kt q175 rfl), (D22.kt q176 rfl), (cvo (by (first | (rw [relL_no (by omega) hrj]; done) | (rw [relL_len, relL_len]; done))) (by (first | (rw [relL_no (by omega) hrj]; done) | (rw [relL_len, relL_len]; done))) o55), o56, by omega, rfl⟩
       ·
        refine wp_exit (tx (tx (bx (bn (tn ?_)))))
        refine gI a26 s22 ok23 (gM q160 (gT (Ty.nat (i + 1)) rfl (fun A B G H I d0 => rP ((y_add (ed d0 rfl rfl rfl) rfl (w64 (by omega) (by omega))).mono (fun τ _ h => cvi (σ := τ) (by first | omega | exact (Int.natCast_mul _ _).symm) h))) (gB 0 (gE ok23 fun a31 s28 ok28 D23 => ?_)))); have o57 := Own.k0 o45 D23.stp; have o58 := OwnM.k0 o46 D23.stp
        exact tn ⟨E.length - ((i+1)), by omega, s28, (i+1), (relL l (l.getD i 0) (l.getD (qN E x y i) 0) l.length), x7_2, rfl, (F25.step0 D23.stp), ok28, (cvi (by (first | rfl | omega | (simp_all; done) | (simp_all; omega))) (D23.dn 2 rfl rfl)), (D23.kt q159 rfl), (D23.kt q161 rfl), (D23.kt q162 rfl), (D23.kt q163 rfl), (D23.kt q164 rfl), (cvo (by (first | (rw [show j = l.length by omega]; done) | (rw [show j = l.length by omega, relL_len]; done))) (by (first | (rw [show j = l.length by omega]; done) | (rw [show j = l.length by omega, relL_len]; done))) o57), o58, by omega, hJ.join hqp (by omega), rfl⟩
    ·
     have ei : i = E.length := (by omega); have hJe : JnI (qN E x y) E.length l E.length := (ei ▸ hJ)
     refine wp_exit (tx (tx (bx (tn (wp_seq ?_)))))
     refine gI a17 s15 ok15 (gC (Ty.val (Value.slice none 0 0)) (gE ok15 fun a32 s29 ok29 D24 => ?_)); have o59 := Own.k0 o29 D24.stp; have o60 := OwnM.k0 o30 D24.stp; refine tn (wp_seq ?_)
     refine gI a32 s29 ok29 (gR (Pr.ownm Ty.int kI 8 (fun _ => none : Int → Option Int)) rfl (by intro A B G H I; exact rP (y_makemap 8)) (gE2 ok29 fun a33 s30 ok30 D25 => ?_)); have o61 := Own.k0 o59 D25.stp
     obtain ⟨x3, hx3⟩ : ∃ x, a33.eval (.tmp 94) = x := ⟨_, rfl⟩
     have q229 : At (Ty.val x3) s30 a33 (.tmp 94) := hx3
     have o62 := al2 (R := (Pr.ownm Ty.int kI 8 (fun _ => none : Int → Option Int))) hx3 (D25.done 0 (by decide))
     refine tL ok30 (Yld.toL (y_as q229)) fun a34 s31 hs6 ok31 r6 sm3 => ?_
     have F34 := ((F17.step0 D24.stp).step0 D25.stp).stepL hs6 (by decide); have q230 := kpL hs6 (by decide) (sm3 7 (by decide)) (D25.kt (D24.kt q96 rfl) rfl); have q231 := kpL hs6 (by decide) (sm3 0 (by decide)) (D25.kt (D24.kt q97 rfl) rfl); have q232 := kpL hs6 (by decide) (sm3 16 (by decide)) (D25.kt (D24.dn 0 rfl rfl) rfl); have o63 := Own.keepL o61 hs6 (by decide) (by decide); have o64 := OwnM.keepL o62 hs6 (by decide) (by decide)
     have q233 : At (Ty.val x3) s31 a34 (.tmp 17) := r6
     clear r6; refine wpList_nil (tn (wp_seq (wp_seq ?_)))
     refine gI a34 s31 ok31 (gC (Ty.int (0 : Int)) (gE ok31 fun a35 s32 ok32 D26 => ?_)); have o65 := Own.k0 o63 D26.stp; have o66 := OwnM.k0 o64 D26.stp
     have o67 : RowsI s32 9 3 ([] : List Value) ([] : List (List Int)) := grid_0I _ _ _ 0
     refine tn (wp_block ?_)
     have o68 : Own s32 7 22 1 (Value.slice none 0 0) 0 (List.map Ty.val ([] : List Value)) := Own.nil _ _ _ _
     refine loop (fun n7 a36 w7 => ∃ (t7 : GW) (e : Nat) (us : (List Value)) (x16_3 : Value), t7.w = w7 ∧ FromL [] σ t7 ∧ Ok 134 [] a36 ∧ At (Ty.nat e) t7 a36 (.tmp 18) ∧ At (Ty.val x16_3) t7 a36 (.tmp 16) ∧ At (Ty.val x7_1) t7 a36 (.tmp 7) ∧ At (Ty.lst Ty.ints E) t7 a36 (.tmp 0) ∧ At (Ty.val x3) t7 a36 (.tmp 17) ∧ Own t7 7 22 1 x16_3 (numF l e).2 (List.map Ty.val us) ∧ OwnM Ty.int kI t7 8 x3 (numF l e).1 ∧ RowsI t7 9 3 us (grpTo (rlab l E.length) (numF l e).2 e) ∧ Own t7 5 3 1 x7_1 (List.length l) (List.map Ty.int l) ∧ (e ≤ E.length) ∧ (us.length = (numF l e).2) ∧ n7 = E.length - e) (E.length - (0)) ?_ ?_
     ·
      exact ⟨s32, 0, ([] : List Value), (Value.slice none 0 0), rfl, (F34.step0 D26.stp), ok32, (cvi (by (first | rfl | omega | (simp_all; done) | (simp_all; omega))) (D26.dn 0 rfl rfl)), (D26.kt q232 rfl), (D26.kt q230 rfl), (D26.kt q231 rfl), (D26.kt q233 rfl), (cvo (by (rfl)) (by (rfl)) o68), (cvm (by (rfl)) o66), (cvgI (by (rfl)) (by (rfl)) o67), o65, by omega, rfl, rfl⟩
     ·
      rintro n8 a37 w8 ⟨t8, e, us, x16_3, rfl, F36, ok33, q239, q240, q241, q242, q243, o69, o70, o71, o72, he, husl, rfl⟩
      have hno := numF_ok (l := l) e
      have hnle := hno.le
      have hgl := grpTo_len (l := rlab l E.length) (m := (numF l e).2) (i := e)
      have hgl1 := grpTo_len (l := rlab l E.length) (m := (numF l e).2 + 1) (i := e)
      have husm : (us ++ [(Value.slice none 0 0)]).length = (numF l e).2 + 1 := (by rw [List.length_append, husl]; rfl)
      refine wp_seq (wp_seq ?_)
      refine gI a37 t8 ok33 (gM q239 (gM q242 (gS rfl (fun A B G H I d0 => rP (y_len Try.underlying24 (ed d0 rfl rfl rfl))) (gS rfl (fun A B G H I d0 d1 => rP (y_lss (ed d0 rfl rfl rfl) (ed d1 rfl rfl rfl))) (gE ok33 fun a38 s33 ok34 D27 => ?_))))); have F37 := F36.step0 D27.stp; have q244 := D27.kt q239 rfl; have q245 := D27.kt q240 rfl; have q246 := D27.kt q241 rfl; have q247 := D27.kt q242 rfl; have q248 := D27.kt q243 rfl; have o73 := Own.k0 o69 D27.stp; have o74 := OwnM.k0 o70 D27.stp; have o75 := RowsI.k0 o71 D27.stp; have o76 := Own.k0 o72 D27.stp; have q249 := D27.dn 3 rfl rfl; refine tn ?_
      refine cond_p (p := (((e : Nat) : Int) < (((List.length E) : Nat) : Int))) q249 (fun c6 => ?_) (fun c6 => ?_)
      ·
       refine wp_skip (tn (wp_seq (wp_block (wp_seq ?_))))
       refine gI a38 s33 ok34 (gM q248 (gM q246 (gM q244 (gT (Ty.val (cellPtr x7_1 e)) rfl (fun A B G H I d0 d1 => rP (own_index1 (i := ((e : Nat) : Int)) Try.underlying22 Try.inf3 (Own.k0 o76 G) (ed d0 rfl rfl rfl) (ed d1 rfl rfl rfl) (by omega) (by omega))) (gS rfl (fun A B G H I d0 => rP (own_load Try.underlying3 rfl (Own.k0 o76 G) (ed d0 rfl rfl rfl) (lst_get Ty.int l 0 e (by omega)))) (gT (Ty.tup2 (Ty.int (((numF l e).1 (l.getD e 0)).getD 0)) (Ty.bool (Option.isSome ((numF l e).1 (l.getD e 0))))) rfl (fun A B G H I d0 d1 => rP (y_lookup2 (i := (l.getD e 0)) (z := 0) Try.underlying100 (keyInt Try.underlying3) Try.inf3 (fun _ => rfl) (OwnM.k0 o74 G) (ed d0 rfl rfl rfl) (ed d1 rfl rfl rfl))) (gS rfl (fun A B G H I d0 => rP (y_move (ed d0 rfl rfl rfl))) (gT (Ty.int (((numF l e).1 (l.getD e 0)).getD 0)) rfl (fun A B G H I d0 => rP (y_ext2_0 (ed d0 rfl rfl rfl))) (gT (Ty.bool (Option.isSome ((numF l e).1 (l.getD e 0)))) rfl (fun A B G H I d0 d1 => rP (y_ext2_1 (ed d0 rfl rfl rfl))) (gB 0 (gB 0 (gE ok34 fun a39 s34 ok35 D28 => ?_)))))))))))); have o77 := Own.k0 o73 D28.stp; have o78 := OwnM.k0 o74 D28.stp; have o79 := RowsI.k0 o75 D28.stp; have o80 := Own.k0 o76 D28.stp; refine tn (wp_seq (wp_seq ?_))
       refine gI a39 s34 ok35 (gM (D28.dn 10 rfl rfl) (gS rfl (fun A B G H I d0 => rP (y_not (ed d0 rfl rfl rfl))) (gE ok35 fun a40 s35 ok36 D29 => ?_))); have F39 := (F37.step0 D28.stp).step0 D29.stp; have q257 := D29.kt (D28.kt q244 rfl) rfl; have q258 := D29.kt (D28.kt q245 rfl) rfl; have q259 := D29.kt (D28.kt q246 rfl) rfl; have q260 := D29.kt (D28.kt q247 rfl) rfl; have q261 := D29.kt (D28.kt q248 rfl) rfl; have o81 := Own.k0 o77 D29.stp; have o82 := OwnM.k0 o78 D29.stp; have o83 := RowsI.k0 o79 D29.stp; have o84 := Own.k0 o80 D29.stp; have q263 := D29.dn 1 rfl rfl; refine tn ?_
       refine cond_t q263 (fun c7 => ?_) (fun c7 => ?_)
       ·
        have hnn : ¬ ((numF l e).1 (l.getD e 0)).isSome = true := (by cases h_ : (numF l e).1 (l.getD e 0) <;> simp_all); have hnl := rl_new (N := E.length) (by omega) hnn; have hgx : ((grpTo (rlab l E.length) ((numF l e).2 + 1) e).getD (numF l e).2 []).length ≤ e := (by rw [grpTo_get (by omega)]; exact idxs_len)
        refine wp_seq ?_
        refine gI a40 s35 ok36 (gM q258 (gT (Ty.nat (numF l e).2) rfl (fun A B G H I d0 => rP (own_len Try.underlying24 (al (R := (Pr.own 7 22 1 (numF l e).2 (List.map Ty.val us))) (ed d0 rfl rfl rfl) (Own.k0 o81 G)))) (gB 0 (gE ok36 fun a41 s36 ok37 D30 => ?_)))); have q264 := D30.kt q257 rfl; have q266 := D30.kt q259 rfl; have q268 := D30.kt q261 rfl; have o85 := Own.k0 o81 D30.stp; have o86 := OwnM.k0 o82 D30.stp; have o87 := RowsI.k0 o83 D30.stp; have o88 := Own.k0 o84 D30.stp; have q269 := D30.dn 2 rfl rfl; refine tn (wp_seq ?_)
        refine gI a41 s36 ok37 (gM q268 (gM q266 (gM q264 (gT (Ty.val (cellPtr x7_1 e)) rfl (fun A B G H I d0 d1 => rP (own_index1 (i := ((e : Nat) : Int)) Try.underlying22 Try.inf3 (Own.k0 o88 G) (ed d0 rfl rfl rfl) (ed d1 rfl rfl rfl) (by omega) (by omega))) (gS rfl (fun A B G H I d0 => rP (own_load Try.underlying3 rfl (Own.k0 o88 G) (ed d0 rfl rfl rfl) (lst_get Ty.int l 0 e (by omega)))) (gM q269 (gE2 ok37 fun a42 s37 ok38 D31 => ?_))))))); have o89 := Own.k0 o85 D31.stp; have o90 := OwnM.k0 o86 D31.stp; have o91 := RowsI.k0 o87 D31.stp; have o92 := Own.k0 o88 D31.stp
        have q276 : At (Ty.val x3) s37 a42 (.tmp 114) := D31.done 0 (by decide)
        refine tailL0 (L := [8]) (R := (fun _ τ => OwnM Ty.int kI τ 8 x3 (fun x_ => if x_ = (l.getD e 0) then some (((numF l e).2 : Nat) : Int) else (numF l e).1 x_))) rfl rfl (YldM.toL (m_mapset (i := (l.getD e 0)) Try.underlying100 (keyInt Try.underlying3) (by decide) o90 q276 (D31.dn 4 (by decide) rfl rfl) (D31.dn 5 (by decide) rfl rfl))) (fun v4 s38 hs7 r7 => ?_)
        have F42 := ((F39.step0 D30.stp).step0 D31.stp).stepL hs7 (by decide); have q279 := kpL hs7 (by decide) rfl (D31.kt q264 rfl); have q280 := kpL hs7 (by decide) rfl (D31.kt (D30.kt q258 rfl) rfl); have q281 := kpL hs7 (by decide) rfl (D31.kt q266 rfl); have q282 := kpL hs7 (by decide) rfl (D31.kt (D30.kt q260 rfl) rfl); have q283 := kpL hs7 (by decide) rfl (D31.kt q268 rfl); have q284 := kpL hs7 (by decide) rfl (D31.kt q269 rfl); have o94 := Own.keepL o89 hs7 (by decide) (by decide); have o95 := RowsI.keepL o91 hs7 (by decide) (by decide); have o96 := Own.keepL o92 hs7 (by decide) (by decide)
        have o93 : OwnM Ty.int kI s38 8 x3 (fun x_ => if x_ = (l.getD e 0) then some (((numF l e).2 : Nat) : Int) else (numF l e).1 x_) := r7
        clear r7; refine wpList_nil (tn ?_)
        refine gI a42 s38 ok38 (gM q280 (gT (Ty.sl 1 1 [(Ty.val (Value.slice none 0 0))]) rfl (fun A B G H I => rP (y_build1o Try.underlying24 Try.inf22 rfl (one_val rfl) rfl)) (gE2 ok38 fun a43 s39 ok39 D32 => ?_))); have o97 := Own.k0 o94 D32.stp; have o98 := RowsI.k0 o95 D32.stp; have o99 := Own.k0 o96 D32.stp; have o100 := OwnM.k0 o93 D32.stp
        have q292 : At (Ty.val x16_3) s39 a43 (.tmp 120) := D32.done 0 (by decide)
        have q293 := D32.dn 1 (by decide) rfl rfl
        have b4 := sl_le q293
        refine tL ok39 (YldM.toL (m_append Try.underlying24 Try.inf22 (by decide) rfl (by decide) (al (R := (Pr.own 7 22 1 (numF l e).2 (List.map Ty.val us))) q292 o97) q293 (by intro U hU; simp at hU; subst hU; exact one_val rfl) (by omega) (by omega))) fun a44 s40 hs8 ok40 r8 sm4 => ?_
        have F44 := (F42.step0 D32.stp).stepL hs8 (by decide); have q294 := kpL hs8 (by decide) (sm4 18 (by decide)) (D32.kt q279 rfl); have q295 := kpL hs8 (by decide) (sm4 16 (by decide)) (D32.kt q280 rfl); have q296 := kpL hs8 (by decide) (sm4 7 (by decide)) (D32.kt q281 rfl); have q297 := kpL hs8 (by decide) (sm4 0 (by decide)) (D32.kt q282 rfl); have q298 := kpL hs8 (by decide) (sm4 17 (by decide)) (D32.kt q283 rfl); have q299 := kpL hs8 (by decide) (sm4 19 (by decide)) (D32.kt q284 rfl); have o102 := RowsI.keepL o98 hs8 (by decide) (by decide); have o103 := Own.keepL o99 hs8 (by decide) (by decide); have o104 := OwnM.keepL o100 hs8 (by decide) (by decide)
        obtain ⟨x4, hx4⟩ : ∃ x, a44.eval (.tmp 122) = x := ⟨_, rfl⟩
        have q300 : At (Ty.val x4) s40 a44 (.tmp 122) := hx4
        have o101 := al2 (R := (Pr.own 7 22 1 (List.length (us ++ [(Value.slice none 0 0)])) (List.map Ty.val (us ++ [(Value.slice none 0 0)])))) hx4 (cvo (by first | (simp; done) | (simp; omega)) (by first | (rw [List.map_append]; rfl) | simp) r8)
        clear r8
        refine tL ok40 (Yld.toL (y_as q300)) fun a45 s41 hs9 ok41 r9 sm5 => ?_
        have F45 := F44.stepL hs9 (by decide); have q301 := kpL hs9 (by decide) (sm5 18 (by decide)) q294; have q302 := kpL hs9 (by decide) (sm5 7 (by decide)) q296; have q303 := kpL hs9 (by decide) (sm5 0 (by decide)) q297; have q304 := kpL hs9 (by decide) (sm5 17 (by decide)) q298; have q305 := kpL hs9 (by decide) (sm5 19 (by decide)) q299; have o105 := RowsI.keepL o102 hs9 (by decide) (by decide); have o106 := Own.keepL o103 hs9 (by decide) (by decide); have o107 := OwnM.keepL o104 hs9 (by decide) (by decide); have o108 := Own.keepL o101 hs9 (by decide) (by decide)
        have q306 : At (Ty.val x4) s41 a45 (.tmp 16) := r9
        clear r9; refine wpList_nil ?_
        have o109 : RowsI s41 9 3 (us ++ [(Value.slice none 0 0)]) ((grpTo (rlab l E.length) (numF l e).2 e) ++ [[]]) := RowsI.snoc o105
        have o110 : RowsI s41 9 3 (us ++ [(Value.slice none 0 0)]) (grpTo (rlab l E.length) ((numF l e).2 + 1) e) := cvgI rfl (by exact grp_new (by omega)) o109
        refine tn ?_
        have hul1 := o110.1
        obtain ⟨t9, e1, h1, o111, o112⟩ := RowsI.focus o110 (i := (numF l e).2) (by have h_ := o110.1; omega) (by decide) 10 (by decide)
        rw [← e1]
        have F46 := F45.step h1 (by decide)
        have q307 : At (Ty.nat e) t9 a45 (.tmp 18) := Ty.up _ (h1.le (by decide)) q301
        have q308 : At (Ty.val x7_1) t9 a45 (.tmp 7) := Ty.up _ (h1.le (by decide)) q302
        have q309 : At (Ty.lst Ty.ints E) t9 a45 (.tmp 0) := Ty.up _ (h1.le (by decide)) q303
        have q310 : At (Ty.val x3) t9 a45 (.tmp 17) := Ty.up _ (h1.le (by decide)) q304
        have q311 : At (Ty.nat (numF l e).2) t9 a45 (.tmp 19) := Ty.up _ (h1.le (by decide)) q305
        have q312 : At (Ty.val x4) t9 a45 (.tmp 16) := Ty.up _ (h1.le (by decide)) q306
        have o113 := Own.keepL o106 (h1.toL (L := [9]) (by simp)) (by decide) (by decide); have o114 := OwnM.keepL o107 (h1.toL (L := [9]) (by simp)) (by decide) (by decide); have o115 := Own.keepL o108 (h1.toL (L := [9]) (by simp)) (by decide) (by decide)
        refine gI a45 t9 ok41 (gM q312 (gM q311 (gM q312 (gM q311 (gT (Ty.val (cellPtr x4 (numF l e).2)) rfl (fun A B G H I d0 d1 => rP (own_index1 (i := (((numF l e).2 : Nat) : Int)) Try.underlying24 Try.inf22 (Own.k0 o115 G) (ed d0 rfl rfl rfl) (ed d1 rfl rfl rfl) (by omega) (by omega))) (gS rfl (fun A B G H I d0 => rP (own_load Try.underlying22 rfl (Own.k0 o115 G) (ed d0 rfl rfl rfl) (lst_get Ty.val (us ++ [(Value.slice none 0 0)]) undef (numF l e).2 (by omega)))) (gM q307 (gT (Ty.sl 1 1 [(Ty.nat e)]) rfl (fun A B G H I d0 => rP (y_build1o Try.underlying22 Try.inf3 rfl (one_val rfl) (ed d0 rfl rfl rfl))) (gE2 ok41 fun a46 s42 ok42 D33 => ?_))))))))); have o116 := Own.k0 o113 D33.stp; have o117 := OwnM.k0 o114 D33.stp; have o118 := Own.k0 o115 D33.stp; have o119 := Own.k0 o111 D33.stp; have o120 := RestI.k0 o112 D33.stp
        have q318 : At (Ty.val x4) s42 a46 (.tmp 123) := D33.done 0 (by decide)
        have q321 := D33.dn 7 (by decide) rfl rfl
        have b5 := sl_le q321
        refine tL ok42 (YldM.toL (m_append Try.underlying22 Try.inf3 (by decide) rfl (by decide) (al (R := (Pr.own 10 3 1 (List.length ((grpTo (rlab l E.length) ((numF l e).2 + 1) e).getD (numF l e).2 [])) (List.map Ty.int ((grpTo (rlab l E.length) ((numF l e).2 + 1) e).getD (numF l e).2 [])))) (D33.dn 5 (by decide) rfl rfl) o119) q321 (by intro U hU; simp at hU; subst hU; exact one_val rfl) (by omega) (by omega))) fun a47 s43 hs10 ok43 r10 sm6 => ?_
        have F48 := (F46.step0 D33.stp).stepL hs10 (by decide); have q322 := kpL hs10 (by decide) (sm6 18 (by decide)) (D33.kt q307 rfl); have q323 := kpL hs10 (by decide) (sm6 7 (by decide)) (D33.kt q308 rfl); have q324 := kpL hs10 (by decide) (sm6 0 (by decide)) (D33.kt q309 rfl); have q325 := kpL hs10 (by decide) (sm6 17 (by decide)) (D33.kt q310 rfl); have q326 := kpL hs10 (by decide) (sm6 16 (by decide)) (D33.kt q312 rfl); have q327 := kpL hs10 (by decide) (sm6 123 (by decide)) q318; have q328 := kpL hs10 (by decide) (sm6 124 (by decide)) (D33.dn 1 (by decide) rfl rfl); have o122 := Own.keepL o116 hs10 (by decide) (by decide); have o123 := OwnM.keepL o117 hs10 (by decide) (by decide); have o124 := Own.keepL o118 hs10 (by decide) (by decide); have o125 := RestI.keepL o120 hs10 (by decide) (by decide)
        obtain ⟨x5, hx5⟩ : ∃ x, a47.eval (.tmp 131) = x := ⟨_, rfl⟩
        have q329 : At (Ty.val x5) s43 a47 (.tmp 131) := hx5
        have o121 := al2 (R := (Pr.own 10 3 1 (List.length (((grpTo (rlab l E.length) ((numF l e).2 + 1) e).getD (numF l e).2 []) ++ [((e : Nat) : Int)])) (List.map Ty.int (((grpTo (rlab l E.length) ((numF l e).2 + 1) e).getD (numF l e).2 []) ++ [((e : Nat) : Int)])))) hx5 (cvo (by simp) (by first | (rw [List.map_append]; rfl) | simp) r10)
        clear r10
        refine tL (R := (fun v τ => Pr.has (Ty.pr (Ty.val (cellPtr x4 (numF l e).2))) τ v)) ok43 (Yld.toL (own_index1 (i := (((numF l e).2 : Nat) : Int)) Try.underlying24 Try.inf22 o124 q327 q328 (by omega) (by omega))) fun a48 s44 hs11 ok44 r11 sm7 => ?_
        have F49 := F48.stepL hs11 (by decide); have q330 := kpL hs11 (by decide) (sm7 18 (by decide)) q322; have q331 := kpL hs11 (by decide) (sm7 7 (by decide)) q323; have q332 := kpL hs11 (by decide) (sm7 0 (by decide)) q324; have q333 := kpL hs11 (by decide) (sm7 17 (by decide)) q325; have q334 := kpL hs11 (by decide) (sm7 16 (by decide)) q326; have q335 := kpL hs11 (by decide) (sm7 131 (by decide)) q329; have o126 := Own.keepL o122 hs11 (by decide) (by decide); have o127 := OwnM.keepL o123 hs11 (by decide) (by decide); have o128 := Own.keepL o124 hs11 (by decide) (by decide); have o129 := RestI.keepL o125 hs11 (by decide) (by decide); have o130 := Own.keepL o121 hs11 (by decide) (by decide)
        have q336 : At (Ty.val (cellPtr x4 (numF l e).2)) s44 a48 (.tmp 132) := r11
        clear r11
        refine tailL0 (L := [7]) (R := (fun _ τ => Own τ 7 22 1 x4 (List.length (us ++ [(Value.slice none 0 0)])) ((List.map Ty.val (us ++ [(Value.slice none 0 0)])).set (numF l e).2 (Ty.val x5)))) rfl rfl (YldM.toL (m_store Try.inf22 (by decide) o128 q336 (by simp only [List.length_map, List.length_set]; omega) q335 (one_val (Own.one o130)))) (fun v5 s45 hs12 r12 => ?_)
        have F50 := F49.stepL hs12 (by decide); have q337 := kpL hs12 (by decide) rfl q330; have q338 := kpL hs12 (by decide) rfl q331; have q339 := kpL hs12 (by decide) rfl q332; have q340 := kpL hs12 (by decide) rfl q333; have q341 := kpL hs12 (by decide) rfl q334; have o132 := Own.keepL o126 hs12 (by decide) (by decide); have o133 := OwnM.keepL o127 hs12 (by decide) (by decide); have o134 := RestI.keepL o129 hs12 (by decide) (by decide); have o135 := Own.keepL o130 hs12 (by decide) (by decide)
        have o131 : Own s45 7 22 1 x4 (List.length ((us ++ [(Value.slice none 0 0)]).set (numF l e).2 x5)) (List.map Ty.val ((us ++ [(Value.slice none 0 0)]).set (numF l e).2 x5)) := (cvo (by simp) (by first | (simp; done) | (rw [List.map_set]; done) | (rw [List.map_set]; rfl)) r12)
        clear r12; refine wpList_nil ?_
        obtain ⟨t10, e2, h2, o136⟩ := RestI.unfocus (ys := (((grpTo (rlab l E.length) ((numF l e).2 + 1) e).getD (numF l e).2 []) ++ [((e : Nat) : Int)])) o134 o135 (by first | rfl | simp) (by first | rfl | simp) (by decide) (by decide) (by decide)
        rw [← e2]
        have F51 := F50.step h2 (by decide)
        have q343 : At (Ty.nat e) t10 a48 (.tmp 18) := Ty.up _ (h2.le (by decide)) q337
        have q344 : At (Ty.val x7_1) t10 a48 (.tmp 7) := Ty.up _ (h2.le (by decide)) q338
        have q345 : At (Ty.lst Ty.ints E) t10 a48 (.tmp 0) := Ty.up _ (h2.le (by decide)) q339
        have q346 : At (Ty.val x3) t10 a48 (.tmp 17) := Ty.up _ (h2.le (by decide)) q340
        have q347 : At (Ty.val x4) t10 a48 (.tmp 16) := Ty.up _ (h2.le (by decide)) q341
        have o137 := Own.keepL o132 (h2.toL (L := [10]) (by simp)) (by decide) (by decide); have o138 := OwnM.keepL o133 (h2.toL (L := [10]) (by simp)) (by decide) (by decide); have o139 := Own.keepL o131 (h2.toL (L := [10]) (by simp)) (by decide) (by decide); refine bn (tn ?_)
        refine gI a48 t10 ok44 (gM q343 (gT (Ty.nat (e + 1)) rfl (fun A B G H I d0 => rP ((y_add (ed d0 rfl rfl rfl) rfl (w64 (by omega) (by omega))).mono (fun τ _ h => cvi (σ := τ) (by first | omega | exact (Int.natCast_mul _ _).symm) h))) (gB 0 (gE ok44 fun a49 s46 ok45 D34 => ?_)))); have o140 := Own.k0 o137 D34.stp; have o141 := OwnM.k0 o138 D34.stp; have o142 := Own.k0 o139 D34.stp; have o143 := RowsI.k0 o136 D34.stp
        exact tn ⟨E.length - ((e+1)), by omega, s46, (e+1), ((us ++ [(Value.slice none 0 0)]).set (numF l e).2 x5), x4, rfl, (F51.step0 D34.stp), ok45, (cvi (by (first | rfl | omega | (simp_all; done) | (simp_all; omega))) (D34.dn 2 rfl rfl)), (D34.kt q347 rfl), (D34.kt q344 rfl), (D34.kt q345 rfl), (D34.kt q346 rfl), (cvo (by (first | rfl | (rw [List.length_set, List.length_append, numF_new hnn, husl]; rfl) | (rw [numF_new hnn]; done) | simp)) (by (first | rfl | (rw [List.length_set, List.length_append, numF_new hnn, husl]; rfl) | (rw [numF_new hnn]; done) | simp)) o142), (cvm (by (rw [numF_new hnn])) o141), (cvgI (by (first | rfl | (rw [numF_new hnn]; exact grp_put (by omega) (by rw [hnl])))) (by (first | rfl | (rw [numF_new hnn]; exact grp_put (by omega) (by rw [hnl])))) o143), o140, by omega, by (rw [List.length_set, List.length_append, numF_new hnn, husl]; rfl), rfl⟩
       ·
        have hnn : ((numF l e).1 (l.getD e 0)).isSome = true := (by cases h_ : (numF l e).1 (l.getD e 0) <;> simp_all); obtain ⟨hnl, hn1, hn2⟩ := rl_old (N := E.length) (by omega) hnn; have hgx : ((grpTo (rlab l E.length) (numF l e).2 e).getD (((numF l e).1 (l.getD e 0)).getD 0).toNat []).length ≤ e := (by rw [grpTo_get (by omega)]; exact idxs_len)
        refine wp_skip (tn ?_)
        have hul2 := o83.1
        obtain ⟨t11, e3, h3, o144, o145⟩ := RowsI.focus o83 (i := ((((numF l e).1 (l.getD e 0)).getD 0)).toNat) (by have h_ := o83.1; omega) (by decide) 10 (by decide)
        rw [← e3]
        have F53 := F39.step h3 (by decide)
        have q353 : At (Ty.nat e) t11 a40 (.tmp 18) := Ty.up _ (h3.le (by decide)) q257
        have q354 : At (Ty.val x16_3) t11 a40 (.tmp 16) := Ty.up _ (h3.le (by decide)) q258
        have q355 : At (Ty.val x7_1) t11 a40 (.tmp 7) := Ty.up _ (h3.le (by decide)) q259
        have q356 : At (Ty.lst Ty.ints E) t11 a40 (.tmp 0) := Ty.up _ (h3.le (by decide)) q260
        have q357 : At (Ty.val x3) t11 a40 (.tmp 17) := Ty.up _ (h3.le (by decide)) q261
        have q358 : At (Ty.int (((numF l e).1 (l.getD e 0)).getD 0)) t11 a40 (.tmp 19) := Ty.up _ (h3.le (by decide)) (D29.kt (D28.dn 9 rfl rfl) rfl)
        have q359 : At (Ty.bool (!(Option.isSome ((numF l e).1 (l.getD e 0))))) t11 a40 (.tmp 111) := Ty.up _ (h3.le (by decide)) q263
        have o146 := Own.keepL o81 (h3.toL (L := [9]) (by simp)) (by decide) (by decide); have o147 := OwnM.keepL o82 (h3.toL (L := [9]) (by simp)) (by decide) (by decide); have o148 := Own.keepL o84 (h3.toL (L := [9]) (by simp)) (by decide) (by decide)
        refine gI a40 t11 ok36 (gM q354 (gM q358 (gM q354 (gM q358 (gT (Ty.val (cellPtr x16_3 ((((numF l e).1 (l.getD e 0)).getD 0)).toNat)) rfl (fun A B G H I d0 d1 => rP (own_index1 (i := (((numF l e).1 (l.getD e 0)).getD 0)) Try.underlying24 Try.inf22 (Own.k0 o146 G) (ed d0 rfl rfl rfl) (ed d1 rfl rfl rfl) (by omega) (by omega))) (gS rfl (fun A B G H I d0 => rP (own_load Try.underlying22 rfl (Own.k0 o146 G) (ed d0 rfl rfl rfl) (lst_get Ty.val us undef ((((numF l e).1 (l.getD e 0)).getD 0)).toNat (by omega)))) (gM q353 (gT (Ty.sl 1 1 [(Ty.nat e)]) rfl (fun A B G H I d0 => rP (y_build1o Try.underlying22 Try.inf3 rfl (one_val rfl) (ed d0 rfl rfl rfl))) (gE2 ok36 fun a50 s47 ok46 D35 => ?_))))))))); have o149 := Own.k0 o146 D35.stp; have o150 := OwnM.k0 o147 D35.stp; have o151 := Own.k0 o148 D35.stp; have o152 := Own.k0 o144 D35.stp; have o153 := RestI.k0 o145 D35.stp
        have q365 : At (Ty.val x16_3) s47 a50 (.tmp 123) := D35.done 0 (by decide)
        have q368 := D35.dn 7 (by decide) rfl rfl
        have b6 := sl_le q368
        refine tL ok46 (YldM.toL (m_append Try.underlying22 Try.inf3 (by decide) rfl (by decide) (al (R := (Pr.own 10 3 1 (List.length ((grpTo (rlab l E.length) (numF l e).2 e).getD ((((numF l e).1 (l.getD e 0)).getD 0)).toNat [])) (List.map Ty.int ((grpTo (rlab l E.length) (numF l e).2 e).getD ((((numF l e).1 (l.getD e 0)).getD 0)).toNat [])))) (D35.dn 5 (by decide) rfl rfl) o152) q368 (by intro U hU; simp at hU; subst hU; exact one_val rfl) (by omega) (by omega))) fun a51 s48 hs13 ok47 r13 sm8 => ?_
        have F55 := (F53.step0 D35.stp).stepL hs13 (by decide); have q369 := kpL hs13 (by decide) (sm8 18 (by decide)) (D35.kt q353 rfl); have q370 := kpL hs13 (by decide) (sm8 16 (by decide)) (D35.kt q354 rfl); have q371 := kpL hs13 (by decide) (sm8 7 (by decide)) (D35.kt q355 rfl); have q372 := kpL hs13 (by decide) (sm8 0 (by decide)) (D35.kt q356 rfl); have q373 := kpL hs13 (by decide) (sm8 17 (by decide)) (D35.kt q357 rfl); have q374 := kpL hs13 (by decide) (sm8 123 (by decide)) q365; have q375 := kpL hs13 (by decide) (sm8 124 (by decide)) (D35.dn 1 (by decide) rfl rfl); have o155 := Own.keepL o149 hs13 (by decide) (by decide); have o156 := OwnM.keepL o150 hs13 (by decide) (by decide); have o157 := Own.keepL o151 hs13 (by decide) (by decide); have o158 := RestI.keepL o153 hs13 (by decide) (by decide)
        obtain ⟨x6, hx6⟩ : ∃ x, a51.eval (.tmp 131) = x := ⟨_, rfl⟩
        have q376 : At (Ty.val x6) s48 a51 (.tmp 131) := hx6
        have o154 := al2 (R := (Pr.own 10 3 1 (List.length (((grpTo (rlab l E.length) (numF l e).2 e).getD ((((numF l e).1 (l.getD e 0)).getD 0)).toNat []) ++ [((e : Nat) : Int)])) (List.map Ty.int (((grpTo (rlab l E.length) (numF l e).2 e).getD ((((numF l e).1 (l.getD e 0)).getD 0)).toNat []) ++ [((e : Nat) : Int)])))) hx6 (cvo (by simp) (by first | (rw [List.map_append]; rfl) | simp) r13)
        clear r13
        refine tL (R := (fun v τ => Pr.has (Ty.pr (Ty.val (cellPtr x16_3 ((((numF l e).1 (l.getD e 0)).getD 0)).toNat))) τ v)) ok47 (Yld.toL (own_index1 (i := (((numF l e).1 (l.getD e 0)).getD 0)) Try.underlying24 Try.inf22 o155 q374 q375 (by omega) (by omega))) fun a52 s49 hs14 ok48 r14 sm9 => ?_
        have F56 := F55.stepL hs14 (by decide); have q377 := kpL hs14 (by decide) (sm9 18 (by decide)) q369; have q378 := kpL hs14 (by decide) (sm9 16 (by decide)) q370; have q379 := kpL hs14 (by decide) (sm9 7 (by decide)) q371; have q380 := kpL hs14 (by decide) (sm9 0 (by decide)) q372; have q381 := kpL hs14 (by decide) (sm9 17 (by decide)) q373; have q382 := kpL hs14 (by decide) (sm9 131 (by decide)) q376; have o159 := Own.keepL o155 hs14 (by decide) (by decide); have o160 := OwnM.keepL o156 hs14 (by decide) (by decide); have o161 := Own.keepL o157 hs14 (by decide) (by decide); have o162 := RestI.keepL o158 hs14 (by decide) (by decide); have o163 := Own.keepL o154 hs14 (by decide) (by decide)
        have q383 : At (Ty.val (cellPtr x16_3 ((((numF l e).1 (l.getD e 0)).getD 0)).toNat)) s49 a52 (.tmp 132) := r14
        clear r14
        refine tailL0 (L := [7]) (R := (fun _ τ => Own τ 7 22 1 x16_3 (numF l e).2 ((List.map Ty.val us).set ((((numF l e).1 (l.getD e 0)).getD 0)).toNat (Ty.val x6)))) rfl rfl (YldM.toL (m_store Try.inf22 (by decide) o159 q383 (by simp only [List.length_map, List.length_set]; omega) q382 (one_val (Own.one o163)))) (fun v6 s50 hs15 r15 => ?_)
        have F57 := F56.stepL hs15 (by decide); have q384 := kpL hs15 (by decide) rfl q377; have q385 := kpL hs15 (by decide) rfl q378; have q386 := kpL hs15 (by decide) rfl q379; have q387 := kpL hs15 (by decide) rfl q380; have q388 := kpL hs15 (by decide) rfl q381; have o165 := OwnM.keepL o160 hs15 (by decide) (by decide); have o166 := Own.keepL o161 hs15 (by decide) (by decide); have o167 := RestI.keepL o162 hs15 (by decide) (by decide); have o168 := Own.keepL o163 hs15 (by decide) (by decide)
        have o164 : Own s50 7 22 1 x16_3 (numF l e).2 (List.map Ty.val (us.set ((((numF l e).1 (l.getD e 0)).getD 0)).toNat x6)) := (cvo (by simp) (by first | (simp; done) | (rw [List.map_set]; done) | (rw [List.map_set]; rfl)) r15)
        clear r15; refine wpList_nil ?_
        obtain ⟨t12, e4, h4, o169⟩ := RestI.unfocus (ys := (((grpTo (rlab l E.length) (numF l e).2 e).getD ((((numF l e).1 (l.getD e 0)).getD 0)).toNat []) ++ [((e : Nat) : Int)])) o167 o168 (by first | rfl | simp) (by first | rfl | simp) (by decide) (by decide) (by decide)
        rw [← e4]
        have F58 := F57.step h4 (by decide)
        have q390 : At (Ty.nat e) t12 a52 (.tmp 18) := Ty.up _ (h4.le (by decide)) q384
        have q391 : At (Ty.val x16_3) t12 a52 (.tmp 16) := Ty.up _ (h4.le (by decide)) q385
        have q392 : At (Ty.val x7_1) t12 a52 (.tmp 7) := Ty.up _ (h4.le (by decide)) q386
        have q393 : At (Ty.lst Ty.ints E) t12 a52 (.tmp 0) := Ty.up _ (h4.le (by decide)) q387
        have q394 : At (Ty.val x3) t12 a52 (.tmp 17) := Ty.up _ (h4.le (by decide)) q388
        have o170 := OwnM.keepL o165 (h4.toL (L := [10]) (by simp)) (by decide) (by decide); have o171 := Own.keepL o166 (h4.toL (L := [10]) (by simp)) (by decide) (by decide); have o172 := Own.keepL o164 (h4.toL (L := [10]) (by simp)) (by decide) (by decide); refine bn (tn ?_)
        refine gI a52 t12 ok48 (gM q390 (gT (Ty.nat (e + 1)) rfl (fun A B G H I d0 => rP ((y_add (ed d0 rfl rfl rfl) rfl (w64 (by omega) (by omega))).mono (fun τ _ h => cvi (σ := τ) (by first | omega | exact (Int.natCast_mul _ _).symm) h))) (gB 0 (gE ok48 fun a53 s51 ok49 D36 => ?_)))); have o173 := OwnM.k0 o170 D36.stp; have o174 := Own.k0 o171 D36.stp; have o175 := Own.k0 o172 D36.stp; have o176 := RowsI.k0 o169 D36.stp
        exact tn ⟨E.length - ((e+1)), by omega, s51, (e+1), (us.set ((((numF l e).1 (l.getD e 0)).getD 0)).toNat x6), x16_3, rfl, (F58.step0 D36.stp), ok49, (cvi (by (first | rfl | omega | (simp_all; done) | (simp_all; omega))) (D36.dn 2 rfl rfl)), (D36.kt q391 rfl), (D36.kt q392 rfl), (D36.kt q393 rfl), (D36.kt q394 rfl), (cvo (by (first | rfl | (rw [numF_old hnn]; done) | (rw [List.length_set, numF_old hnn]; exact husl) | simp)) (by (first | rfl | (rw [numF_old hnn]; done) | (rw [List.length_set, numF_old hnn]; exact husl) | simp)) o175), (cvm (by (rw [numF_old hnn])) o173), (cvgI (by (first | rfl | (rw [numF_old hnn]; exact grp_put (by omega) (by omega)))) (by (first | rfl | (rw [numF_old hnn]; exact grp_put (by omega) (by omega)))) o176), o174, by omega, by (rw [List.length_set, numF_old hnn]; exact husl), rfl⟩
      ·
       refine wp_exit (tx (tx (bx (tn (wp_seq ?_)))))
       obtain ⟨t13, e5, h5, o177⟩ := RowsI.seal o75 (by decide) o73 (by decide)
       rw [← e5]
       have F60 := F37.step h5 (by decide)
       have q400 : At (Ty.nat e) t13 a38 (.tmp 18) := Ty.up _ (h5.le (by decide)) q244
       have q401 : At (Ty.val x16_3) t13 a38 (.tmp 16) := Ty.up _ (h5.le (by decide)) q245
       have q402 : At (Ty.val x7_1) t13 a38 (.tmp 7) := Ty.up _ (h5.le (by decide)) q246
       have q403 : At (Ty.lst Ty.ints E) t13 a38 (.tmp 0) := Ty.up _ (h5.le (by decide)) q247
       have q404 : At (Ty.val x3) t13 a38 (.tmp 17) := Ty.up _ (h5.le (by decide)) q248
       have q405 : At (Ty.bool (decide (((e : Nat) : Int) < (((List.length E) : Nat) : Int)))) t13 a38 (.tmp 98) := Ty.up _ (h5.le (by decide)) q249
       have o178 := OwnM.keepL o74 (h5.toL (L := [9]) (by simp)) (by decide) (by decide); have o179 := Own.keepL o76 (h5.toL (L := [9]) (by simp)) (by decide) (by decide)
       refine gI a38 t13 ok34 (gM q401 (gB 0 (gE ok34 fun a54 s52 ok50 D37 => ?_))); have o180 := OwnM.k0 o178 D37.stp; have o181 := Own.k0 o179 D37.stp; have o182 := Own.k0 o177 D37.stp
       have q406 : At (Ty.val x16_3) s52 a54 (.tmp 6) := D37.done 1
       refine tn (wp_ret ?_)
       obtain ⟨t14, e6, h6, q407⟩ := Own.seal o182 (by decide)
       rw [← e6]
       have F62 := (F60.step0 D37.stp).step h6 (by decide)
       have q408 : At (Ty.sl 1 (numF l e).2 (List.map Ty.ints (grpTo (rlab l E.length) (numF l e).2 e))) t14 a54 (.tmp 6) := by have e : a54.eval (.tmp 6) = x16_3 := q406; show Ty.has _ _ _; rw [e]; exact q407
       exact retL1 rfl ok50 F62 ⟨(grpTo (rlab l E.length) (numF l e).2 e), (cvt (by (show Ty.sl 1 (numF l e).2 _ = Ty.sl 1 (grpTo (rlab l E.length) (numF l e).2 e).length _; rw [grpTo_len])) q408), (by rw [show e = E.length by omega]; exact hJe.qs hqp)⟩


set_option maxRecDepth 100000 in
theorem rsame_fn (xs : List Int) (ys : List Int) (σ : GW) (v0 v1 : Value) (hv0 : Ty.has (Ty.lst Ty.int xs) σ v0) (hv1 : Ty.has (Ty.lst Ty.int ys) σ v1)  :
    FnC Try.prog 37 #[v0, v1] σ (Ty.bool (decide (xs = ys))) := by
 refine fn_intro Try.func37 rfl Try.ntmps37 (Nat.le_of_ble_eq_true rfl) (fun s0 a0 hle F0 ok0 hargs => ?_)
 have p0 := pA hle (hargs 0 _ rfl) hv0
 have b1 := sl_le p0
 have p1 := pA hle (hargs 1 _ rfl) hv1
 have b2 := sl_le p1
 clear hargs; refine wp_seq ?_
 refine gI a0 s0 ok0 (gC (Ty.bool false) (gE ok0 fun a1 s1 ok1 D1 => ?_)); have q1 := D1.kt p0 rfl; have q2 := D1.kt p1 rfl; refine tn (wp_seq (wp_seq ?_))
 refine gI a1 s1 ok1 (gM q1 (gS rfl (fun A B G H I d0 => rP (y_len Try.underlying22 (ed d0 rfl rfl rfl))) (gM q2 (gS rfl (fun A B G H I d0 => rP (y_len Try.underlying22 (ed d0 rfl rfl rfl))) (gS rfl (fun A B G H I d0 d1 => rP (y_neq (ed d0 rfl rfl rfl) (ed d1 rfl rfl rfl))) (gE ok1 fun a2 s2 ok2 D2 => ?_)))))); have F2 := (F0.step0 D1.stp).step0 D2.stp; refine tn ?_
 refine cond_p (p := ((((List.length xs) : Nat) : Int) ≠ (((List.length ys) : Nat) : Int))) (D2.dn 4 rfl rfl) (fun c1 => ?_) (fun c1 => ?_)
 ·
  refine wp_seq ?_
  refine gI a2 s2 ok2 (gC (Ty.bool false) (gE ok2 fun a3 s3 ok3 D3 => ?_)); refine tn (wp_ret (tr ?_))
  exact ret1 rfl ok3 (F2.step0 D3.stp) (cvb (by (rw [decide_eq_false]; intro e; subst e; omega)) (D3.dn 0 rfl rfl))
 ·
  refine wp_skip (tn (wp_seq (wp_seq ?_)))
  refine gI a2 s2 ok2 (gC (Ty.int (0 : Int)) (gE ok2 fun a4 s4 ok4 D4 => ?_)); refine tn (wp_block ?_)
  refine loop (fun n1 a5 w1 => ∃ (t1 : GW) (k : Nat), t1.w = w1 ∧ From s0 t1 ∧ Ok 26 [] a5 ∧ At (Ty.nat k) t1 a5 (.tmp 5) ∧ At (Ty.lst Ty.int xs) t1 a5 (.tmp 0) ∧ At (Ty.lst Ty.int ys) t1 a5 (.tmp 1) ∧ (k ≤ xs.length) ∧ (xs.length = ys.length) ∧ (∀ j, j < k → xs.getD j 0 = ys.getD j 0) ∧ n1 = xs.length - k) (xs.length - (0)) ?_ ?_
  ·
   exact ⟨s4, 0, rfl, (F2.step0 D4.stp), ok4, (cvi (by (first | rfl | omega | (simp_all; done) | (simp_all; omega))) (D4.dn 0 rfl rfl)), (D4.kt (D2.kt q1 rfl) rfl), (D4.kt (D2.kt q2 rfl) rfl), by omega, by omega, fun j hj => absurd hj (Nat.not_lt_zero j), rfl⟩
  ·
   rintro n2 a6 w2 ⟨t2, k, rfl, F5, ok5, q10, q11, q12, hk, hl, heq, rfl⟩
   refine wp_seq (wp_seq ?_)
   refine gI a6 t2 ok5 (gM q10 (gM q11 (gS rfl (fun A B G H I d0 => rP (y_len Try.underlying22 (ed d0 rfl rfl rfl))) (gS rfl (fun A B G H I d0 d1 => rP (y_lss (ed d0 rfl rfl rfl) (ed d1 rfl rfl rfl))) (gE ok5 fun a7 s5 ok6 D5 => ?_))))); have F6 := F5.step0 D5.stp; have q13 := D5.kt q10 rfl; have q14 := D5.kt q11 rfl; have q15 := D5.kt q12 rfl; refine tn ?_
   refine cond_p (p := (((k : Nat) : Int) < (((List.length xs) : Nat) : Int))) (D5.dn 3 rfl rfl) (fun c2 => ?_) (fun c2 => ?_)
   ·
    refine wp_skip (tn (wp_seq (wp_block (wp_seq ?_))))
    refine gI a7 s5 ok6 (gM q14 (gM q13 (gT (Ty.ref [(Ty.int (xs.getD k 0))]) rfl (fun A B G H I d0 d1 => rP (y_index1 Try.underlying22 Try.inf3 (ed d0 rfl rfl rfl) (ed d1 rfl rfl rfl) (by omega) (lst_get Ty.int xs 0 k (by omega)))) (gS rfl (fun A B G H I d0 => rP (y_load Try.underlying3 rfl (ed d0 rfl rfl rfl) rfl)) (gM q15 (gM q13 (gT (Ty.ref [(Ty.int (ys.getD k 0))]) rfl (fun A B G H I d0 d1 => rP (y_index1 Try.underlying22 Try.inf3 (ed d0 rfl rfl rfl) (ed d1 rfl rfl rfl) (by omega) (lst_get Ty.int ys 0 k (by omega)))) (gS rfl (fun A B G H I d0 => rP (y_load Try.underlying3 rfl (ed d0 rfl rfl rfl) rfl)) (gS rfl (fun A B G H I d0 d1 => rP (y_neq (ed d0 rfl rfl rfl) (ed d1 rfl rfl rfl))) (gE ok6 fun a8 s6 ok7 D6 => ?_)))))))))); have F7 := F6.step0 D6.stp; refine tn ?_
    refine cond_p (p := ((xs.getD k 0) ≠ (ys.getD k 0))) (D6.dn 8 rfl rfl) (fun c3 => ?_) (fun c3 => ?_)
    ·
     refine wp_seq ?_
     refine gI a8 s6 ok7 (gC (Ty.bool false) (gE ok7 fun a9 s7 ok8 D7 => ?_)); refine tn (wp_ret (br (tr (tr (br (tr ?_))))))
     exact ret1 rfl ok8 (F7.step0 D7.stp) (cvb (by (exact (decide_eq_false (fun e => by subst e; simp_all)).symm)) (D7.dn 0 rfl rfl))
    ·
     refine wp_skip (bn (tn ?_))
     refine gI a8 s6 ok7 (gM (D6.kt q13 rfl) (gT (Ty.int (((k : Nat) : Int) + (1 : Int))) rfl (fun A B G H I d0 => rP (y_add (ed d0 rfl rfl rfl) rfl (w64 (by omega) (by omega)))) (gB 0 (gE ok7 fun a10 s8 ok9 D8 => ?_))))
     exact tn ⟨xs.length - ((k+1)), by omega, s8, (k+1), rfl, (F7.step0 D8.stp), ok9, (cvi (by (first | rfl | omega | (simp_all; done) | (simp_all; omega))) (D8.dn 2 rfl rfl)), (D8.kt (D6.kt q14 rfl) rfl), (D8.kt (D6.kt q15 rfl) rfl), by omega, by omega, all_snoc heq (by assumption), rfl⟩
   ·
    refine wp_exit (tx (tx (bx (tn (wp_seq ?_)))))
    refine gI a7 s5 ok6 (gC (Ty.bool true) (gE ok6 fun a11 s9 ok10 D9 => ?_)); refine tn (wp_ret ?_)
    exact ret1 rfl ok10 (F6.step0 D9.stp) (cvb (by (exact (decide_eq_true (list_ext (by omega) (fun j hj => heq j (by omega)))).symm)) (D9.dn 0 rfl rfl))


set_option maxHeartbeats 4000000 in
set_option maxRecDepth 100000 in
theorem rSameAll_fn (a : List (List Int)) (b : List (List Int)) (σ : GW)  (v0 v1 : Value) (hv0 : Ty.has (Ty.lst Ty.ints a) σ v0) (hv1 : Ty.has (Ty.lst Ty.ints b) σ v1)   :
    FnC Try.prog 29 #[v0, v1] σ (Ty.bool (decide (a = b))) := by
 refine fn_intro0 Try.func29 rfl Try.ntmps29 (Nat.le_of_ble_eq_true rfl) (fun s0 a0 hle F0 ok0 hargs => ?_)
 have p0 := pA hle (hargs 0 _ rfl) hv0
 have b1 := sl_le p0
 have p1 := pA hle (hargs 1 _ rfl) hv1
 have b2 := sl_le p1
 clear hargs; refine wp_seq ?_
 refine gI a0 s0 ok0 (gC (Ty.bool false) (gE ok0 fun a1 s1 ok1 D1 => ?_)); have q1 := D1.kt p0 rfl; have q2 := D1.kt p1 rfl; refine tn (wp_seq (wp_seq ?_))
 refine gI a1 s1 ok1 (gM q1 (gS rfl (fun A B G H I d0 => rP (y_len Try.underlying24 (ed d0 rfl rfl rfl))) (gM q2 (gS rfl (fun A B G H I d0 => rP (y_len Try.underlying24 (ed d0 rfl rfl rfl))) (gS rfl (fun A B G H I d0 d1 => rP (y_neq (ed d0 rfl rfl rfl) (ed d1 rfl rfl rfl))) (gE ok1 fun a2 s2 ok2 D2 => ?_)))))); have F2 := (F0.step0 D1.stp).step0 D2.stp; refine tn ?_
 refine cond_p (p := ((((List.length a) : Nat) : Int) ≠ (((List.length b) : Nat) : Int))) (D2.dn 4 rfl rfl) (fun c1 => ?_) (fun c1 => ?_)
 ·
  refine wp_seq ?_
  refine gI a2 s2 ok2 (gC (Ty.bool false) (gE ok2 fun a3 s3 ok3 D3 => ?_)); refine tn (wp_ret (tr ?_))
  exact retL1 rfl ok3 (F2.step0 D3.stp) (cvb (by (rw [decide_eq_false]; intro e; subst e; omega)) (D3.dn 0 rfl rfl))
 ·
  refine wp_skip (tn (wp_seq (wp_seq ?_)))
  refine gI a2 s2 ok2 (gC (Ty.int (0 : Int)) (gE ok2 fun a4 s4 ok4 D4 => ?_)); refine tn (wp_block ?_)
  refine loop (fun n1 a5 w1 => ∃ (t1 : GW) (k : Nat), t1.w = w1 ∧ FromL [] s0 t1 ∧ Ok 29 [] a5 ∧ At (Ty.nat k) t1 a5 (.tmp 5) ∧ At (Ty.lst Ty.ints a) t1 a5 (.tmp 0) ∧ At (Ty.lst Ty.ints b) t1 a5 (.tmp 1) ∧ (k ≤ a.length) ∧ (a.length = b.length) ∧ (∀ j, j < k → a.getD j [] = b.getD j []) ∧ n1 = a.length - k) (a.length - (0)) ?_ ?_
  ·
   exact ⟨s4, 0, rfl, (F2.step0 D4.stp), ok4, (cvi (by (first | rfl | omega | (simp_all; done) | (simp_all; omega))) (D4.dn 0 rfl rfl)), (D4.kt (D2.kt q1 rfl) rfl), (D4.kt (D2.kt q2 rfl) rfl), by omega, by omega, fun j hj => absurd hj (Nat.not_lt_zero j), rfl⟩
  ·
   rintro n2 a6 w2 ⟨t2, k, rfl, F5, ok5, q10, q11, q12, hk, hl, heq, rfl⟩
   refine wp_seq (wp_seq ?_)
   refine gI a6 t2 ok5 (gM q10 (gM q11 (gS rfl (fun A B G H I d0 => rP (y_len Try.underlying24 (ed d0 rfl rfl rfl))) (gS rfl (fun A B G H I d0 d1 => rP (y_lss (ed d0 rfl rfl rfl) (ed d1 rfl rfl rfl))) (gE ok5 fun a7 s5 ok6 D5 => ?_))))); have F6 := F5.step0 D5.stp; have q13 := D5.kt q10 rfl; have q14 := D5.kt q11 rfl; have q15 := D5.kt q12 rfl; refine tn ?_
   refine cond_p (p := (((k : Nat) : Int) < (((List.length a) : Nat) : Int))) (D5.dn 3 rfl rfl) (fun c2 => ?_) (fun c2 => ?_)
   ·
    refine wp_skip (tn (wp_seq (wp_block (wp_seq ?_))))
    refine gI a7 s5 ok6 (gM q14 (gM q13 (gT (Ty.ref [(Ty.lst Ty.int (a.getD k []))]) rfl (fun A B G H I d0 d1 => rP (y_index1 Try.underlying24 Try.inf22 (ed d0 rfl rfl rfl) (ed d1 rfl rfl rfl) (by omega) (lst_get Ty.ints a [] k (by omega)))) (gS rfl (fun A B G H I d0 => rP (y_load Try.underlying22 rfl (ed d0 rfl rfl rfl) rfl)) (gM q15 (gM q13 (gT (Ty.ref [(Ty.lst Ty.int (b.getD k []))]) rfl (fun A B G H I d0 d1 => rP (y_index1 Try.underlying24 Try.inf22 (ed d0 rfl rfl rfl) (ed d1 rfl rfl rfl) (by omega) (lst_get Ty.ints b [] k (by omega)))) (gS rfl (fun A B G H I d0 => rP (y_load Try.underlying22 rfl (ed d0 rfl rfl rfl) rfl)) (gS rfl (fun A B G H I d0 d1 => rP (y_call _ Try.func37 rfl rfl my2 (rsame_fn ((a.getD k [])) ((b.getD k [])) _ _ _ (ed d0 rfl rfl rfl) (ed d1 rfl rfl rfl) ))) (gB 0 (gE ok6 fun a8 s6 ok7 D6 => ?_))))))))))); refine tn (wp_seq ?_)
    refine gI a8 s6 ok7 (gM (D6.dn 9 rfl rfl) (gS rfl (fun A B G H I d0 => rP (y_not (ed d0 rfl rfl rfl))) (gE ok7 fun a9 s7 ok8 D7 => ?_))); have F8 := (F6.step0 D6.stp).step0 D7.stp; refine tn ?_
    refine cond_t (D7.dn 1 rfl rfl) (fun c3 => ?_) (fun c3 => ?_)
    ·
     refine wp_seq ?_
     refine gI a9 s7 ok8 (gC (Ty.bool false) (gE ok8 fun a10 s8 ok9 D8 => ?_)); refine tn (wp_ret (br (tr (tr (br (tr ?_))))))
     exact retL1 rfl ok9 (F8.step0 D8.stp) (cvb (by (exact (decide_eq_false (fun e => by subst e; simp at c3)).symm)) (D8.dn 0 rfl rfl))
    ·
     refine wp_skip (bn (tn ?_))
     refine gI a9 s7 ok8 (gM (D7.kt (D6.kt q13 rfl) rfl) (gT (Ty.int (((k : Nat) : Int) + (1 : Int))) rfl (fun A B G H I d0 => rP (y_add (ed d0 rfl rfl rfl) rfl (w64 (by omega) (by omega)))) (gB 0 (gE ok8 fun a11 s9 ok10 D9 => ?_))))
     exact tn ⟨a.length - ((k+1)), by omega, s9, (k+1), rfl, (F8.step0 D9.stp), ok10, (cvi (by (first | rfl | omega | (simp_all; done) | (simp_all; omega))) (D9.dn 2 rfl rfl)), (D9.kt (D7.kt (D6.kt q14 rfl) rfl) rfl), (D9.kt (D7.kt (D6.kt q15 rfl) rfl) rfl), by omega, by omega, all_snocs heq (by simpa using c3), rfl⟩
   ·
    refine wp_exit (tx (tx (bx (tn (wp_seq ?_)))))
    refine gI a7 s5 ok6 (gC (Ty.bool true) (gE ok6 fun a12 s10 ok11 D10 => ?_)); refine tn (wp_ret ?_)
    exact retL1 rfl ok11 (F6.step0 D10.stp) (cvb (by (exact (decide_eq_true (lists_ext (by omega) (fun j hj => heq j (by omega)))).symm)) (D10.dn 0 rfl rfl))


end Go.Proofs.Ytkjifbgofckfeaa
