/- The functions that the law TopCoset reaches, each by its contract. Part 5. -/
import Derived.Test.YtkjifbgofckfeaaTopCosetW4
namespace Go.Proofs.Ytkjifbgofckfeaa
open Go.KL

set_option maxHeartbeats 4000000 in
set_option maxRecDepth 100000 in
theorem cAll_fn (tv : Value) (nx : Value) (wd : Value) (mv : Value) (H : List (List Int)) (N : List (List Int)) (W : List (List Int)) (σ : GW) (hlow : Low [41, 42, 43] σ) (v0 : Value) (hv0 : Ty.has (Ty.val tv) σ v0) (ho_tv : OwnP σ 41 tv [(Ty.val nx), (Ty.val wd), (Ty.lst Ty.ints H), (Ty.val mv)]) (ho_nx : Own σ 42 22 1 nx (List.length N) (List.map Ty.ints N)) (ho_wd : Own σ 43 22 1 wd (List.length W) (List.map Ty.ints W)) (hl : W.length = N.length) (hNl : N.length ≤ 1000) (hNb : ∀ x ∈ N, x.length ≤ 1000000) (hWb : ∀ x ∈ W, x.length ≤ 1000000) :
    FnL Try.prog 35 #[v0] σ [41, 42, 43] (fun v τ => (Ty.has (Ty.tup2 (Ty.lst Ty.ints N) (Ty.lst Ty.ints W)) τ v) ∧ (OwnP τ 41 tv [(Ty.val nx), (Ty.val wd), (Ty.lst Ty.ints H), (Ty.val mv)]) ∧ (Own τ 42 22 1 nx (List.length N) (List.map Ty.ints N)) ∧ (Own τ 43 22 1 wd (List.length W) (List.map Ty.ints W))) := by
 refine fn_introL hlow Try.func35 rfl Try.ntmps35 (Nat.le_of_ble_eq_true rfl) (fun a0 F0 ok0 hargs => ?_)
 have p0 := pB (hargs 0 _ rfl) hv0
 clear hargs; refine wp_seq ?_
 refine gI a0 σ ok0 (gC (Ty.val (Value.slice none 0 0)) (gC (Ty.val (Value.slice none 0 0)) (gE ok0 fun a1 s1 ok1 D1 => ?_))); have q1 := D1.kt p0 rfl; have o1 := OwnP.k0 ho_tv D1.stp; have o2 := Own.k0 ho_nx D1.stp; have o3 := Own.k0 ho_wd D1.stp; refine tn (wp_seq (wp_seq ?_))
 refine gI a1 s1 ok1 (gM q1 (gT (Ty.val tv) rfl (fun A B E I J d0 => rP (y_nilp (OwnP.k0 o1 E) (ed d0 rfl rfl rfl))) (gT (Ty.val (ptrAt tv 0)) rfl (fun A B E I J d0 => rP (ownp_field Try.fld106_0 Try.inf24 (by decide) (OwnP.k0 o1 E) (ed d0 rfl rfl rfl))) (gS rfl (fun A B E I J d0 => rP (ownp_load Try.underlying24 rfl (OwnP.k0 o1 E) (ed d0 rfl rfl rfl) rfl)) (gT (Ty.nat (List.length N)) rfl (fun A B E I J d0 => rP (own_len Try.underlying24 (al (R := (Pr.own 42 22 1 (List.length N) (List.map Ty.ints N))) (ed d0 rfl rfl rfl) (Own.k0 o2 E)))) (gT (Ty.int (0 : Int)) rfl (fun A B E I J => rP (y_move rfl)) (gE ok1 fun a2 s2 ok2 D2 => ?_))))))); have o4 := OwnP.k0 o1 D2.stp; have o5 := Own.k0 o2 D2.stp; have o6 := Own.k0 o3 D2.stp; refine tn (wp_block ?_)
 have o7 : Own s2 20 22 1 (Value.slice none 0 0) 0 (List.map Ty.ints ([] : List (List Int))) := Own.nil _ _ _ _
 have o8 : Own s2 21 22 1 (Value.slice none 0 0) 0 (List.map Ty.ints ([] : List (List Int))) := Own.nil _ _ _ _
 refine loop (fun n1 a3 w1 => ∃ (t1 : GW) (i : Nat) (x2_0 x3_0 : Value), t1.w = w1 ∧ FromL [41, 42, 43] σ t1 ∧ Ok 40 [] a3 ∧ At (Ty.nat i) t1 a3 (.tmp 10) ∧ At (Ty.val x2_0) t1 a3 (.tmp 2) ∧ At (Ty.val x3_0) t1 a3 (.tmp 3) ∧ At (Ty.val tv) t1 a3 (.tmp 0) ∧ At (Ty.nat (List.length N)) t1 a3 (.tmp 9) ∧ Own t1 20 22 1 x2_0 (List.length (N.take i)) (List.map Ty.ints (N.take i)) ∧ Own t1 21 22 1 x3_0 (List.length (W.take i)) (List.map Ty.ints (W.take i)) ∧ OwnP t1 41 tv [(Ty.val nx), (Ty.val wd), (Ty.lst Ty.ints H), (Ty.val mv)] ∧ Own t1 42 22 1 nx (List.length N) (List.map Ty.ints N) ∧ Own t1 43 22 1 wd (List.length W) (List.map Ty.ints W) ∧ (i ≤ N.length) ∧ n1 = N.length - i) (N.length - (0)) ?_ ?_
 ·
  exact ⟨s2, 0, (Value.slice none 0 0), (Value.slice none 0 0), rfl, ((F0.step0 D1.stp).step0 D2.stp), ok2, (cvi (by (first | rfl | omega | (simp_all; done) | (simp_all; omega))) (D2.dn 5 rfl rfl)), (D2.kt (D1.dn 0 rfl rfl) rfl), (D2.kt (D1.dn 1 rfl rfl) rfl), (D2.kt q1 rfl), (D2.dn 4 rfl rfl), (cvo (by (first | rfl | simp)) (by (first | rfl | simp)) o7), (cvo (by (first | rfl | simp)) (by (first | rfl | simp)) o8), o4, o5, o6, by omega, rfl⟩
 ·
  rintro n2 a4 w2 ⟨t2, i, x2_0, x3_0, rfl, F3, ok3, q9, q10, q11, q12, q13, o9, o10, o11, o12, o13, hi, rfl⟩
  have htl := List.length_take_le i N
  have htl2 := List.length_take_le i W
  refine wp_seq ?_
  refine gI a4 t2 ok3 (gS rfl (fun A B E I J => rP (y_lss (kp (J 10 rfl) E q9) (kp (J 9 rfl) E q13))) (gE ok3 fun a5 s3 ok4 D3 => ?_)); have F4 := F3.step0 D3.stp; have q14 := D3.kt q9 rfl; have q15 := D3.kt q10 rfl; have q16 := D3.kt q11 rfl; have o14 := Own.k0 o9 D3.stp; have o15 := Own.k0 o10 D3.stp; have o16 := OwnP.k0 o11 D3.stp; have o17 := Own.k0 o12 D3.stp; have o18 := Own.k0 o13 D3.stp; refine tn (wp_seq ?_)
  refine cond_p (p := (((i : Nat) : Int) < (((List.length N) : Nat) : Int))) (D3.dn 0 rfl rfl) (fun c1 => ?_) (fun c1 => ?_)
  ·
   have hb1 := hNb _ (mem_atD [] (show i < N.length by omega)); have hb2 := hWb _ (mem_atD [] (show i < W.length by omega))
   refine wp_skip (tn (wp_seq (wp_block (wp_seq ?_))))
   refine gI a5 s3 ok4 (gM q14 (gB 0 (gE ok4 fun a6 s4 ok5 D4 => ?_))); have q21 := D4.kt q15 rfl; have q23 := D4.kt (D3.kt q12 rfl) rfl; have o19 := Own.k0 o14 D4.stp; have o20 := Own.k0 o15 D4.stp; have o21 := OwnP.k0 o16 D4.stp; have o22 := Own.k0 o17 D4.stp; have o23 := Own.k0 o18 D4.stp; have q25 := D4.dn 1 rfl rfl; refine tn (wp_seq ?_)
   refine gI a6 s4 ok5 (gM q21 (gR (Pr.own 22 3 1 0 (List.map Ty.int ([] : List Int))) rfl (by intro A B E I J; exact rP ((y_lit0 (k := 22) Try.underlying22 Try.inf3).mono (fun _ _ h => cvo (by simp) (by simp) h))) (gM q23 (gT (Ty.val tv) rfl (fun A B E I J d0 => rP (y_nilp (OwnP.k0 o21 E) (ed d0 rfl rfl rfl))) (gT (Ty.val (ptrAt tv 0)) rfl (fun A B E I J d0 => rP (ownp_field Try.fld106_0 Try.inf24 (by decide) (OwnP.k0 o21 E) (ed d0 rfl rfl rfl))) (gS rfl (fun A B E I J d0 => rP (ownp_load Try.underlying24 rfl (OwnP.k0 o21 E) (ed d0 rfl rfl rfl) rfl)) (gM q25 (gT (Ty.val (cellPtr nx i)) rfl (fun A B E I J d0 d1 => rP (own_index1 (i := ((i : Nat) : Int)) Try.underlying24 Try.inf22 (Own.k0 o22 E) (ed d0 rfl rfl rfl) (ed d1 rfl rfl rfl) (by omega) (by omega))) (gS rfl (fun A B E I J d0 => rP (own_load Try.underlying22 rfl (Own.k0 o22 E) (ed d0 rfl rfl rfl) (lst_get Ty.ints N [] i (by omega)))) (gE2 ok5 fun a7 s5 ok6 D5 => ?_)))))))))); have o24 := Own.k0 o19 D5.stp; have o25 := Own.k0 o20 D5.stp; have o26 := OwnP.k0 o21 D5.stp; have o27 := Own.k0 o22 D5.stp; have o28 := Own.k0 o23 D5.stp
   have q32 : At (Ty.val x2_0) s5 a7 (.tmp 13) := D5.done 0 (by decide)
   obtain ⟨x1, hx1⟩ : ∃ x, a7.eval (.tmp 14) = x := ⟨_, rfl⟩
   have q33 : At (Ty.val x1) s5 a7 (.tmp 14) := hx1
   have o29 := al2 (R := (Pr.own 22 3 1 0 (List.map Ty.int ([] : List Int)))) hx1 (D5.done 1 (by decide))
   have q34 := D5.dn 8 (by decide) rfl rfl
   have b1 := sl_le q34
   refine tL ok6 (YldM.toL (m_append Try.underlying22 Try.inf3 (by decide) rfl (by decide) (al (R := (Pr.own 22 3 1 0 (List.map Ty.int ([] : List Int)))) q33 o29) q34 (one_map (fun _ => one_val rfl)) (by omega) (by omega))) fun a8 s6 hs1 ok7 r1 sm1 => ?_
   have F7 := ((F4.step0 D4.stp).step0 D5.stp).sl hs1; have q35 := kq hs1 sm1 10 (D5.kt (D4.kt q14 rfl) rfl); have q36 := kq hs1 sm1 2 (D5.kt q21 rfl); have q37 := kq hs1 sm1 3 (D5.kt (D4.kt q16 rfl) rfl); have q38 := kq hs1 sm1 0 (D5.kt q23 rfl); have q39 := kq hs1 sm1 9 (D5.kt (D4.kt (D3.kt q13 rfl) rfl) rfl); have q40 := kq hs1 sm1 4 (D5.kt q25 rfl); have q41 := kq hs1 sm1 13 q32; have o31 := Own.kl o24 hs1; have o32 := Own.kl o25 hs1; have o33 := OwnP.kl o26 hs1; have o34 := Own.kl o27 hs1; have o35 := Own.kl o28 hs1
   obtain ⟨x2, hx2⟩ : ∃ x, a8.eval (.tmp 22) = x := ⟨_, rfl⟩
   have q42 : At (Ty.val x2) s6 a8 (.tmp 22) := hx2
   have o30 := al2 (R := (Pr.own 22 3 1 (List.length (N.getD i [])) (List.map Ty.int (N.getD i [])))) hx2 (cvo (by first | (simp; done) | (simp; omega)) (by first | (rw [List.map_append]; rfl) | simp) r1)
   clear r1
   obtain ⟨t3, e1, h1, q43⟩ := Own.seal o30 (by decide)
   rw [← e1]
   have F8 := F7.step h1 (by decide); have o36 := Own.keepL o31 (h1.toL (L := [22]) (by simp)) (by decide) (by decide); have o37 := Own.keepL o32 (h1.toL (L := [22]) (by simp)) (by decide) (by decide); have o38 := OwnP.keepL o33 (h1.toL (L := [22]) (by simp)) (by decide) (by decide); have o39 := Own.keepL o34 (h1.toL (L := [22]) (by simp)) (by decide) (by decide); have o40 := Own.keepL o35 (h1.toL (L := [22]) (by simp)) (by decide) (by decide); have q44 := Ty.up (Ty.nat i) (h1.le (by decide)) q35; have q45 := Ty.up (Ty.val x2_0) (h1.le (by decide)) q36; have q46 := Ty.up (Ty.val x3_0) (h1.le (by decide)) q37; have q47 := Ty.up (Ty.val tv) (h1.le (by decide)) q38; have q48 := Ty.up (Ty.nat (List.length N)) (h1.le (by decide)) q39; have q49 := Ty.up (Ty.nat i) (h1.le (by decide)) q40; have q50 := Ty.up (Ty.val x2_0) (h1.le (by decide)) q41
   have q51 : At (Ty.lst Ty.int (N.getD i [])) t3 a8 (.tmp 22) := by have e : a8.eval (.tmp 22) = x2 := q42; show Ty.has _ _ _; rw [e]; exact q43
   refine tL (R := (fun v τ => Pr.has (Ty.pr (Ty.sl 1 1 [(Ty.lst Ty.int (N.getD i []))])) τ v)) ok7 (Yld.toL (y_build1o Try.underlying24 Try.inf22 rfl (one_sl) q51)) fun a9 s7 hs2 ok8 r2 sm2 => ?_
   have F9 := F8.sl hs2; have q52 := kq hs2 sm2 10 q44; have q53 := kq hs2 sm2 2 q45; have q54 := kq hs2 sm2 3 q46; have q55 := kq hs2 sm2 0 q47; have q56 := kq hs2 sm2 9 q48; have q57 := kq hs2 sm2 4 q49; have q58 := kq hs2 sm2 13 q50; have o41 := Own.kl o36 hs2; have o42 := Own.kl o37 hs2; have o43 := OwnP.kl o38 hs2; have o44 := Own.kl o39 hs2; have o45 := Own.kl o40 hs2
   have q59 : At (Ty.sl 1 1 [(Ty.lst Ty.int (N.getD i []))]) s7 a9 (.tmp 23) := r2
   clear r2
   refine tL ok8 (YldM.toL (m_append Try.underlying24 Try.inf22 (by decide) rfl (by decide) (al (R := (Pr.own 20 22 1 (List.length (N.take i)) (List.map Ty.ints (N.take i)))) q58 o41) q59 (by intro U hU; simp at hU; subst hU; exact one_sl) (by omega) (by omega))) fun a10 s8 hs3 ok9 r3 sm3 => ?_
   have F10 := F9.sl hs3; have q60 := kq hs3 sm3 10 q52; have q61 := kq hs3 sm3 2 q53; have q62 := kq hs3 sm3 3 q54; have q63 := kq hs3 sm3 0 q55; have q64 := kq hs3 sm3 9 q56; have q65 := kq hs3 sm3 4 q57; have o47 := Own.kl o42 hs3; have o48 := OwnP.kl o43 hs3; have o49 := Own.kl o44 hs3; have o50 := Own.kl o45 hs3
   obtain ⟨x3, hx3⟩ : ∃ x, a10.eval (.tmp 24) = x := ⟨_, rfl⟩
   have q66 : At (Ty.val x3) s8 a10 (.tmp 24) := hx3
   have o46 := al2 (R := (Pr.own 20 22 1 (List.length ((N.take i) ++ [(N.getD i [])])) (List.map Ty.ints ((N.take i) ++ [(N.getD i [])])))) hx3 (cvo (by simp) (by first | (rw [List.map_append]; rfl) | simp) r3)
   clear r3
   refine tL ok9 (Yld.toL (y_as q66)) fun a11 s9 hs4 ok10 r4 sm4 => ?_
   have F11 := F10.sl hs4; have q67 := kq hs4 sm4 10 q60; have q68 := kq hs4 sm4 3 q62; have q69 := kq hs4 sm4 0 q63; have q70 := kq hs4 sm4 9 q64; have q71 := kq hs4 sm4 4 q65; have o51 := Own.kl o47 hs4; have o52 := OwnP.kl o48 hs4; have o53 := Own.kl o49 hs4; have o54 := Own.kl o50 hs4; have o55 := Own.kl o46 hs4
   have q72 : At (Ty.val x3) s9 a11 (.tmp 2) := r4
   clear r4; refine wpList_nil (tn ?_)
   refine gI a11 s9 ok10 (gM q68 (gR (Pr.own 23 3 1 0 (List.map Ty.int ([] : List Int))) rfl (by intro A B E I J; exact rP ((y_lit0 (k := 23) Try.underlying22 Try.inf3).mono (fun _ _ h => cvo (by simp) (by simp) h))) (gM q69 (gT (Ty.val tv) rfl (fun A B E I J d0 => rP (y_nilp (OwnP.k0 o52 E) (ed d0 rfl rfl rfl))) (gT (Ty.val (ptrAt tv 1)) rfl (fun A B E I J d0 => rP (ownp_field Try.fld106_1 Try.inf24 (by decide) (OwnP.k0 o52 E) (ed d0 rfl rfl rfl))) (gS rfl (fun A B E I J d0 => rP (ownp_load Try.underlying24 rfl (OwnP.k0 o52 E) (ed d0 rfl rfl rfl) rfl)) (gM q71 (gT (Ty.val (cellPtr wd i)) rfl (fun A B E I J d0 d1 => rP (own_index1 (i := ((i : Nat) : Int)) Try.underlying24 Try.inf22 (Own.k0 o54 E) (ed d0 rfl rfl rfl) (ed d1 rfl rfl rfl) (by omega) (by omega))) (gS rfl (fun A B E I J d0 => rP (own_load Try.underlying22 rfl (Own.k0 o54 E) (ed d0 rfl rfl rfl) (lst_get Ty.ints W [] i (by omega)))) (gE2 ok10 fun a12 s10 ok11 D6 => ?_)))))))))); have o56 := Own.k0 o51 D6.stp; have o57 := OwnP.k0 o52 D6.stp; have o58 := Own.k0 o53 D6.stp; have o59 := Own.k0 o54 D6.stp; have o60 := Own.k0 o55 D6.stp
   have q78 : At (Ty.val x3_0) s10 a12 (.tmp 25) := D6.done 0 (by decide)
   obtain ⟨x4, hx4⟩ : ∃ x, a12.eval (.tmp 26) = x := ⟨_, rfl⟩
   have q79 : At (Ty.val x4) s10 a12 (.tmp 26) := hx4
   have o61 := al2 (R := (Pr.own 23 3 1 0 (List.map Ty.int ([] : List Int)))) hx4 (D6.done 1 (by decide))
   have q80 := D6.dn 8 (by decide) rfl rfl
   have b2 := sl_le q80
   refine tL ok11 (YldM.toL (m_append Try.underlying22 Try.inf3 (by decide) rfl (by decide) (al (R := (Pr.own 23 3 1 0 (List.map Ty.int ([] : List Int)))) q79 o61) q80 (one_map (fun _ => one_val rfl)) (by omega) (by omega))) fun a13 s11 hs5 ok12 r5 sm5 => ?_
   have F13 := (F11.step0 D6.stp).sl hs5; have q81 := kq hs5 sm5 10 (D6.kt q67 rfl); have q82 := kq hs5 sm5 3 (D6.kt q68 rfl); have q83 := kq hs5 sm5 0 (D6.kt q69 rfl); have q84 := kq hs5 sm5 9 (D6.kt q70 rfl); have q85 := kq hs5 sm5 2 (D6.kt q72 rfl); have q86 := kq hs5 sm5 25 q78; have o63 := Own.kl o56 hs5; have o64 := OwnP.kl o57 hs5; have o65 := Own.kl o58 hs5; have o66 := Own.kl o59 hs5; have o67 := Own.kl o60 hs5
   obtain ⟨x5, hx5⟩ : ∃ x, a13.eval (.tmp 34) = x := ⟨_, rfl⟩
   have q87 : At (Ty.val x5) s11 a13 (.tmp 34) := hx5
   have o62 := al2 (R := (Pr.own 23 3 1 (List.length (W.getD i [])) (List.map Ty.int (W.getD i [])))) hx5 (cvo (by first | (simp; done) | (simp; omega)) (by first | (rw [List.map_append]; rfl) | simp) r5)
   clear r5
   obtain ⟨t4, e2, h2, q88⟩ := Own.seal o62 (by decide)
   rw [← e2]
   have F14 := F13.step h2 (by decide); have o68 := Own.keepL o63 (h2.toL (L := [23]) (by simp)) (by decide) (by decide); have o69 := OwnP.keepL o64 (h2.toL (L := [23]) (by simp)) (by decide) (by decide); have o70 := Own.keepL o65 (h2.toL (L := [23]) (by simp)) (by decide) (by decide); have o71 := Own.keepL o66 (h2.toL (L := [23]) (by simp)) (by decide) (by decide); have o72 := Own.keepL o67 (h2.toL (L := [23]) (by simp)) (by decide) (by decide); have q89 := Ty.up (Ty.nat i) (h2.le (by decide)) q81; have q90 := Ty.up (Ty.val x3_0) (h2.le (by decide)) q82; have q91 := Ty.up (Ty.val tv) (h2.le (by decide)) q83; have q92 := Ty.up (Ty.nat (List.length N)) (h2.le (by decide)) q84; have q93 := Ty.up (Ty.val x3) (h2.le (by decide)) q85; have q94 := Ty.up (Ty.val x3_0) (h2.le (by decide)) q86
   have q95 : At (Ty.lst Ty.int (W.getD i [])) t4 a13 (.tmp 34) := by have e : a13.eval (.tmp 34) = x5 := q87; show Ty.has _ _ _; rw [e]; exact q88
   refine tL (R := (fun v τ => Pr.has (Ty.pr (Ty.sl 1 1 [(Ty.lst Ty.int (W.getD i []))])) τ v)) ok12 (Yld.toL (y_build1o Try.underlying24 Try.inf22 rfl (one_sl) q95)) fun a14 s12 hs6 ok13 r6 sm6 => ?_
   have F15 := F14.sl hs6; have q96 := kq hs6 sm6 10 q89; have q97 := kq hs6 sm6 3 q90; have q98 := kq hs6 sm6 0 q91; have q99 := kq hs6 sm6 9 q92; have q100 := kq hs6 sm6 2 q93; have q101 := kq hs6 sm6 25 q94; have o73 := Own.kl o68 hs6; have o74 := OwnP.kl o69 hs6; have o75 := Own.kl o70 hs6; have o76 := Own.kl o71 hs6; have o77 := Own.kl o72 hs6
   have q102 : At (Ty.sl 1 1 [(Ty.lst Ty.int (W.getD i []))]) s12 a14 (.tmp 35) := r6
   clear r6
   refine tL ok13 (YldM.toL (m_append Try.underlying24 Try.inf22 (by decide) rfl (by decide) (al (R := (Pr.own 21 22 1 (List.length (W.take i)) (List.map Ty.ints (W.take i)))) q101 o73) q102 (by intro U hU; simp at hU; subst hU; exact one_sl) (by omega) (by omega))) fun a15 s13 hs7 ok14 r7 sm7 => ?_
   have F16 := F15.sl hs7; have q103 := kq hs7 sm7 10 q96; have q104 := kq hs7 sm7 3 q97; have q105 := kq hs7 sm7 0 q98; have q106 := kq hs7 sm7 9 q99; have q107 := kq hs7 sm7 2 q100; have o79 := OwnP.kl o74 hs7; have o80 := Own.kl o75 hs7; have o81 := Own.kl o76 hs7; have o82 := Own.kl o77 hs7
   obtain ⟨x6, hx6⟩ : ∃ x, a15.eval (.tmp 36) = x := ⟨_, rfl⟩
   have q108 : At (Ty.val x6) s13 a15 (.tmp 36) := hx6
   have o78 := al2 (R := (Pr.own 21 22 1 (List.length ((W.take i) ++ [(W.getD i [])])) (List.map Ty.ints ((W.take i) ++ [(W.getD i [])])))) hx6 (cvo (by simp) (by first | (rw [List.map_append]; rfl) | simp) r7)
   clear r7
   refine tL ok14 (Yld.toL (y_as q108)) fun a16 s14 hs8 ok15 r8 sm8 => ?_
   have F17 := F16.sl hs8; have q109 := kq hs8 sm8 10 q103; have q110 := kq hs8 sm8 0 q105; have q111 := kq hs8 sm8 9 q106; have q112 := kq hs8 sm8 2 q107; have o83 := OwnP.kl o79 hs8; have o84 := Own.kl o80 hs8; have o85 := Own.kl o81 hs8; have o86 := Own.kl o82 hs8; have o87 := Own.kl o78 hs8
   have q113 : At (Ty.val x6) s14 a16 (.tmp 3) := r8
   clear r8; refine wpList_nil (bn (tn ?_))
   refine gI a16 s14 ok15 (gT (Ty.nat (i + 1)) rfl (fun A B E I J => rP ((y_add (kp (J 10 rfl) E q109) rfl (w64 (by omega) (by omega))).mono (fun τ _ h => cvi (σ := τ) (by first | omega | exact (Int.natCast_mul _ _).symm) h))) (gS rfl (fun A B E I J d0 => rP (y_move (ed d0 rfl rfl rfl))) (gE ok15 fun a17 s15 ok16 D7 => ?_))); have o88 := OwnP.k0 o83 D7.stp; have o89 := Own.k0 o84 D7.stp; have o90 := Own.k0 o85 D7.stp; have o91 := Own.k0 o86 D7.stp; have o92 := Own.k0 o87 D7.stp
   exact tn ⟨N.length - ((i+1)), by omega, s15, (i+1), x3, x6, rfl, (F17.step0 D7.stp), ok16, (cvi (by (first | rfl | omega | (simp_all; done) | (simp_all; omega))) (D7.dn 1 rfl rfl)), (D7.kt q112 rfl), (D7.kt q113 rfl), (D7.kt q110 rfl), (D7.kt q111 rfl), (cvo (by (first | rfl | (rw [take_snoc N [] i (by omega)]; done) | (rw [take_snoc N [] i (by omega)]; simp; done))) (by (first | rfl | (rw [take_snoc N [] i (by omega)]; done) | (rw [take_snoc N [] i (by omega)]; simp; done))) o91), (cvo (by (first | rfl | (rw [take_snoc W [] i (by omega)]; done) | (rw [take_snoc W [] i (by omega)]; simp; done))) (by (first | rfl | (rw [take_snoc W [] i (by omega)]; done) | (rw [take_snoc W [] i (by omega)]; simp; done))) o92), o88, o89, o90, by omega, rfl⟩
  ·
   have ei : i = N.length := (by omega)
   refine wp_exit (tx (tx (bx (tn (wp_seq ?_)))))
   refine gI a5 s3 ok4 (gM q15 (gM q16 (gB 0 (gB 0 (gE ok4 fun a18 s16 ok17 D8 => ?_))))); have o93 := Own.k0 o14 D8.stp; have o94 := Own.k0 o15 D8.stp; have o95 := OwnP.k0 o16 D8.stp; have o96 := Own.k0 o17 D8.stp; have o97 := Own.k0 o18 D8.stp
   have q119 : At (Ty.val x2_0) s16 a18 (.tmp 2) := D8.done 2
   have q120 : At (Ty.val x3_0) s16 a18 (.tmp 3) := D8.done 3
   refine tn (wp_ret ?_)
   obtain ⟨t5, e3, h3, q121⟩ := Own.seal o93 (by decide)
   rw [← e3]
   have F20 := (F4.step0 D8.stp).step h3 (by decide); have o98 := Own.keepL o94 (h3.toL (L := [20]) (by simp)) (by decide) (by decide); have o99 := OwnP.keepL o95 (h3.toL (L := [20]) (by simp)) (by decide) (by decide); have o100 := Own.keepL o96 (h3.toL (L := [20]) (by simp)) (by decide) (by decide); have o101 := Own.keepL o97 (h3.toL (L := [20]) (by simp)) (by decide) (by decide)
   have q122 : At (Ty.lst Ty.ints (N.take i)) t5 a18 (.tmp 2) := by have e : a18.eval (.tmp 2) = x2_0 := q119; show Ty.has _ _ _; rw [e]; exact q121
   have q123 := Ty.up (Ty.val x3_0) (h3.le (by decide)) q120
   obtain ⟨t6, e4, h4, q124⟩ := Own.seal o98 (by decide)
   rw [← e4]
   have F21 := F20.step h4 (by decide); have o102 := OwnP.keepL o99 (h4.toL (L := [21]) (by simp)) (by decide) (by decide); have o103 := Own.keepL o100 (h4.toL (L := [21]) (by simp)) (by decide) (by decide); have o104 := Own.keepL o101 (h4.toL (L := [21]) (by simp)) (by decide) (by decide); have q125 := Ty.up (Ty.lst Ty.ints (N.take i)) (h4.le (by decide)) q122
   have q126 : At (Ty.lst Ty.ints (W.take i)) t6 a18 (.tmp 3) := by have e : a18.eval (.tmp 3) = x3_0 := q123; show Ty.has _ _ _; rw [e]; exact q124
   exact retL2 rfl ok17 F21 ⟨(hasT2 (cvt (by (rw [ei, List.take_length])) q125) (cvt (by (rw [ei, ← hl, List.take_length])) q126)), o102, o103, o104⟩


set_option maxHeartbeats 4000000 in
set_option maxRecDepth 100000 in
theorem gGen_fn (gv : Value) (gs : Value) (cs : Value) (n : Nat) (gens : List (List Int)) (k : Int) (σ : GW) (hlow : Low [41, 43] σ) (v0 v1 : Value) (hv0 : Ty.has (Ty.val gv) σ v0) (hv1 : Ty.has (Ty.int k) σ v1) (ho_gv : OwnP σ 41 gv [(Ty.nat n), (Ty.val gs), (Ty.val cs)]) (ho_gs : Own σ 43 22 1 gs (List.length gens) (List.map Ty.ints gens)) (hG : ∀ x ∈ gens, RowN n x) (hGl : gens.length ≤ 1000000) (hk0 : k ≠ 0) (hk1 : k ≤ gens.length) (hk2 : -(gens.length : Int) ≤ k) :
    FnL Try.prog 75 #[v0, v1] σ [41, 43] (fun v τ => (Ty.has (Ty.lst Ty.int (genL gens k)) τ v) ∧ (OwnP τ 41 gv [(Ty.nat n), (Ty.val gs), (Ty.val cs)]) ∧ (Own τ 43 22 1 gs (List.length gens) (List.map Ty.ints gens))) := by
 refine fn_introL hlow Try.func75 rfl Try.ntmps75 (Nat.le_of_ble_eq_true rfl) (fun a0 F0 ok0 hargs => ?_)
 have p0 := pB (hargs 0 _ rfl) hv0
 have p1 := pB (hargs 1 _ rfl) hv1
 clear hargs; refine wp_seq ?_
 refine gI a0 σ ok0 (gC (Ty.val (Value.slice none 0 0)) (gE ok0 fun a1 s1 ok1 D1 => ?_)); have q2 := D1.kt p1 rfl; have o1 := OwnP.k0 ho_gv D1.stp; have o2 := Own.k0 ho_gs D1.stp; refine tn (wp_seq (wp_seq ?_))
 refine gI a1 s1 ok1 (gM q2 (gS rfl (fun A B E I J d0 => rP (y_lss (ed d0 rfl rfl rfl) rfl)) (gE ok1 fun a2 s2 ok2 D2 => ?_))); have F2 := (F0.step0 D1.stp).step0 D2.stp; have q3 := D2.kt (D1.kt p0 rfl) rfl; have q4 := D2.kt q2 rfl; have o3 := OwnP.k0 o1 D2.stp; have o4 := Own.k0 o2 D2.stp; refine tn ?_
 refine cond_p (p := (k < (0 : Int))) (D2.dn 1 rfl rfl) (fun c1 => ?_) (fun c1 => ?_)
 ·
  have hrr := (hG _ (mem_atD [] (show (-k - 1).toNat < gens.length by omega))).row
  refine wp_seq ?_
  refine gI a2 s2 ok2 (gM q3 (gT (Ty.val gv) rfl (fun A B E I J d0 => rP (y_nilp (OwnP.k0 o3 E) (ed d0 rfl rfl rfl))) (gT (Ty.val (ptrAt gv 1)) rfl (fun A B E I J d0 => rP (ownp_field Try.fld95_1 Try.inf24 (by decide) (OwnP.k0 o3 E) (ed d0 rfl rfl rfl))) (gS rfl (fun A B E I J d0 => rP (ownp_load Try.underlying24 rfl (OwnP.k0 o3 E) (ed d0 rfl rfl rfl) rfl)) (gM q4 (gT (Ty.int (-k)) rfl (fun A B E I J d0 => rP (y_neg (ed d0 rfl rfl rfl) (w64 (by omega) (by omega)))) (gT (Ty.int ((-k) - (1 : Int))) rfl (fun A B E I J d0 => rP (y_sub (ed d0 rfl rfl rfl) rfl (w64 (by omega) (by omega)))) (gT (Ty.val (cellPtr gs (((-k) - (1 : Int))).toNat)) rfl (fun A B E I J d0 d1 => rP (own_index1 (i := ((-k) - (1 : Int))) Try.underlying24 Try.inf22 (Own.k0 o4 E) (ed d0 rfl rfl rfl) (ed d1 rfl rfl rfl) (by omega) (by omega))) (gS rfl (fun A B E I J d0 => rP (own_load Try.underlying22 rfl (Own.k0 o4 E) (ed d0 rfl rfl rfl) (lst_get Ty.ints gens [] (((-k) - (1 : Int))).toNat (by omega)))) (gS rfl (fun A B E I J d0 => rP (y_call _ Try.func65 rfl rfl my1 (inverse_fn ((gens.getD (((-k) - (1 : Int))).toNat [])) _ _ (ed d0 rfl rfl rfl) (by assumption)))) (gB 0 (gE ok2 fun a3 s3 ok3 D3 => ?_)))))))))))); have o5 := OwnP.k0 o3 D3.stp; have o6 := Own.k0 o4 D3.stp; refine tn (wp_ret (tr ?_))
  exact retL1 rfl ok3 (F2.step0 D3.stp) ⟨(cvt (by (unfold genL; rw [if_pos c1])) (D3.dn 10 rfl rfl)), o5, o6⟩
 ·
  refine wp_skip (tn (wp_seq ?_))
  refine gI a2 s2 ok2 (gM q3 (gT (Ty.val gv) rfl (fun A B E I J d0 => rP (y_nilp (OwnP.k0 o3 E) (ed d0 rfl rfl rfl))) (gT (Ty.val (ptrAt gv 1)) rfl (fun A B E I J d0 => rP (ownp_field Try.fld95_1 Try.inf24 (by decide) (OwnP.k0 o3 E) (ed d0 rfl rfl rfl))) (gS rfl (fun A B E I J d0 => rP (ownp_load Try.underlying24 rfl (OwnP.k0 o3 E) (ed d0 rfl rfl rfl) rfl)) (gM q4 (gT (Ty.int (k - (1 : Int))) rfl (fun A B E I J d0 => rP (y_sub (ed d0 rfl rfl rfl) rfl (w64 (by omega) (by omega)))) (gT (Ty.val (cellPtr gs ((k - (1 : Int))).toNat)) rfl (fun A B E I J d0 d1 => rP (own_index1 (i := (k - (1 : Int))) Try.underlying24 Try.inf22 (Own.k0 o4 E) (ed d0 rfl rfl rfl) (ed d1 rfl rfl rfl) (by omega) (by omega))) (gS rfl (fun A B E I J d0 => rP (own_load Try.underlying22 rfl (Own.k0 o4 E) (ed d0 rfl rfl rfl) (lst_get Ty.ints gens [] ((k - (1 : Int))).toNat (by omega)))) (gB 0 (gE ok2 fun a4 s4 ok4 D4 => ?_)))))))))); have o7 := OwnP.k0 o3 D4.stp; have o8 := Own.k0 o4 D4.stp; refine tn (wp_ret ?_)
  exact retL1 rfl ok4 (F2.step0 D4.stp) ⟨(cvt (by (unfold genL; rw [if_neg c1])) (D4.dn 8 rfl rfl)), o7, o8⟩


set_option maxHeartbeats 4000000 in
set_option maxRecDepth 100000 in
theorem gSay_fn (gv : Value) (gs : Value) (cs : Value) (n : Nat) (gens : List (List Int)) (w : List Int) (σ : GW) (hlow : Low [41, 43] σ) (v0 v1 : Value) (hv0 : Ty.has (Ty.val gv) σ v0) (hv1 : Ty.has (Ty.lst Ty.int w) σ v1) (ho_gv : OwnP σ 41 gv [(Ty.nat n), (Ty.val gs), (Ty.val cs)]) (ho_gs : Own σ 43 22 1 gs (List.length gens) (List.map Ty.ints gens)) (hn : 1 ≤ n ∧ n ≤ 12) (hG : ∀ x ∈ gens, RowN n x) (hGl : gens.length ≤ 1000000) :
    FnL Try.prog 44 #[v0, v1] σ [41, 43] (fun v τ => (Ty.has (Ty.tup2 (Ty.lst Ty.int (sayR n gens w)) (Ty.int (sayE gens w))) τ v) ∧ (OwnP τ 41 gv [(Ty.nat n), (Ty.val gs), (Ty.val cs)]) ∧ (Own τ 43 22 1 gs (List.length gens) (List.map Ty.ints gens))) := by
 refine fn_introL hlow Try.func44 rfl Try.ntmps44 (Nat.le_of_ble_eq_true rfl) (fun a0 F0 ok0 hargs => ?_)
 have p0 := pB (hargs 0 _ rfl) hv0
 have p1 := pB (hargs 1 _ rfl) hv1
 have b1 := sl_le p1
 clear hargs; refine wp_seq ?_
 refine gI a0 σ ok0 (gC (Ty.val (Value.slice none 0 0)) (gC (Ty.int (0 : Int)) (gE ok0 fun a1 s1 ok1 D1 => ?_))); have q2 := D1.kt p1 rfl; have o1 := OwnP.k0 ho_gv D1.stp; have o2 := Own.k0 ho_gs D1.stp; refine tn (wp_seq (wp_seq ?_))
 refine gI a1 s1 ok1 (gM q2 (gS rfl (fun A B E I J d0 => rP (y_len Try.underlying22 (ed d0 rfl rfl rfl))) (gS rfl (fun A B E I J d0 => rP (y_gtr (ed d0 rfl rfl rfl) rfl)) (gE ok1 fun a2 s2 ok2 D2 => ?_)))); have F2 := (F0.step0 D1.stp).step0 D2.stp; have q3 := D2.kt (D1.kt p0 rfl) rfl; have o3 := OwnP.k0 o1 D2.stp; have o4 := Own.k0 o2 D2.stp; refine tn ?_
 refine cond_p (p := ((20000 : Int) < (((List.length w) : Nat) : Int))) (D2.dn 2 rfl rfl) (fun c1 => ?_) (fun c1 => ?_)
 ·
  obtain ⟨hE, hR⟩ := say_3 (n := n) (G := gens) (w := w) (by omega)
  refine wp_seq ?_
  refine gI a2 s2 ok2 (gC (Ty.val (Value.slice none 0 0)) (gC (Ty.int (3 : Int)) (gE ok2 fun a3 s3 ok3 D3 => ?_))); have o5 := OwnP.k0 o3 D3.stp; have o6 := Own.k0 o4 D3.stp; refine tn (wp_ret (tr ?_))
  exact retL2 rfl ok3 (F2.step0 D3.stp) ⟨(hasT2 (nil_lst (by (rw [hR])) (D3.dn 0 rfl rfl)) (cvi (by (rw [hE])) (D3.dn 1 rfl rfl))), o5, o6⟩
 ·
  have hw2 : ¬ 20000 < w.length := (by omega)
  refine wp_skip (tn (wp_seq ?_))
  refine gI a2 s2 ok2 (gM q3 (gT (Ty.val gv) rfl (fun A B E I J d0 => rP (y_nilp (OwnP.k0 o3 E) (ed d0 rfl rfl rfl))) (gT (Ty.val (ptrAt gv 0)) rfl (fun A B E I J d0 => rP (ownp_field Try.fld95_0 Try.inf3 (by decide) (OwnP.k0 o3 E) (ed d0 rfl rfl rfl))) (gS rfl (fun A B E I J d0 => rP (ownp_load Try.underlying3 rfl (OwnP.k0 o3 E) (ed d0 rfl rfl rfl) rfl)) (gS rfl (fun A B E I J d0 => rP (y_call _ Try.func74 rfl rfl my1 (rounds_fn (n) _ _ (ed d0 rfl rfl rfl) (by omega)))) (gS rfl (fun A B E I J d0 => rP (y_move (ed d0 rfl rfl rfl))) (gT (Ty.lst Ty.int (roundsL n)) rfl (fun A B E I J d0 => rP (y_ext2_0 (ed d0 rfl rfl rfl))) (gT (Ty.int (0 : Int)) rfl (fun A B E I J d0 d1 => rP (y_ext2_1 (ed d0 rfl rfl rfl))) (gB 0 (gB 0 (gE ok2 fun a4 s4 ok4 D4 => ?_))))))))))); have o7 := OwnP.k0 o3 D4.stp; have o8 := Own.k0 o4 D4.stp; refine tn (wp_seq (wp_seq ?_))
  refine gI a4 s4 ok4 (gM (D4.kt (D2.kt q2 rfl) rfl) (gS rfl (fun A B E I J d0 => rP (y_len Try.underlying22 (ed d0 rfl rfl rfl))) (gT (Ty.int (0 : Int)) rfl (fun A B E I J => rP (y_move rfl)) (gE ok4 fun a5 s5 ok5 D5 => ?_)))); have o9 := OwnP.k0 o7 D5.stp; have o10 := Own.k0 o8 D5.stp; refine tn (wp_block ?_)
  refine loop (fun n1 a6 w1 => ∃ (t1 : GW) (j : Nat), t1.w = w1 ∧ FromL [41, 43] σ t1 ∧ Ok 55 [] a6 ∧ At (Ty.nat j) t1 a6 (.tmp 23) ∧ At (Ty.lst Ty.int (sayT n gens w j)) t1 a6 (.tmp 6) ∧ At (Ty.val gv) t1 a6 (.tmp 0) ∧ At (Ty.lst Ty.int w) t1 a6 (.tmp 21) ∧ At (Ty.nat (List.length w)) t1 a6 (.tmp 22) ∧ OwnP t1 41 gv [(Ty.nat n), (Ty.val gs), (Ty.val cs)] ∧ Own t1 43 22 1 gs (List.length gens) (List.map Ty.ints gens) ∧ (j ≤ w.length) ∧ (badW gens w j = false) ∧ n1 = w.length - j) (w.length - (0)) ?_ ?_
  ·
   exact ⟨s5, 0, rfl, ((F2.step0 D4.stp).step0 D5.stp), ok5, (cvi (by (first | rfl | omega | (simp_all; done) | (simp_all; omega))) (D5.dn 2 rfl rfl)), (cvt (by (rfl)) (D5.kt (D4.dn 8 rfl rfl) rfl)), (D5.kt (D4.kt q3 rfl) rfl), (D5.dn 0 rfl rfl), (D5.dn 1 rfl rfl), o9, o10, by omega, rfl, rfl⟩
  ·
   rintro n2 a7 w2 ⟨t2, j, rfl, F6, ok6, q16, q17, q18, q19, q20, o11, o12, hj, hB, rfl⟩
   refine wp_seq ?_
   refine gI a7 t2 ok6 (gS rfl (fun A B E I J => rP (y_lss (kp (J 23 rfl) E q16) (kp (J 22 rfl) E q20))) (gE ok6 fun a8 s6 ok7 D6 => ?_)); have F7 := F6.step0 D6.stp; have q21 := D6.kt q16 rfl; have q22 := D6.kt q17 rfl; have q24 := D6.kt q19 rfl; have o13 := OwnP.k0 o11 D6.stp; have o14 := Own.k0 o12 D6.stp; refine tn (wp_seq ?_)
   refine cond_p (p := (((j : Nat) : Int) < (((List.length w) : Nat) : Int))) (D6.dn 0 rfl rfl) (fun c2 => ?_) (fun c2 => ?_)
   ·
    have hsr := say_row hn hG hB; have hsl := hsr.len
    refine wp_skip (tn (wp_seq (wp_block (wp_seq ?_))))
    refine gI a8 s6 ok7 (gT (Ty.ref [(Ty.int (w.getD j 0))]) rfl (fun A B E I J => rP (y_index1 Try.underlying22 Try.inf3 (kp (J 21 rfl) E q24) (kp (J 23 rfl) E q21) (by omega) (lst_get Ty.int w 0 j (by omega)))) (gS rfl (fun A B E I J d0 => rP (y_load Try.underlying3 rfl (ed d0 rfl rfl rfl) rfl)) (gB 0 (gE ok7 fun a9 s7 ok8 D7 => ?_)))); have q29 := D7.kt (D6.kt q18 rfl) rfl; have o15 := OwnP.k0 o13 D7.stp; have o16 := Own.k0 o14 D7.stp; have q32 := D7.dn 2 rfl rfl; refine tn (wp_seq (wp_seq ?_))
    refine gI a9 s7 ok8 (gM q32 (gS rfl (fun A B E I J d0 => rP (y_eql (ed d0 rfl rfl rfl) rfl)) (gS rfl (fun A B E I J d0 => rP (y_move (ed d0 rfl rfl rfl))) (gS rfl (fun A B E I J d0 => gu I (ed d0 rfl rfl rfl) fun hg => y_move (kp (J 9 rfl) E q32)) (gS rfl (fun A B E I J d0 => gu I (ed d0 rfl rfl rfl) fun hg => y_move (kp (J 0 rfl) E q29)) (gT (Ty.grd ((decide ((w.getD j 0) = (0 : Int))) = false) (Ty.val gv)) rfl (fun A B E I J d0 d1 => gu I (ed d1 rfl rfl rfl) fun hg => y_nilp (OwnP.k0 o15 E) ((ed d0 rfl rfl rfl).1 hg)) (gT (Ty.grd ((decide ((w.getD j 0) = (0 : Int))) = false) (Ty.val (ptrAt gv 1))) rfl (fun A B E I J d0 d1 => guf I (ed d1 rfl rfl rfl) fun hg hp => ownp_field Try.fld95_1 Try.inf24 (by decide) (OwnP.k0 o15 E) ((ed d0 rfl rfl rfl).1 hg)) (gS rfl (fun A B E I J d0 d1 => gu I (ed d1 rfl rfl rfl) fun hg => ownp_load Try.underlying24 rfl (OwnP.k0 o15 E) ((ed d0 rfl rfl rfl).1 hg) rfl) (gT (Ty.grd ((decide ((w.getD j 0) = (0 : Int))) = false) (Ty.nat (List.length gens))) rfl (fun A B E I J d0 d1 => gu I (ed d1 rfl rfl rfl) fun hg => own_len Try.underlying24 (al (R := (Pr.own 43 22 1 (List.length gens) (List.map Ty.ints gens))) ((ed d0 rfl rfl rfl).1 hg) (Own.k0 o16 E))) (gS rfl (fun A B E I J d0 d1 d2 => gu I (ed d2 rfl rfl rfl) fun hg => y_gtr ((ed d0 rfl rfl rfl).1 hg) ((ed d1 rfl rfl rfl).1 hg)) (gS rfl (fun A B E I J d0 d1 => rP (y_pick_or (ed d0 rfl rfl rfl) rfl (ed d1 rfl rfl rfl))) (gS rfl (fun A B E I J d0 d1 => rP (y_move (ed d0 rfl rfl rfl))) ?_))))))))))))
    refine gT (Ty.grd (((decide ((w.getD j 0) = (0 : Int))) || (decide ((((List.length gens) : Nat) : Int) < (w.getD j 0)))) = false) (Ty.int (w.getD j 0))) rfl (by intro A B E I J d0; refine run_guard I rfl rfl (by decide) (ed d0 rfl rfl rfl) (fun hg => ?_); obtain ⟨d1, d2⟩ := Bool.or_eq_false_iff.mp hg; have d1 := of_decide_eq_false d1; have d2 := of_decide_eq_false d2; exact y_move (kp (J 9 rfl) E q32)) (gT (Ty.grd (((decide ((w.getD j 0) = (0 : Int))) || (decide ((((List.length gens) : Nat) : Int) < (w.getD j 0)))) = false) (Ty.val gv)) rfl (by intro A B E I J d0; refine run_guard I rfl rfl (by decide) (ed d0 rfl rfl rfl) (fun hg => ?_); obtain ⟨d3, d4⟩ := Bool.or_eq_false_iff.mp hg; have d3 := of_decide_eq_false d3; have d4 := of_decide_eq_false d4; exact y_move (kp (J 0 rfl) E q29)) (gT (Ty.grd (((decide ((w.getD j 0) = (0 : Int))) || (decide ((((List.length gens) : Nat) : Int) < (w.getD j 0)))) = false) (Ty.val gv)) rfl (by intro A B E I J d0 d1; refine run_guard I rfl rfl (by decide) (ed d1 rfl rfl rfl) (fun hg => ?_); obtain ⟨d5, d6⟩ := Bool.or_eq_false_iff.mp hg; have d5 := of_decide_eq_false d5; have d6 := of_decide_eq_false d6; exact y_nilp (OwnP.k0 o15 E) ((ed d0 rfl rfl rfl).1 hg)) (gT (Ty.grd (((decide ((w.getD j 0) = (0 : Int))) || (decide ((((List.length gens) : Nat) : Int) < (w.getD j 0)))) = false) (Ty.val (ptrAt gv 1))) rfl (by intro A B E I J d0 d1; refine run_guard I rfl rfl (by decide) (ed d1 rfl rfl rfl) (fun hg => ?_); obtain ⟨d7, d8⟩ := Bool.or_eq_false_iff.mp hg; have d7 := of_decide_eq_false d7; have d8 := of_decide_eq_false d8; exact ownp_field Try.fld95_1 Try.inf24 (by decide) (OwnP.k0 o15 E) ((ed d0 rfl rfl rfl).1 hg)) ?_)))
    refine gT (Ty.grd (((decide ((w.getD j 0) = (0 : Int))) || (decide ((((List.length gens) : Nat) : Int) < (w.getD j 0)))) = false) (Ty.val gs)) rfl (by intro A B E I J d0 d1; refine run_guard I rfl rfl (by decide) (ed d1 rfl rfl rfl) (fun hg => ?_); obtain ⟨d9, d10⟩ := Bool.or_eq_false_iff.mp hg; have d9 := of_decide_eq_false d9; have d10 := of_decide_eq_false d10; exact ownp_load Try.underlying24 rfl (OwnP.k0 o15 E) ((ed d0 rfl rfl rfl).1 hg) rfl) (gT (Ty.grd (((decide ((w.getD j 0) = (0 : Int))) || (decide ((((List.length gens) : Nat) : Int) < (w.getD j 0)))) = false) (Ty.nat (List.length gens))) rfl (by intro A B E I J d0 d1; refine run_guard I rfl rfl (by decide) (ed d1 rfl rfl rfl) (fun hg => ?_); obtain ⟨d11, d12⟩ := Bool.or_eq_false_iff.mp hg; have d11 := of_decide_eq_false d11; have d12 := of_decide_eq_false d12; exact own_len Try.underlying24 (al (R := (Pr.own 43 22 1 (List.length gens) (List.map Ty.ints gens))) ((ed d0 rfl rfl rfl).1 hg) (Own.k0 o16 E))) (gT (Ty.grd (((decide ((w.getD j 0) = (0 : Int))) || (decide ((((List.length gens) : Nat) : Int) < (w.getD j 0)))) = false) (Ty.int (-(((List.length gens) : Nat) : Int)))) rfl (by intro A B E I J d0 d1; refine run_guard I rfl rfl (by decide) (ed d1 rfl rfl rfl) (fun hg => ?_); obtain ⟨d13, d14⟩ := Bool.or_eq_false_iff.mp hg; have d13 := of_decide_eq_false d13; have d14 := of_decide_eq_false d14; exact y_neg ((ed d0 rfl rfl rfl).1 hg) (w64 (by omega) (by omega))) (gT (Ty.grd (((decide ((w.getD j 0) = (0 : Int))) || (decide ((((List.length gens) : Nat) : Int) < (w.getD j 0)))) = false) (Ty.bool (decide ((w.getD j 0) < (-(((List.length gens) : Nat) : Int)))))) rfl (by intro A B E I J d0 d1 d2; refine run_guard I rfl rfl (by decide) (ed d2 rfl rfl rfl) (fun hg => ?_); obtain ⟨d15, d16⟩ := Bool.or_eq_false_iff.mp hg; have d15 := of_decide_eq_false d15; have d16 := of_decide_eq_false d16; exact y_lss ((ed d0 rfl rfl rfl).1 hg) ((ed d1 rfl rfl rfl).1 hg)) ?_)))
    refine gS rfl (fun A B E I J d0 d1 => rP (y_pick_or (ed d0 rfl rfl rfl) rfl (ed d1 rfl rfl rfl))) (gE ok8 fun a10 s8 ok9 D8 => ?_); have F9 := (F7.step0 D7.stp).step0 D8.stp; have q34 := D8.kt (D7.kt q22 rfl) rfl; have q35 := D8.kt q29 rfl; have o17 := OwnP.k0 o15 D8.stp; have o18 := Own.k0 o16 D8.stp; refine tn ?_
    refine cond_t (D8.dn 20 rfl rfl) (fun c3 => ?_) (fun c3 => ?_)
    ·
     simp only [Bool.or_eq_true, decide_eq_true_eq] at c3; obtain ⟨hE, hR⟩ := say_12 (n := n) (G := gens) (w := w) hw2 (badW_yes (G := gens) (show j < w.length by omega) (by omega))
     refine wp_seq ?_
     refine gI a10 s8 ok9 (gC (Ty.val (Value.slice none 0 0)) (gC (Ty.int (12 : Int)) (gE ok9 fun a11 s9 ok10 D9 => ?_))); have o19 := OwnP.k0 o17 D9.stp; have o20 := Own.k0 o18 D9.stp; refine tn (wp_ret (tr (br (tr (tr (br (tr ?_)))))))
     exact retL2 rfl ok10 (F9.step0 D9.stp) ⟨(hasT2 (nil_lst (by (rw [hR])) (D9.dn 0 rfl rfl)) (cvi (by (rw [hE])) (D9.dn 1 rfl rfl))), o19, o20⟩
    ·
     obtain ⟨d17, d18⟩ := Bool.or_eq_false_iff.mp c3
     obtain ⟨d19, d20⟩ := Bool.or_eq_false_iff.mp d17
     replace d19 := of_decide_eq_false d19
     replace d20 := of_decide_eq_false d20
     replace d18 := of_decide_eq_false d18
     simp only [Bool.or_eq_false_iff, decide_eq_false_iff_not] at c3; have hok : ¬ (w.getD j 0 = 0 ∨ (gens.length : Int) < w.getD j 0 ∨ w.getD j 0 < -(gens.length : Int)) := (by omega); have hB2 := badW_succ hB hok; have hgr := gen_row (n := n) hG (k := w.getD j 0) (by omega) (by omega) (by omega); have hgb := hgr.bds hsl; have hgl := hgr.len; have hsrr := hsr.row; have hgrr := hgr.row
     refine wp_skip (tn ?_)
     refine gI a10 s8 ok9 (gM q34 (gM q35 (gM (D8.kt q32 rfl) (gE2 ok9 fun a12 s10 ok11 D10 => ?_)))); have o21 := OwnP.k0 o17 D10.stp; have o22 := Own.k0 o18 D10.stp
     refine tL ok11 (y_callL (L := [41, 43]) [(41, 41), (43, 43)] [(41, 41), (43, 43)] #[a12.eval (.tmp 49), a12.eval (.tmp 50)] rfl (by decide) Try.func75 rfl rfl my2 (gGen_fn (gv) (gs) (cs) (n) (gens) ((w.getD j 0)) _ (GW.low_lend _ (by decide)) _ _ (Ty.up _ (GW.le_lend _ _) (D10.dn 1 (by decide) rfl rfl)) (Ty.up _ (GW.le_lend _ _) (cvi (σ := s10) (by first | omega | assumption) (D10.dn 2 (by decide) rfl rfl))) (OwnP.ren o21 (GW.ren_lend _ _ (by decide) rfl)) (Own.ren o22 (GW.ren_lend _ _ (by decide) rfl)) (by first | omega | assumption) (by first | omega | assumption) (by first | omega | assumption) (by first | omega | assumption) (by first | omega | assumption))) fun a13 s11 hs1 ok12 r1 sm1 => ?_
     have F12 := (F9.step0 D10.stp).sl hs1; have q50 := kq hs1 sm1 23 (D10.kt (D8.kt (D7.kt q21 rfl) rfl) rfl); have q51 := kq hs1 sm1 6 (D10.kt q34 rfl); have q52 := kq hs1 sm1 0 (D10.kt q35 rfl); have q53 := kq hs1 sm1 21 (D10.kt (D8.kt (D7.kt q24 rfl) rfl) rfl); have q54 := kq hs1 sm1 22 (D10.kt (D8.kt (D7.kt (D6.kt q20 rfl) rfl) rfl) rfl); have q55 := kq hs1 sm1 48 (D10.dn 0 (by decide) rfl rfl)
     obtain ⟨t3, ⟨hT1, o23, o24⟩, B1⟩ := r1
     have q56 : At (Ty.lst Ty.int (genL gens ((w.getD j 0)))) s11 a13 (.tmp 51) := Ty.up _ B1.le hT1
     have o25 : OwnP s11 41 gv [(Ty.nat n), (Ty.val gs), (Ty.val cs)] := OwnP.ren o23 (B1.ren (by decide) rfl)
     have o26 : Own s11 43 22 1 gs (List.length gens) (List.map Ty.ints gens) := Own.ren o24 (B1.ren (by decide) rfl)
     refine tL (R := (fun v τ => Pr.has (Ty.pr (Ty.lst Ty.int (byL ((sayT n gens w j)) ((genL gens ((w.getD j 0))))))) τ v)) ok12 (Yld.toL (y_call _ Try.func64 rfl rfl my2 (product_fn ((sayT n gens w j)) ((genL gens ((w.getD j 0)))) _ _ _ q55 q56 (by first | assumption | omega) (by first | assumption | omega) (by first | assumption | omega)))) fun a14 s12 hs2 ok13 r2 sm2 => ?_
     have F13 := F12.sl hs2; have q57 := kq hs2 sm2 23 q50; have q58 := kq hs2 sm2 6 q51; have q59 := kq hs2 sm2 0 q52; have q60 := kq hs2 sm2 21 q53; have q61 := kq hs2 sm2 22 q54; have o27 := OwnP.kl o25 hs2; have o28 := Own.kl o26 hs2
     have q62 : At (Ty.lst Ty.int (byL ((sayT n gens w j)) ((genL gens ((w.getD j 0)))))) s12 a14 (.tmp 52) := r2
     clear r2
     refine tL ok13 (Yld.toL (y_as q62)) fun a15 s13 hs3 ok14 r3 sm3 => ?_
     have F14 := F13.sl hs3; have q63 := kq hs3 sm3 23 q57; have q64 := kq hs3 sm3 0 q59; have q65 := kq hs3 sm3 21 q60; have q66 := kq hs3 sm3 22 q61; have o29 := OwnP.kl o27 hs3; have o30 := Own.kl o28 hs3
     have q67 : At (Ty.lst Ty.int (byL ((sayT n gens w j)) ((genL gens ((w.getD j 0)))))) s13 a15 (.tmp 6) := r3
     clear r3; refine wpList_nil (bn (tn ?_))
     refine gI a15 s13 ok14 (gT (Ty.nat (j + 1)) rfl (fun A B E I J => rP ((y_add (kp (J 23 rfl) E q63) rfl (w64 (by omega) (by omega))).mono (fun τ _ h => cvi (σ := τ) (by first | omega | exact (Int.natCast_mul _ _).symm) h))) (gS rfl (fun A B E I J d0 => rP (y_move (ed d0 rfl rfl rfl))) (gE ok14 fun a16 s14 ok15 D11 => ?_))); have o31 := OwnP.k0 o29 D11.stp; have o32 := Own.k0 o30 D11.stp
     exact tn ⟨w.length - ((j+1)), by omega, s14, (j+1), rfl, (F14.step0 D11.stp), ok15, (cvi (by (first | rfl | omega | (simp_all; done) | (simp_all; omega))) (D11.dn 1 rfl rfl)), (cvt (by (rfl)) (D11.kt q67 rfl)), (D11.kt q64 rfl), (D11.kt q65 rfl), (D11.kt q66 rfl), o31, o32, by omega, hB2, rfl⟩
   ·
    have ej : j = w.length := (by omega); obtain ⟨hE, hR⟩ := say_0 (n := n) hw2 (ej ▸ hB)
    refine wp_exit (tx (tx (bx (tn (wp_seq ?_)))))
    refine gI a8 s6 ok7 (gM q22 (gB 0 (gC (Ty.int (0 : Int)) (gE ok7 fun a17 s15 ok16 D12 => ?_)))); have o33 := OwnP.k0 o13 D12.stp; have o34 := Own.k0 o14 D12.stp; refine tn (wp_ret ?_)
    exact retL2 rfl ok16 (F7.step0 D12.stp) ⟨(hasT2 (cvt (by (rw [hR, ej])) (D12.dn 1 rfl rfl)) (cvi (by (rw [hE])) (D12.dn 2 rfl rfl))), o33, o34⟩


set_option maxHeartbeats 4000000 in
set_option maxRecDepth 100000 in
theorem cOf_fn (tv : Value) (nx : Value) (wd : Value) (mv : Value) (H : List (List Int)) (n : Nat) (G : List (List Int)) (R : List (List Int)) (f : Int → Option Int) (r : List Int) (σ : GW) (hlow : Low [41, 44] σ) (v0 v1 : Value) (hv0 : Ty.has (Ty.val tv) σ v0) (hv1 : Ty.has (Ty.lst Ty.int r) σ v1) (ho_tv : OwnP σ 41 tv [(Ty.val nx), (Ty.val wd), (Ty.lst Ty.ints H), (Ty.val mv)]) (ho_mv : OwnM Ty.int kI σ 44 mv f) (hP : PrtP n G H) (hf : PMap n H R f) (hRl : R.length ≤ 1000) :
    FnL Try.prog 38 #[v0, v1] σ [41, 44] (fun v τ => (Ty.has (Ty.tup2 (Ty.nat (ofK n H R r)) (Ty.int (ofE n H R r))) τ v) ∧ (OwnP τ 41 tv [(Ty.val nx), (Ty.val wd), (Ty.lst Ty.ints H), (Ty.val mv)]) ∧ (OwnM Ty.int kI τ 44 mv f)) := by
 have hn := hP.hn
 have hHr := hP.row
 have hH0 := List.length_pos_of_mem hP.one
 have hH0l := (hHr _ (mem_atD [] hH0)).len
 have hH0m : (H.getD (Int.toNat 0) []).length = n := hH0l
 refine fn_introL hlow Try.func38 rfl Try.ntmps38 (Nat.le_of_ble_eq_true rfl) (fun a0 F0 ok0 hargs => ?_)
 have p0 := pB (hargs 0 _ rfl) hv0
 have p1 := pB (hargs 1 _ rfl) hv1
 have b1 := sl_le p1
 clear hargs; refine wp_seq ?_
 refine gI a0 σ ok0 (gC (Ty.int (0 : Int)) (gC (Ty.int (0 : Int)) (gE ok0 fun a1 s1 ok1 D1 => ?_))); have q2 := D1.kt p1 rfl; have o1 := OwnP.k0 ho_tv D1.stp; have o2 := OwnM.k0 ho_mv D1.stp; refine tn (wp_seq (wp_seq ?_))
 refine gI a1 s1 ok1 (gM q2 (gS rfl (fun A B E I J d0 => rP (y_call _ Try.func72 rfl rfl my1 (rowCheck_fn (r) _ _ (ed d0 rfl rfl rfl) ))) (gB 0 (gE ok1 fun a2 s2 ok2 D2 => ?_)))); have o3 := OwnP.k0 o1 D2.stp; have o4 := OwnM.k0 o2 D2.stp; have q5 := D2.dn 2 rfl rfl; refine tn (wp_seq ?_)
 refine gI a2 s2 ok2 (gM q5 (gS rfl (fun A B E I J d0 => rP (y_neq (ed d0 rfl rfl rfl) rfl)) (gE ok2 fun a3 s3 ok3 D3 => ?_))); have F3 := ((F0.step0 D1.stp).step0 D2.stp).step0 D3.stp; have q6 := D3.kt (D2.kt (D1.kt p0 rfl) rfl) rfl; have q7 := D3.kt (D2.kt q2 rfl) rfl; have o5 := OwnP.k0 o3 D3.stp; have o6 := OwnM.k0 o4 D3.stp; refine tn ?_
 refine cond_p (p := ((rowMay r) ≠ (0 : Int))) (D3.dn 1 rfl rfl) (fun c1 => ?_) (fun c1 => ?_)
 ·
  obtain ⟨hE, hK⟩ := ofE_may (n := n) (H := H) (R := R) c1
  refine wp_seq ?_
  refine gI a3 s3 ok3 (gM (D3.kt q5 rfl) (gC (Ty.int (0 : Int)) (gB 0 (gE ok3 fun a4 s4 ok4 D4 => ?_)))); have o7 := OwnP.k0 o5 D4.stp; have o8 := OwnM.k0 o6 D4.stp; refine tn (wp_ret (tr ?_))
  exact retL2 rfl ok4 (F3.step0 D4.stp) ⟨(hasT2 (cvi (by (rw [hK]; rfl)) (D4.dn 1 rfl rfl)) (cvi (by (rw [hE])) (D4.dn 2 rfl rfl))), o7, o8⟩
 ·
  have hm0 : rowMay r = 0 := Classical.not_not.1 c1; have hrr := rowMay_ok.1 hm0
  refine wp_skip (tn (wp_seq (wp_seq ?_)))
  refine gI a3 s3 ok3 (gM q7 (gS rfl (fun A B E I J d0 => rP (y_len Try.underlying22 (ed d0 rfl rfl rfl))) (gM q6 (gT (Ty.val tv) rfl (fun A B E I J d0 => rP (y_nilp (OwnP.k0 o5 E) (ed d0 rfl rfl rfl))) (gT (Ty.val (ptrAt tv 2)) rfl (fun A B E I J d0 => rP (ownp_field Try.fld106_2 Try.inf24 (by decide) (OwnP.k0 o5 E) (ed d0 rfl rfl rfl))) (gS rfl (fun A B E I J d0 => rP (ownp_load Try.underlying24 rfl (OwnP.k0 o5 E) (ed d0 rfl rfl rfl) rfl)) (gT (Ty.ref [(Ty.lst Ty.int (H.getD ((0 : Int)).toNat []))]) rfl (fun A B E I J d0 => rP (y_index1 Try.underlying24 Try.inf22 (ed d0 rfl rfl rfl) rfl (by omega) (lst_get Ty.ints H [] ((0 : Int)).toNat (by omega)))) (gS rfl (fun A B E I J d0 => rP (y_load Try.underlying22 rfl (ed d0 rfl rfl rfl) rfl)) (gS rfl (fun A B E I J d0 => rP (y_len Try.underlying22 (ed d0 rfl rfl rfl))) (gS rfl (fun A B E I J d0 d1 => rP (y_neq (ed d0 rfl rfl rfl) (ed d1 rfl rfl rfl))) (gE ok3 fun a5 s5 ok5 D5 => ?_))))))))))); have F5 := F3.step0 D5.stp; have q12 := D5.kt q6 rfl; have o9 := OwnP.k0 o5 D5.stp; have o10 := OwnM.k0 o6 D5.stp; refine tn ?_
  refine cond_p (p := ((((List.length r) : Nat) : Int) ≠ (((List.length (H.getD ((0 : Int)).toNat [])) : Nat) : Int))) (D5.dn 9 rfl rfl) (fun c2 => ?_) (fun c2 => ?_)
  ·
   obtain ⟨hE, hK⟩ := ofE_len (n := n) (H := H) (R := R) hm0 (by omega)
   refine wp_seq ?_
   refine gI a5 s5 ok5 (gC (Ty.int (0 : Int)) (gC (Ty.int (1 : Int)) (gE ok5 fun a6 s6 ok6 D6 => ?_))); have o11 := OwnP.k0 o9 D6.stp; have o12 := OwnM.k0 o10 D6.stp; refine tn (wp_ret (tr ?_))
   exact retL2 rfl ok6 (F5.step0 D6.stp) ⟨(hasT2 (cvi (by (rw [hK]; rfl)) (D6.dn 0 rfl rfl)) (cvi (by (rw [hE])) (D6.dn 1 rfl rfl))), o11, o12⟩
  ·
   have hrl : r.length = n := (by omega); have hr : RowN n r := ⟨hrr, hrl⟩
   refine wp_skip (tn (wp_seq ?_))
   refine gI a5 s5 ok5 (gM q12 (gT (Ty.val tv) rfl (fun A B E I J d0 => rP (y_nilp (OwnP.k0 o9 E) (ed d0 rfl rfl rfl))) (gT (Ty.val (ptrAt tv 3)) rfl (fun A B E I J d0 => rP (ownp_field Try.fld106_3 Try.inf100 (by decide) (OwnP.k0 o9 E) (ed d0 rfl rfl rfl))) (gS rfl (fun A B E I J d0 => rP (ownp_load Try.underlying100 rfl (OwnP.k0 o9 E) (ed d0 rfl rfl rfl) rfl)) (gM q12 (gM (D5.kt q7 rfl) (gT (Ty.int (nmP H r)) rfl (fun A B E I J d0 d1 => rP (y_callp (R := (Ty.int (nmP H r))) #[A.eval (.tmp 29), A.eval (.tmp 30)] int_any (OwnP.seal (OwnP.k0 o9 E) (by decide)) (by decide) (ed d0 rfl rfl rfl) Try.func73 rfl rfl (by simp only [List.map_toArray, List.map_cons, List.map_nil]) (fun s_ hle_ hs_ => cName_fn (nx) (wd) (mv) (H) (n) (r) s_ _ _ hs_ (Ty.up (Ty.lst Ty.int r) hle_ (ed d1 rfl rfl rfl)) (by first | omega | assumption) (by first | omega | assumption) (by first | omega | assumption)))) (gT (Ty.tup2 (Ty.int ((f (nmP H r)).getD 0)) (Ty.bool (Option.isSome (f (nmP H r))))) rfl (fun A B E I J d0 d1 => rP (y_lookup2 (i := (nmP H r)) (z := 0) Try.underlying100 (keyInt Try.underlying3) Try.inf3 (fun _ => rfl) (OwnM.k0 o10 E) (ed d0 rfl rfl rfl) (ed d1 rfl rfl rfl))) (gS rfl (fun A B E I J d0 => rP (y_move (ed d0 rfl rfl rfl))) (gT (Ty.int ((f (nmP H r)).getD 0)) rfl (fun A B E I J d0 => rP (y_ext2_0 (ed d0 rfl rfl rfl))) (gT (Ty.bool (Option.isSome (f (nmP H r)))) rfl (fun A B E I J d0 d1 => rP (y_ext2_1 (ed d0 rfl rfl rfl))) (gB 0 (gB 0 (gE ok5 fun a7 s7 ok7 D7 => ?_)))))))))))))); have o13 := OwnP.k0 o9 D7.stp; have o14 := OwnM.k0 o10 D7.stp; refine tn (wp_seq (wp_seq ?_))
   refine gI a7 s7 ok7 (gM (D7.dn 12 rfl rfl) (gS rfl (fun A B E I J d0 => rP (y_not (ed d0 rfl rfl rfl))) (gE ok7 fun a8 s8 ok8 D8 => ?_))); have F8 := (F5.step0 D7.stp).step0 D8.stp; have o15 := OwnP.k0 o13 D8.stp; have o16 := OwnM.k0 o14 D8.stp; refine tn ?_
   refine cond_t (D8.dn 1 rfl rfl) (fun c3 => ?_) (fun c3 => ?_)
   ·
    have hfn := pmap_none hf hr (by simpa using c3); obtain ⟨hE, hK⟩ := ofE_no hm0 hrl hfn
    refine wp_seq ?_
    refine gI a8 s8 ok8 (gC (Ty.int (0 : Int)) (gC (Ty.int (14 : Int)) (gE ok8 fun a9 s9 ok9 D9 => ?_))); have o17 := OwnP.k0 o15 D9.stp; have o18 := OwnM.k0 o16 D9.stp; refine tn (wp_ret (tr ?_))
    exact retL2 rfl ok9 (F8.step0 D9.stp) ⟨(hasT2 (cvi (by (rw [hK]; rfl)) (D9.dn 0 rfl rfl)) (cvi (by (rw [hE])) (D9.dn 1 rfl rfl))), o17, o18⟩
   ·
    obtain ⟨kk, hfn, hk2, hkl⟩ := pmap_some hf hr (by simpa using c3); obtain ⟨hE, hK⟩ := ofE_yes hm0 hrl hfn
    refine wp_skip (tn (wp_seq ?_))
    refine gI a8 s8 ok8 (gM (D8.kt (D7.dn 11 rfl rfl) rfl) (gB 0 (gC (Ty.int (0 : Int)) (gE ok8 fun a10 s10 ok10 D10 => ?_)))); have o19 := OwnP.k0 o15 D10.stp; have o20 := OwnM.k0 o16 D10.stp; refine tn (wp_ret ?_)
    exact retL2 rfl ok10 (F8.step0 D10.stp) ⟨(hasT2 (cvi (by (rw [hK, hk2])) (D10.dn 1 rfl rfl)) (cvi (by (rw [hE])) (D10.dn 2 rfl rfl))), o19, o20⟩


end Go.Proofs.Ytkjifbgofckfeaa
