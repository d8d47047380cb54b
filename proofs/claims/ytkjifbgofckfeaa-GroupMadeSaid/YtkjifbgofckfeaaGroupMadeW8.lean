/- The functions that the law GroupMade reaches, each by its contract. Part 8. -/
import Derived.Test.YtkjifbgofckfeaaGroupMadeW7
namespace Go.Proofs.Ytkjifbgofckfeaa
open Go.KL

set_option maxHeartbeats 4000000 in
set_option maxRecDepth 100000 in
theorem gStill_fn (gv : Value) (gs : Value) (cs : Value) (us : List Value) (n : Nat) (c : Nat → Lev) (gens : List (List Int)) (b : Nat) (σ : GW) (hlow : Low [41, 42, 43] σ) (v0 v1 : Value) (hv0 : Ty.has (Ty.val gv) σ v0) (hv1 : Ty.has (Ty.nat b) σ v1) (ho_gv : OwnP σ 41 gv [(Ty.nat n), (Ty.val gs), (Ty.val cs)]) (ho_cs : ChnU σ 42 22 108 cs n c us) (ho_gs : Own σ 43 22 1 gs (List.length gens) (List.map Ty.ints gens)) (hC : ChnOf n gens c) (hG : ∀ x ∈ gens, RowN n x) (hb : b < n) (hGl : gens.length ≤ 1000) :
    FnL Try.prog 56 #[v0, v1] σ [41, 42, 43] (fun v τ => ∃ (K : (List (List Int))), ∃ (d : (Nat → Lev)), ∃ (vs : (List Value)), ∃ (hv : Value), ∃ (ds : Value), ∃ (ks : Value), (Ty.has (Ty.tup2 (Ty.val hv) (Ty.int (0 : Int))) τ v) ∧ (OwnP τ 41 gv [(Ty.nat n), (Ty.val gs), (Ty.val cs)]) ∧ (ChnU τ 42 22 108 cs n c us) ∧ (Own τ 43 22 1 gs (List.length gens) (List.map Ty.ints gens)) ∧ (OwnP τ 44 hv [(Ty.nat n), (Ty.val ks), (Ty.val ds)]) ∧ (ChnU τ 45 22 108 ds n d vs) ∧ (Own τ 46 22 1 ks (List.length K) (List.map Ty.ints K)) ∧ (StlP n b gens K d)) := by
 have hn := hC.wc.nn
 have hsw := swap_row hn hb
 have hswl := swap_len (n := n) (b := b)
 have hnil : ∀ x ∈ ([] : List (List Int)), RowN n x := fun x hx => (by cases hx)
 have hnil2 : ([] : List (List Int)).length ≤ 1000000 := (by simp)
 have hrdl := roundsL_len n
 refine fn_introL hlow Try.func56 rfl Try.ntmps56 (Nat.le_of_ble_eq_true rfl) (fun a0 F0 ok0 hargs => ?_)
 have p0 := pB (hargs 0 _ rfl) hv0
 have p1 := pB (hargs 1 _ rfl) hv1
 clear hargs; refine wp_seq ?_
 refine gI a0 σ ok0 (gC (Ty.val (Value.pointer none)) (gC (Ty.int (0 : Int)) (gE ok0 fun a1 s1 ok1 D1 => ?_))); have q1 := D1.k p0; have q2 := D1.k p1; have o1 := OwnP.k0 ho_gv D1.stp; have o2 := ChnU.k0 ho_cs D1.stp; have o3 := Own.k0 ho_gs D1.stp; refine tn (wp_seq (wp_seq ?_))
 refine gI a1 s1 ok1 (gM q2 (gS rfl (fun A B H I J d0 => rP (y_lss (eI d0) rfl)) (gS rfl (fun A B H I J d0 => rP (y_move (eI d0))) (gS rfl (fun A B H I J d0 => gu I (eI d0) fun hg => y_move (kp (J 1 rfl) H q2)) (gS rfl (fun A B H I J d0 => gu I (eI d0) fun hg => y_move (kp (J 0 rfl) H q1)) (gT (Ty.grd ((decide (((b : Nat) : Int) < (0 : Int))) = false) (Ty.val gv)) rfl (fun A B H I J d0 d1 => gu I (eI d1) fun hg => y_nilp (OwnP.k0 o1 H) ((ef d0 rfl).1 hg)) (gT (Ty.grd ((decide (((b : Nat) : Int) < (0 : Int))) = false) (Ty.val (ptrAt gv 0))) rfl (fun A B H I J d0 d1 => guf I (eI d1) fun hg hp => ownp_field Try.fld95_0 Try.inf3 dE (OwnP.k0 o1 H) ((ef d0 rfl).1 hg)) (gS rfl (fun A B H I J d0 d1 => gu I (eI d1) fun hg => ownp_load Try.underlying3 rfl (OwnP.k0 o1 H) ((ef d0 rfl).1 hg) rfl) (gS rfl (fun A B H I J d0 d1 d2 => gu I (eI d2) fun hg => y_geq ((ef d0 rfl).1 hg) ((ef d1 rfl).1 hg)) (gS rfl (fun A B H I J d0 d1 => rP (y_pick_or (eI d0) rfl (eI d1))) (gE ok1 fun a2 s2 ok2 D2 => ?_))))))))))); have q3 := D2.k q1; have o4 := OwnP.k0 o1 D2.stp; have o5 := ChnU.k0 o2 D2.stp; have o6 := Own.k0 o3 D2.stp; refine tn ?_
 refine cond_t (D2.m 9 rfl) (fun c1 => ?_) (fun c1 => ?_)
 ·
  exfalso
  simp only [Bool.or_eq_true, decide_eq_true_eq] at c1; omega
 ·
  obtain ⟨d1, d2⟩ := Bool.or_eq_false_iff.mp c1
  replace d1 := of_decide_eq_false d1
  replace d2 := of_decide_eq_false d2
  refine wp_skip (tn (wp_seq ?_))
  refine gI a2 s2 ok2 (gM q3 (gT (Ty.val gv) rfl (fun A B H I J d0 => rP (y_nilp (OwnP.k0 o4 H) (eI d0))) (gT (Ty.val (ptrAt gv 0)) rfl (fun A B H I J d0 => rP (ownp_field Try.fld95_0 Try.inf3 dE (OwnP.k0 o4 H) (eI d0))) (gS rfl (fun A B H I J d0 => rP (ownp_load Try.underlying3 rfl (OwnP.k0 o4 H) (eI d0) rfl)) (gE2 ok2 fun a3 s3 ok3 D3 => ?_))))); have o7 := OwnP.k0 o4 D3.stp; have o8 := ChnU.k0 o5 D3.stp; have o9 := Own.k0 o6 D3.stp
  refine tL ok3 (y_callL (L := []) [] [(42, 20)] _ rfl dE Try.func74 rfl rfl my1 (roundsO_fn (n) _ lW _ (uL (D3.m 3 rfl))  oX)) fun a4 s4 hs1 ok4 r1 sm1 => ?_
  obtain ⟨t1, ⟨x1, hT1, o10⟩, B1⟩ := r1
  have q11 : At (Ty.tup2 (Ty.val x1) (Ty.int (0 : Int))) s4 a4 (.tmp 36) := Ty.up _ B1.le hT1
  have o11 : Own s4 20 3 1 x1 (List.length (roundsL n)) (List.map Ty.int (roundsL n)) := Own.ren o10 (B1.ren dE rfl)
  refine tL ok4 (Yld.toL (y_mv q11)) fun a5 s5 hs2 ok5 r2 sm2 => ?_
  have q14 : At (Ty.tup2 (Ty.val x1) (Ty.int (0 : Int))) s5 a5 (.tmp 31) := r2
  clear r2
  refine tL (R := (fun v τ => Pr.has (Ty.pr (Ty.val x1)) τ v)) ok5 (Yld.toL (y_ext2_0 q14)) fun a6 s6 hs3 ok6 r3 sm3 => ?_
  have q18 : At (Ty.val x1) s6 a6 (.tmp 37) := r3
  clear r3
  refine tL (R := (fun v τ => Pr.has (Ty.pr (Ty.int (0 : Int))) τ v)) ok6 (Yld.toL (y_ext2_1 (kq hs3 sm3 31 q14))) fun a7 s7 hs4 ok7 r4 sm4 => ?_
  have q22 : At (Ty.int (0 : Int)) s7 a7 (.tmp 38) := r4
  clear r4
  refine tL (R := (fun v τ => Pr.has (Pr.ownp 21 [(Ty.val (Value.slice none 0 0))]) τ v)) ok7 (Yld.toL (y_alloc Try.inf22 rfl (alloc_vals (vs := [.slice none 0 0]) rfl))) fun a8 s8 hs5 ok8 r5 sm5 => ?_
  have o31 := Own.kl (Own.kl (Own.kl (Own.kl o11 hs2) hs3) hs4) hs5
  obtain ⟨x2, hx1⟩ : ∃ x, a8.eval (.tmp 6) = x := ⟨_, rfl⟩
  have q27 : At (Ty.val x2) s8 a8 (.tmp 6) := hx1
  have o27 := al2 (R := (Pr.ownp 21 [(Ty.val (Value.slice none 0 0))])) hx1 r5
  clear r5
  refine tailL0 (L := [21]) (R := (fun _ τ => OwnP τ 21 x2 ([(Ty.val (Value.slice none 0 0))].set 0 (Ty.val x1)))) rfl rfl (YldM.toL (m_storep Try.inf22 dE o27 (ptr0 o27 q27) (Nat.le_of_ble_eq_true rfl) (kq hs5 sm5 37 (kq hs4 sm4 37 q18)) (one_val (Own.one o31)))) (fun v1 s9 hs6 r6 => ?_)
  have q28 := kpL hs6 dE rfl (kq hs5 sm5 0 (kq hs4 sm4 0 (kq hs3 sm3 0 (kq hs2 sm2 0 (kq hs1 sm1 0 (D3.k q3)))))); have q29 := kpL hs6 dE rfl (kq hs5 sm5 1 (kq hs4 sm4 1 (kq hs3 sm3 1 (kq hs2 sm2 1 (kq hs1 sm1 1 (D3.k (D2.k q2))))))); have q30 := kpL hs6 dE rfl (kq hs5 sm5 38 q22); have q31 := kpL hs6 dE rfl q27
  have o32 : OwnP s9 21 x2 [(Ty.val x1)] := r6
  clear r6
  refine tL ok8 (Yld.toL (y_as q30)) fun a9 s10 hs7 ok9 r7 sm6 => ?_
  have q34 := kq hs7 sm6 1 q29; have q35 := kq hs7 sm6 6 q31; have o39 := Own.kl (Own.kl (Own.kl (Own.kl (Own.kl (Own.kl (Own.kl o9 hs1) hs2) hs3) hs4) hs5) hs6) hs7; have o40 := Own.kl (Own.kl o31 hs6) hs7; have o41 := OwnP.kl o32 hs7
  have q36 : At (Ty.int (0 : Int)) s10 a9 (.tmp 7) := r7
  clear r7; refine wpList_nil (tn (wp_seq ?_))
  have at1 : At0 gs (List.length gens) := Own.at0 o39
  have at2 : At0 x1 (List.length (roundsL n)) := Own.at0 o40
  refine reg7 (a := a9) (σ := s10) rfl 6 5 [20] dE (Pr.st 20 3 1 x1 (List.length (roundsL n)) ((List.map Ty.int (roundsL n)).set ((0 : Int)).toNat (Ty.nat b))) (fun i_ => List.getD [(Ty.val x1), (Ty.val x1), (Ty.nat b), (Ty.nat b), (Ty.val (cellPtr x1 ((0 : Int)).toNat)), Ty.any] i_ Ty.any) ok9 rfl dE rfl dE rfl rfl ⟨?_, ?_, ?_, ?_, ?_, ?_, trivial⟩ ?_
  · refine obR3 dE ?_
    intro A B H I J
    exact rP (ownp_load Try.underlying22 rfl (OwnP.keepL o41 H dE dE) (ptr0 (OwnP.keepL o41 H dE dE) (kpL H dE (J 6 rfl) q35)) rfl)
  · refine obR3 dE ?_
    intro A B H I J d0
    exact rP (ownp_load Try.underlying22 rfl (OwnP.keepL o41 H dE dE) (ptr0 (OwnP.keepL o41 H dE dE) (kpL H dE (J 6 rfl) q35)) rfl)
  · refine obR3 dE ?_
    intro A B H I J d0
    exact rP (y_move (kpL H dE (J 1 rfl) q34))
  · refine obR3 dE ?_
    intro A B H I J
    exact rP (y_move (kpL H dE (J 1 rfl) q34))
  · refine obR3 dE ?_
    intro A B H I J d0 d1 d2 d3 d4
    have e0 : At (Ty.val x1) B A (.tmp 39) := d0 rfl
    exact rP (y_indexF (i := (0 : Int)) Try.underlying22 Try.inf3 at2 e0 rfl oM oM)
  · refine obR3w rfl ?_
    intro A B H I J d0 d1 d2 d3 d4 d5
    have e4 : At (Ty.val (cellPtr x1 ((0 : Int)).toNat)) B A (.tmp 43) := d0 rfl
    have e3 : At (Ty.nat b) B A (.tmp 42) := d1 rfl
    exact YldM.toL (m_store Try.inf3 dE (Own.k0 o40 H) e4 (by simp only [List.length_map, List.length_set]; omega) e3 (one_val rfl))
  intro a10 s11 D4; have ok10 := D4.ok; have F11 := ((((((((((F0.step0 D1.stp).step0 D2.stp).step0 D3.stp).sl hs1).sl hs2).sl hs3).sl hs4).sl hs5).sl hs6).sl hs7).stepL D4.stp dE
  have q37 : At (Ty.val gv) s11 a10 (.tmp 0) := D4.kt dE (kq hs7 sm6 0 q28) rfl
  have q38 : At (Ty.val x2) s11 a10 (.tmp 6) := D4.kt dE q35 rfl
  have o43 := OwnP.keepL (OwnP.kl (OwnP.kl (OwnP.kl (OwnP.kl (OwnP.kl (OwnP.kl (OwnP.kl o7 hs1) hs2) hs3) hs4) hs5) hs6) hs7) D4.stp dE dE; have o44 := ChnU.keepL (ChnU.kl (ChnU.kl (ChnU.kl (ChnU.kl (ChnU.kl (ChnU.kl (ChnU.kl o8 hs1) hs2) hs3) hs4) hs5) hs6) hs7) D4.stp dE dE; have o45 := Own.keepL o39 D4.stp dE dE; have o46 := OwnP.keepL o41 D4.stp dE dE
  have q39 : At (Ty.val x1) s11 a10 (.tmp 40) := D4.done 1 dE
  have q40 : At (Ty.nat b) s11 a10 (.tmp 41) := D4.done 2 dE
  have o42 : Own s11 20 3 1 x1 (List.length ((roundsL n).set ((0 : Int)).toNat ((b : Nat) : Int))) (List.map Ty.int ((roundsL n).set ((0 : Int)).toNat ((b : Nat) : Int))) := (cvo (by simp) (by first | (simp; done) | (rw [List.map_set]; done) | (rw [List.map_set]; rfl)) D4.donep)
  refine tL (R := (fun v τ => Pr.has (Ty.pr (Ty.val (cellPtr x1 b))) τ v)) ok10 (Yld.toL (own_index1 (i := ((b : Nat) : Int)) Try.underlying22 Try.inf3 o42 q39 q40 oM (by simp only [List.length_set]; omega))) fun a11 s12 hs8 ok11 r8 sm7 => ?_
  have q44 : At (Ty.val (cellPtr x1 b)) s12 a11 (.tmp 44) := r8
  clear r8
  refine tailL0 (L := [20]) (R := (fun _ τ => Own τ 20 3 1 x1 (List.length ((roundsL n).set ((0 : Int)).toNat ((b : Nat) : Int))) ((List.map Ty.int ((roundsL n).set ((0 : Int)).toNat ((b : Nat) : Int))).set b (Ty.int (0 : Int))))) rfl rfl (YldM.toL (m_store Try.inf3 dE (Own.kl o42 hs8) q44 (by simp only [List.length_map, List.length_set]; omega) rfl (one_val rfl))) (fun v2 s13 hs9 r9 => ?_)
  have q45 := kpL hs9 dE rfl (kq hs8 sm7 0 q37); have q46 := kpL hs9 dE rfl (kq hs8 sm7 6 q38)
  have o52 : Own s13 20 3 1 x1 (List.length (((roundsL n).set ((0 : Int)).toNat ((b : Nat) : Int)).set b (0 : Int))) (List.map Ty.int (((roundsL n).set ((0 : Int)).toNat ((b : Nat) : Int)).set b (0 : Int))) := (cvo (by simp) (by first | (simp; done) | (rw [List.map_set]; done) | (rw [List.map_set]; rfl)) r9)
  clear r9; refine wpList_nil ?_
  have o57 : Own s13 20 3 1 x1 (List.length (swapL n b)) (List.map Ty.int (swapL n b)) := (cvo (by (rfl)) (by (rfl)) o52)
  refine tn (wp_seq ?_)
  obtain ⟨t2, e1, h1, q48⟩ := Own.seal o57 dE
  rw [← e1]
  have F14 := ((F11.sl hs8).sl hs9).step h1 dE; have o58 := OwnP.keepL (OwnP.kl (OwnP.kl o43 hs8) hs9) (h1.toL (L := [20]) (by simp)) dE dE; have o59 := ChnU.keepL (ChnU.kl (ChnU.kl o44 hs8) hs9) (h1.toL (L := [20]) (by simp)) dE dE; have o60 := Own.keepL (Own.kl (Own.kl o45 hs8) hs9) (h1.toL (L := [20]) (by simp)) dE dE; have o61 := OwnP.keepL (OwnP.kl (OwnP.kl o46 hs8) hs9) (h1.toL (L := [20]) (by simp)) dE dE; have q49 := Ty.up (Ty.val gv) (h1.le dE) q45; have q50 := Ty.up (Ty.val x2) (h1.le dE) q46; have o62 := ownp_cellq 0 (Ty.lst Ty.int (swapL n b)) o61 rfl q48
  obtain ⟨t3, e2, h2, q51⟩ := OwnP.seal o62 dE
  rw [← e2]
  have F15 := F14.step h2 dE; have o63 := OwnP.keepL o58 (h2.toL (L := [21]) (by simp)) dE dE; have o64 := ChnU.keepL o59 (h2.toL (L := [21]) (by simp)) dE dE; have o65 := Own.keepL o60 (h2.toL (L := [21]) (by simp)) dE dE; have q52 := Ty.up (Ty.val gv) (h2.le dE) q49
  have q53 : At (Ty.ref [(Ty.lst Ty.int (swapL n b))]) t3 a11 (.tmp 6) := by have e : a11.eval (.tmp 6) = x2 := q50; show Ty.has _ _ _; rw [e]; exact q51
  refine gI a11 t3 ok11 (gT (Ty.clo 91 [(Ty.lst Ty.int (swapL n b))]) rfl (fun A B H I J => rP (y_clo (kp (J 6 rfl) H q53))) (gB 0 (gE ok11 fun a12 s14 ok12 D5 => ?_))); have o66 := OwnP.k0 o63 D5.stp; have o67 := ChnU.k0 o64 D5.stp; have o68 := Own.k0 o65 D5.stp; refine tn (wp_seq ?_)
  refine gI a12 s14 ok12 (gC (Ty.val (Value.slice none 0 0)) (gE ok12 fun a13 s15 ok13 D6 => ?_)); have q56 := D6.k (D5.k q52); have o69 := OwnP.k0 o66 D6.stp; have o70 := ChnU.k0 o67 D6.stp; have o71 := Own.k0 o68 D6.stp; refine tn (wp_seq (wp_seq ?_))
  refine gI a13 s15 ok13 (gM q56 (gT (Ty.val gv) rfl (fun A B H I J d0 => rP (y_nilp (OwnP.k0 o69 H) (eI d0))) (gT (Ty.val (ptrAt gv 1)) rfl (fun A B H I J d0 => rP (ownp_field Try.fld95_1 Try.inf24 dE (OwnP.k0 o69 H) (eI d0))) (gS rfl (fun A B H I J d0 => rP (ownp_load Try.underlying24 rfl (OwnP.k0 o69 H) (eI d0) rfl)) (gT (Ty.nat (List.length gens)) rfl (fun A B H I J d0 => rP (own_len Try.underlying24 (al (R := (Pr.own 43 22 1 (List.length gens) (List.map Ty.ints gens))) (eI d0) (Own.k0 o71 H)))) (gT (Ty.int (0 : Int)) rfl (fun A B H I J => rP (y_move rfl)) (gE ok13 fun a14 s16 ok14 D7 => ?_))))))); have o72 := OwnP.k0 o69 D7.stp; have o73 := ChnU.k0 o70 D7.stp; have o74 := Own.k0 o71 D7.stp; refine tn (wp_block ?_)
  have o75 : Own s16 22 22 1 (Value.slice none 0 0) 0 (List.map Ty.ints ([] : List (List Int))) := Own.nil _ _ _ _
  refine loop (fun n1 a15 w1 => ∃ (t4 : GW) (q : Nat) (x9_0 : Value), t4.w = w1 ∧ FromL [41, 42, 43] σ t4 ∧ Ok 119 [] a15 ∧ At (Ty.nat q) t4 a15 (.tmp 51) ∧ At (Ty.val x9_0) t4 a15 (.tmp 9) ∧ At (Ty.val gv) t4 a15 (.tmp 0) ∧ At (Ty.clo 91 [(Ty.lst Ty.int (swapL n b))]) t4 a15 (.tmp 8) ∧ At (Ty.val gs) t4 a15 (.tmp 49) ∧ At (Ty.nat (List.length gens)) t4 a15 (.tmp 50) ∧ Own t4 22 22 1 x9_0 (List.length ((gens.take q).map (turnL n b))) (List.map Ty.ints ((gens.take q).map (turnL n b))) ∧ OwnP t4 41 gv [(Ty.nat n), (Ty.val gs), (Ty.val cs)] ∧ ChnU t4 42 22 108 cs n c us ∧ Own t4 43 22 1 gs (List.length gens) (List.map Ty.ints gens) ∧ (q ≤ gens.length) ∧ n1 = gens.length - q) (gens.length - (0)) ?_ ?_
  ·
   exact ⟨s16, 0, (Value.slice none 0 0), rfl, (((F15.step0 D5.stp).step0 D6.stp).step0 D7.stp), ok14, (cJ (D7.m 5 rfl)), (D7.k (D6.m 0 rfl)), (D7.k q56), (D7.k (D6.k (D5.m 1 rfl))), (D7.m 3 rfl), (D7.m 4 rfl), (cvo (by (first | rfl | simp)) (by (first | rfl | simp)) o75), o72, o73, o74, by omega, rfl⟩
  ·
   rintro n2 a16 w2 ⟨t5, q, x9_0, rfl, F19, ok15, q65, q66, q67, q68, q69, q70, o76, o77, o78, o79, hq, rfl⟩
   have htl := List.length_take_le q gens
   have hmtl : ((gens.take q).map (turnL n b)).length = q := (by rw [List.length_map, List.length_take]; omega)
   refine wp_seq ?_
   refine gI a16 t5 ok15 (gS rfl (fun A B H I J => rP (y_lss (kp (J 51 rfl) H q65) (kp (J 50 rfl) H q70))) (gE ok15 fun a17 s17 ok16 D8 => ?_)); have F20 := F19.step0 D8.stp; have q71 := D8.k q65; have q72 := D8.k q66; have q73 := D8.k q67; have q74 := D8.k q68; have q75 := D8.k q69; have q76 := D8.k q70; have o80 := Own.k0 o76 D8.stp; have o81 := OwnP.k0 o77 D8.stp; have o82 := ChnU.k0 o78 D8.stp; have o83 := Own.k0 o79 D8.stp; have q77 := D8.m 0 rfl; refine tn (wp_seq ?_)
   refine cond_p (p := (((q : Nat) : Int) < (((List.length gens) : Nat) : Int))) q77 (fun c2 => ?_) (fun c2 => ?_)
   ·
    have hxr := hG _ (mem_atD [] (show q < gens.length by omega))
    refine wp_skip (tn (wp_seq (wp_block (wp_seq ?_))))
    refine gI a17 s17 ok16 (gT (Ty.val (cellPtr gs q)) rfl (fun A B H I J => rP (own_index1 (i := ((q : Nat) : Int)) Try.underlying24 Try.inf22 (Own.k0 o83 H) (kp (J 49 rfl) H q75) (kp (J 51 rfl) H q71) oM oM)) (gS rfl (fun A B H I J d0 => rP (own_load Try.underlying22 rfl (Own.k0 o83 H) (eI d0) (lst_get Ty.ints gens [] q oM))) (gB 0 (gE ok16 fun a18 s18 ok17 D9 => ?_)))); have q79 := D9.k q72; have q81 := D9.k q74; have o84 := Own.k0 o80 D9.stp; have o85 := OwnP.k0 o81 D9.stp; have o86 := ChnU.k0 o82 D9.stp; have o87 := Own.k0 o83 D9.stp; refine tn ?_
    refine gI a18 s18 ok17 (gM q79 (gM q81 (gM (D9.m 2 rfl) (gT (Ty.lst Ty.int (byL ((swapL n b)) (byL ((gens.getD q [])) ((swapL n b))))) rfl (fun A B H I J d0 d1 => rP (y_callv (fun p_ => #[A.eval (.tmp 57), p_]) (eI d0) Try.func91 rfl rfl (fun p_ => by simp only [List.map_toArray, List.map_cons, List.map_nil, List.append_toArray, List.cons_append, List.nil_append]) (fun p_ hp_ => gTurn_fn ((gens.getD q [])) ((swapL n b)) (_) _ _ _ (eI d1) hp_ (by first | assumption | omega) (by first | assumption | omega)))) (gT (Ty.sl 1 1 [(Ty.lst Ty.int (byL ((swapL n b)) (byL ((gens.getD q [])) ((swapL n b)))))]) rfl (fun A B H I J d0 => rP (y_build1o Try.underlying24 Try.inf22 rfl (one_sl) (eI d0))) (gE2 ok17 fun a19 s19 ok18 D10 => ?_)))))); have o88 := Own.k0 o84 D10.stp; have o89 := OwnP.k0 o85 D10.stp; have o90 := ChnU.k0 o86 D10.stp; have o91 := Own.k0 o87 D10.stp
    have q91 : At (Ty.val x9_0) s19 a19 (.tmp 55) := D10.done 0 dE
    have q92 := D10.m 4 rfl
    have b1 := sl_le q92
    refine tL ok18 (YldM.toL (m_append Try.underlying24 Try.inf22 dE rfl dE (al (R := (Pr.own 22 22 1 (List.length ((gens.take q).map (turnL n b))) (List.map Ty.ints ((gens.take q).map (turnL n b))))) q91 o88) q92 (by intro U hU; simp at hU; subst hU; exact one_sl) oM oM)) fun a20 s20 hs10 ok19 r10 sm8 => ?_
    have q94 := kq hs10 sm8 9 (D10.k q79)
    obtain ⟨x3, hx2⟩ : ∃ x, a20.eval (.tmp 60) = x := ⟨_, rfl⟩
    have q99 : At (Ty.val x3) s20 a20 (.tmp 60) := hx2
    have o92 := al2 (R := (Pr.own 22 22 1 (List.length (((gens.take q).map (turnL n b)) ++ [(byL ((swapL n b)) (byL ((gens.getD q [])) ((swapL n b))))])) (List.map Ty.ints (((gens.take q).map (turnL n b)) ++ [(byL ((swapL n b)) (byL ((gens.getD q [])) ((swapL n b))))])))) hx2 (cvo (by simp) (by first | (rw [List.map_append]; rfl) | simp) r10)
    clear r10
    refine tL ok19 (Yld.toL (y_as q99)) fun a21 s21 hs11 ok20 r11 sm9 => ?_
    have q105 : At (Ty.val x3) s21 a21 (.tmp 9) := r11
    clear r11; refine wpList_nil (bn (tn ?_))
    refine gI a21 s21 ok20 (gT (Ty.nat (q + 1)) rfl (fun A B H I J => rP ((y_add (kp (J 51 rfl) H (kq hs11 sm9 51 (kq hs10 sm8 51 (D10.k (D9.k q71))))) rfl wX).mono (fun τ _ h => cN (σ := τ) h))) (gS rfl (fun A B H I J d0 => rP (y_move (eI d0))) (gE ok20 fun a22 s22 ok21 D11 => ?_))); have o100 := OwnP.k0 (OwnP.kl (OwnP.kl o89 hs10) hs11) D11.stp; have o101 := ChnU.k0 (ChnU.kl (ChnU.kl o90 hs10) hs11) D11.stp; have o102 := Own.k0 (Own.kl (Own.kl o91 hs10) hs11) D11.stp; have o103 := Own.k0 (Own.kl o92 hs11) D11.stp
    exact tn ⟨gens.length - ((q+1)), by omega, s22, (q+1), x3, rfl, (((((F20.step0 D9.stp).step0 D10.stp).sl hs10).sl hs11).step0 D11.stp), ok21, (cJ (D11.m 1 rfl)), (D11.k q105), (D11.k (kq hs11 sm9 0 (kq hs10 sm8 0 (D10.k (D9.k q73))))), (D11.k (kq hs11 sm9 8 (kq hs10 sm8 8 (D10.k q81)))), (D11.k (kq hs11 sm9 49 (kq hs10 sm8 49 (D10.k (D9.k q75))))), (D11.k (kq hs11 sm9 50 (kq hs10 sm8 50 (D10.k (D9.k q76))))), (cvo (by (first | (rw [take_snoc gens [] q oM, List.map_append]; rfl) | (simp; done) | (rw [take_snoc gens [] q oM]; simp; done) | (rw [take_snoc gens [] q oM]; simp [turnL]; done))) (by (first | (rw [take_snoc gens [] q oM, List.map_append]; rfl) | (simp; done) | (rw [take_snoc gens [] q oM]; simp; done) | (rw [take_snoc gens [] q oM]; simp [turnL]; done))) o103), o100, o101, o102, by omega, rfl⟩
   ·
    have ej : q = gens.length := oM; have hM : ∀ x ∈ (gens.take q).map (turnL n b), RowN n x := (by intro x hx; obtain ⟨y, hy, rfl⟩ := List.mem_map.1 hx; exact turn_row hn hb (hG y (List.mem_of_mem_take hy)))
    refine wp_exit (tx (tx (bx (tn (wp_seq ?_)))))
    obtain ⟨t6, e3, h3, q112⟩ := Own.seal o80 dE
    rw [← e3]
    have F26 := F20.step h3 dE; have o104 := OwnP.keepL o81 (h3.toL (L := [22]) (by simp)) dE dE; have o105 := ChnU.keepL o82 (h3.toL (L := [22]) (by simp)) dE dE; have o106 := Own.keepL o83 (h3.toL (L := [22]) (by simp)) dE dE; have q113 := Ty.up (Ty.nat q) (h3.le dE) q71
    have q114 : At (Ty.lst Ty.ints ((gens.take q).map (turnL n b))) t6 a17 (.tmp 9) := by have e : a17.eval (.tmp 9) = x9_0 := q72; show Ty.has _ _ _; rw [e]; exact q112
    have q115 := Ty.up (Ty.val gv) (h3.le dE) q73; have q116 := Ty.up (Ty.clo 91 [(Ty.lst Ty.int (swapL n b))]) (h3.le dE) q74; have q117 := Ty.up (Ty.val gs) (h3.le dE) q75; have q118 := Ty.up (Ty.nat (List.length gens)) (h3.le dE) q76; have q119 := Ty.up (Ty.bool (decide (((q : Nat) : Int) < (((List.length gens) : Nat) : Int)))) (h3.le dE) q77
    refine reg3 (a := a17) (σ := t6) rfl 10 5 67 [] dE (⟨fun τ v => ∃ (g1 : (Nat → Lev)), ∃ (g2 : (List Value)), ∃ (x4 : Value), ∃ (x5 : Value), ∃ (x6 : Value), (Ty.has (Ty.val x4) τ v) ∧ (OwnP τ 51 x4 [(Ty.nat n), (Ty.val x6), (Ty.val x5)]) ∧ (ChnU τ 52 22 108 x5 n (g1) (g2)) ∧ (Own τ 53 22 1 x6 (List.length (((gens.take q).map (turnL n b)))) (List.map Ty.ints (((gens.take q).map (turnL n b))))) ∧ (ChnOf n (((gens.take q).map (turnL n b))) (g1)), fun hs_ h_ => by (obtain ⟨g1, g2, x4, x5, x6, h0_, h1_, h2_, h3_, h4_⟩ := h_; exact ⟨g1, g2, x4, x5, x6, Ty.up _ hs_.le0 h0_, OwnP.k0 h1_ hs_, ChnU.k0 h2_ hs_, Own.k0 h3_ hs_, h4_⟩)⟩ : Pr) (fun i_ => List.getD [(Ty.val gv), (Ty.val gv), (Ty.val (ptrAt gv 0)), (Ty.nat n), (Ty.lst Ty.ints ((gens.take q).map (turnL n b))), Ty.any, (Ty.val gv), (Ty.val gv), (Ty.val (ptrAt gv 0)), (Ty.nat n)] i_ Ty.any) ok16 rfl dE rfl dE rfl (fun _ _ => trivial) rfl ⟨?_, ?_, ?_, ?_, ?_, ?_, ?_, ?_, ?_, ?_, trivial⟩ ?_
    · refine obR3 dE ?_
      intro A B H I J
      exact rP (y_move (kpL H dE (J 0 rfl) q115))
    · refine obR3 dE ?_
      intro A B H I J d0
      have e0 : At (Ty.val gv) B A (.tmp 62) := d0 rfl
      exact rP (y_nilp (OwnP.keepL o104 H dE dE) e0)
    · refine obR3 dE ?_
      intro A B H I J d0
      have e1 : At (Ty.val gv) B A (.tmp 63) := d0 rfl
      exact rP (ownp_field Try.fld95_0 Try.inf3 dE (OwnP.keepL o104 H dE dE) e1)
    · refine obR3 dE ?_
      intro A B H I J d0
      have e2 : At (Ty.val (ptrAt gv 0)) B A (.tmp 64) := d0 rfl
      exact rP (ownp_load Try.underlying3 rfl (OwnP.keepL o104 H dE dE) e2 rfl)
    · refine obR3 dE ?_
      intro A B H I J
      exact rP (y_move (kpL H dE (J 9 rfl) q114))
    · refine obR3w rfl ?_
      intro A B H I J d0 d1
      have e3 : At (Ty.nat n) B A (.tmp 65) := d0 rfl
      have e4 : At (Ty.lst Ty.ints ((gens.take q).map (turnL n b))) B A (.tmp 66) := d1 rfl
      exact YldL.mono (y_callL (L := []) [] [(41, 51), (42, 52), (43, 53)] _ rfl dE Try.func63 rfl rfl my2 (gOf_fn (n) (((gens.take q).map (turnL n b))) _ lW _ _ (uL e3) (uL e4)  oX oX oX)) (fun v_ t_ r_ => by obtain ⟨t7, ⟨g1, g2, x4, x5, x6, hT2, o107, o108, o109, hp1⟩, B2⟩ := r_; exact ⟨g1, g2, x4, x5, x6, Ty.up _ B2.le hT2, OwnP.ren o107 (B2.ren dE rfl), ChnU.ren o108 (B2.ren dE rfl), Own.ren o109 (B2.ren dE rfl), hp1⟩)
    · refine obR3 dE ?_
      intro A B H I J
      exact rP (y_move (kpL H dE (J 0 rfl) q115))
    · refine obR3 dE ?_
      intro A B H I J d0
      have e6 : At (Ty.val gv) B A (.tmp 68) := d0 rfl
      exact rP (y_nilp (OwnP.keepL o104 H dE dE) e6)
    · refine obR3 dE ?_
      intro A B H I J d0
      have e7 : At (Ty.val gv) B A (.tmp 69) := d0 rfl
      exact rP (ownp_field Try.fld95_0 Try.inf3 dE (OwnP.keepL o104 H dE dE) e7)
    · refine obR3 dE ?_
      intro A B H I J d0
      have e8 : At (Ty.val (ptrAt gv 0)) B A (.tmp 70) := d0 rfl
      exact rP (ownp_load Try.underlying3 rfl (OwnP.keepL o104 H dE dE) e8 rfl)
    intro a23 s23 D12; have ok22 := D12.ok; have F27 := F26.stepL D12.stp dE
    have q120 : At (Ty.clo 91 [(Ty.lst Ty.int (swapL n b))]) s23 a23 (.tmp 8) := D12.kt dE q116 rfl
    have o113 := OwnP.keepL o104 D12.stp dE dE; have o114 := ChnU.keepL o105 D12.stp dE dE; have o115 := Own.keepL o106 D12.stp dE dE
    have q121 : At (Ty.nat n) s23 a23 (.tmp 71) := D12.done 9 dE
    obtain ⟨g1, g2, x4, x5, x6, hq1, o110, o111, o112, hp1⟩ := D12.donep
    have q122 : At (Ty.val x4) s23 a23 (.tmp 67) := hq1
    refine tL ok22 (y_callL (L := []) [] [(41, 44), (42, 45), (43, 46)] _ rfl dE Try.func63 rfl rfl my2 (gOf_fn (n) (([] : List (List Int))) _ lW _ _ (uL q121) (uL (nil_lst rfl rfl))  oX oX oX)) fun a24 s24 hs12 ok23 r12 sm10 => ?_
    obtain ⟨t8, ⟨g3, g4, x7, x8, x9, hT3, o116, o117, o118, hp2⟩, B3⟩ := r12
    have q125 : At (Ty.val x7) s24 a24 (.tmp 72) := Ty.up _ B3.le hT3
    have o119 : OwnP s24 44 x7 [(Ty.nat n), (Ty.val x9), (Ty.val x8)] := OwnP.ren o116 (B3.ren dE rfl)
    have o120 : ChnU s24 45 22 108 x8 n (g3) (g4) := ChnU.ren o117 (B3.ren dE rfl)
    have o121 : Own s24 46 22 1 x9 (List.length (([] : List (List Int)))) (List.map Ty.ints (([] : List (List Int)))) := Own.ren o118 (B3.ren dE rfl)
    refine tL ok23 (Yld.toL (y_as (kq hs12 sm10 67 q122))) fun a25 s25 hs13 ok24 r13 sm11 => ?_
    have q128 : At (Ty.val x4) s25 a25 (.tmp 12) := r13
    clear r13
    refine tL ok24 (Yld.toL (y_as (kq hs13 sm11 72 q125))) fun a26 s26 hs14 ok25 r14 sm12 => ?_
    have o140 := OwnP.kl (OwnP.kl (OwnP.kl o110 hs12) hs13) hs14; have o141 := ChnU.kl (ChnU.kl (ChnU.kl o111 hs12) hs13) hs14
    have q131 : At (Ty.val x7) s26 a26 (.tmp 13) := r14
    clear r14; refine wpList_nil ?_
    have hT : ChnOf n (gens.map (turnL n b)) g1 := by (have h_ := hp1; rw [ej, List.take_length] at h_; exact h_)
    refine tn (wp_seq (wp_seq ?_))
    have o146 : Own s26 52 108 1 x5 n (List.map Ty.val (g2)) := ChnU.row o141
    have hul1 := ChnU.ul o141
    refine gI a26 s26 ok25 (gM (kq hs14 sm12 12 q128) (gT (Ty.val x4) rfl (fun A B H I J d0 => rP (y_nilp (OwnP.k0 o140 H) (eI d0))) (gT (Ty.val (ptrAt x4 2)) rfl (fun A B H I J d0 => rP (ownp_field Try.fld95_2 Try.inf93 dE (OwnP.k0 o140 H) (eI d0))) (gS rfl (fun A B H I J d0 => rP (ownp_load Try.underlying93 rfl (OwnP.k0 o140 H) (eI d0) rfl)) (gT (Ty.val (sufOf x5 1)) rfl (fun A B H I J d0 => rP (y_suf (j := 1) Try.underlying93 Try.inf108 (Own.k0 o146 H) (eI d0) (toN (σ := B) rfl oM) oM)) (gT (Ty.nat (n - 1)) rfl (fun A B H I J d0 => rP (y_sufLen Try.underlying93 (Own.form (Own.k0 o146 H)) (eI d0))) (gT (Ty.int (0 : Int)) rfl (fun A B H I J => rP (y_move rfl)) (gE ok25 fun a27 s27 ok26 D13 => ?_)))))))); have o147 := OwnP.k0 (OwnP.kl (OwnP.kl (OwnP.kl o113 hs12) hs13) hs14) D13.stp; have o148 := ChnU.k0 (ChnU.kl (ChnU.kl (ChnU.kl o114 hs12) hs13) hs14) D13.stp; have o149 := Own.k0 (Own.kl (Own.kl (Own.kl o115 hs12) hs13) hs14) D13.stp; have o150 := OwnP.k0 o140 D13.stp; have o151 := Own.k0 o146 D13.stp; have o152 := Own.k0 (Own.kl (Own.kl (Own.kl o112 hs12) hs13) hs14) D13.stp; have o153 := OwnP.k0 (OwnP.kl (OwnP.kl o119 hs13) hs14) D13.stp; have o154 := ChnU.k0 (ChnU.kl (ChnU.kl o120 hs13) hs14) D13.stp; have o155 := Own.k0 (Own.kl (Own.kl o121 hs13) hs14) D13.stp; have o156 := ChnU.k0 o141 D13.stp; refine tn (wp_block ?_)
    refine loop (fun n3 a28 w3 => ∃ (t9 : GW) (j : Nat) (K : (List (List Int))) (c2 : (Nat → Lev)) (ks : Value), t9.w = w3 ∧ FromL [41, 42, 43] σ t9 ∧ Ok 119 [] a28 ∧ At (Ty.nat j) t9 a28 (.tmp 79) ∧ At (Ty.clo 91 [(Ty.lst Ty.int (swapL n b))]) t9 a28 (.tmp 8) ∧ At (Ty.val x7) t9 a28 (.tmp 13) ∧ At (Ty.val (sufOf x5 1)) t9 a28 (.tmp 77) ∧ At (Ty.nat (n - 1)) t9 a28 (.tmp 78) ∧ OwnP t9 44 x7 [(Ty.nat n), (Ty.val ks), (Ty.val x8)] ∧ Own t9 46 22 1 ks (List.length K) (List.map Ty.ints K) ∧ ChnU t9 45 22 108 x8 n c2 g4 ∧ OwnP t9 41 gv [(Ty.nat n), (Ty.val gs), (Ty.val cs)] ∧ ChnU t9 42 22 108 cs n c us ∧ Own t9 43 22 1 gs (List.length gens) (List.map Ty.ints gens) ∧ OwnP t9 51 x4 [(Ty.nat n), (Ty.val x6), (Ty.val x5)] ∧ ChnU t9 52 22 108 x5 n (g1) (g2) ∧ Own t9 53 22 1 x6 (List.length (((gens.take q).map (turnL n b)))) (List.map Ty.ints (((gens.take q).map (turnL n b)))) ∧ (j ≤ (n - 1)) ∧ (StI n b gens g1 j 0 K c2) ∧ n3 = (n - 1) - j) ((n - 1) - (0)) ?_ ?_
    ·
     exact ⟨s27, 0, ([] : List (List Int)), g3, x9, rfl, ((((F27.sl hs12).sl hs13).sl hs14).step0 D13.stp), ok26, (cJ (D13.m 6 rfl)), (D13.k (kq hs14 sm12 8 (kq hs13 sm11 8 (kq hs12 sm10 8 q120)))), (D13.k q131), (D13.m 4 rfl), (D13.m 5 rfl), o153, o155, (cvch (by (rfl)) o154), o147, o148, o149, o150, o156, o152, by omega, StI.start hp2, rfl⟩
    ·
     rintro n4 a29 w4 ⟨t10, j, K, c2, ks, rfl, F32, ok27, q137, q138, q139, q140, q141, o157, o158, o159, o160, o161, o162, o163, o164, o165, hj, hI, rfl⟩
     refine wp_seq ?_
     refine gI a29 t10 ok27 (gS rfl (fun A B H I J => rP (y_lss (kp (J 79 rfl) H q137) (kp (J 78 rfl) H q141))) (gE ok27 fun a30 s28 ok28 D14 => ?_)); have F33 := F32.step0 D14.stp; have q142 := D14.k q137; have q144 := D14.k q139; have q145 := D14.k q140; have o166 := OwnP.k0 o157 D14.stp; have o167 := Own.k0 o158 D14.stp; have o168 := ChnU.k0 o159 D14.stp; have o169 := OwnP.k0 o160 D14.stp; have o170 := ChnU.k0 o161 D14.stp; have o171 := Own.k0 o162 D14.stp; have o172 := OwnP.k0 o163 D14.stp; have o173 := ChnU.k0 o164 D14.stp; have o174 := Own.k0 o165 D14.stp; refine tn (wp_seq ?_)
     refine cond_p (p := (((j : Nat) : Int) < (((n - 1) : Nat) : Int))) (D14.m 0 rfl) (fun c3 => ?_) (fun c3 => ?_)
     ·
      have hlg := lev_gens hT (show 1 + j < n by omega)
      refine wp_skip (tn (wp_seq (wp_block (wp_seq ?_))))
      have o175 : Own s28 52 108 1 x5 n (List.map Ty.val (g2)) := ChnU.row o173
      have hul2 := ChnU.ul o173
      refine gI a30 s28 ok28 (gT (Ty.val (cellPtr x5 (1 + j))) rfl (fun A B H I J => rP (y_sufIdx Try.underlying93 Try.inf108 (Own.k0 o175 H) (kp (J 77 rfl) H q145) (kp (J 79 rfl) H q142) oM)) (gS rfl (fun A B H I J d0 => rP (own_load Try.underlying108 rfl (Own.k0 o175 H) (eI d0) (lst_get Ty.val (g2) undef (1 + j) oM))) (gB 0 (gE ok28 fun a31 s29 ok29 D15 => ?_)))); have o176 := OwnP.k0 o166 D15.stp; have o177 := Own.k0 o167 D15.stp; have o178 := ChnU.k0 o168 D15.stp; have o179 := OwnP.k0 o169 D15.stp; have o180 := ChnU.k0 o170 D15.stp; have o181 := Own.k0 o171 D15.stp; have o182 := OwnP.k0 o172 D15.stp; have o183 := Own.k0 o175 D15.stp; have o184 := Own.k0 o174 D15.stp; have o185 := ChnU.k0 o173 D15.stp
      obtain ⟨ms1, rs1, hN1⟩ := o185
      have o186 : ChnU s29 52 22 108 x5 n (g1) (g2) := ⟨ms1, rs1, hN1⟩
      have hl1 := hN1.lev (1 + j) oM
      obtain ⟨mq1, hmq1⟩ : ∃ x_, ms1 (1 + j) = x_ := ⟨_, rfl⟩
      obtain ⟨rq1, hrq1⟩ : ∃ x_, rs1 (1 + j) = x_ := ⟨_, rfl⟩
      have o187 : OwnP s29 52 ((g2).getD (1 + j) undef) [(Ty.nat (1 + j)), (Ty.val mq1), (Ty.val rq1)] := by have h_ := hl1.p; simp only [hmq1, hrq1] at h_; exact h_
      have o188 : OwnM Ty.ints kI s29 52 mq1 ((g1) (1 + j)).orb := by have h_ := hl1.m; simp only [hmq1, hrq1] at h_; exact h_
      have o189 : Own s29 52 22 1 rq1 (List.length ((g1) (1 + j)).gens) (List.map Ty.ints ((g1) (1 + j)).gens) := by have h_ := hl1.r; simp only [hmq1, hrq1] at h_; exact h_
      refine tn (wp_seq ?_)
      refine gI a31 s29 ok29 (gM (D15.m 2 rfl) (gT (Ty.val ((g2).getD (1 + j) undef)) rfl (fun A B H I J d0 => rP (y_nilp (OwnP.k0 o187 H) (eI d0))) (gT (Ty.val (ptrAt ((g2).getD (1 + j) undef) 2)) rfl (fun A B H I J d0 => rP (ownp_field Try.fld111_2 Try.inf24 dE (OwnP.k0 o187 H) (eI d0))) (gS rfl (fun A B H I J d0 => rP (ownp_load Try.underlying24 rfl (OwnP.k0 o187 H) (eI d0) rfl)) (gT (Ty.nat (List.length ((g1) (1 + j)).gens)) rfl (fun A B H I J d0 => rP (own_len Try.underlying24 (al (R := (Pr.own 52 22 1 (List.length ((g1) (1 + j)).gens) (List.map Ty.ints ((g1) (1 + j)).gens))) (eI d0) (Own.k0 o189 H)))) (gT (Ty.int (0 : Int)) rfl (fun A B H I J => rP (y_move rfl)) (gE ok29 fun a32 s30 ok30 D16 => ?_))))))); have o190 := OwnP.k0 o176 D16.stp; have o191 := Own.k0 o177 D16.stp; have o192 := ChnU.k0 o178 D16.stp; have o193 := OwnP.k0 o179 D16.stp; have o194 := ChnU.k0 o180 D16.stp; have o195 := Own.k0 o181 D16.stp; have o196 := OwnP.k0 o182 D16.stp; have o197 := ChnU.k0 o186 D16.stp; have o198 := Own.k0 o184 D16.stp; have o199 := OwnP.k0 o187 D16.stp; have o200 := OwnM.k0 o188 D16.stp; have o201 := Own.k0 o189 D16.stp; refine tn (wp_block ?_)
      refine loop (fun n5 a33 w5 => ∃ (t11 : GW) (i : Nat) (K2 : (List (List Int))) (c3 : (Nat → Lev)) (ks2 : Value), t11.w = w5 ∧ FromL [41, 42, 43] σ t11 ∧ Ok 119 [] a33 ∧ At (Ty.nat i) t11 a33 (.tmp 88) ∧ At (Ty.nat j) t11 a33 (.tmp 79) ∧ At (Ty.clo 91 [(Ty.lst Ty.int (swapL n b))]) t11 a33 (.tmp 8) ∧ At (Ty.val x7) t11 a33 (.tmp 13) ∧ At (Ty.val (sufOf x5 1)) t11 a33 (.tmp 77) ∧ At (Ty.nat (n - 1)) t11 a33 (.tmp 78) ∧ At (Ty.val rq1) t11 a33 (.tmp 86) ∧ At (Ty.nat (List.length ((g1) (1 + j)).gens)) t11 a33 (.tmp 87) ∧ OwnP t11 44 x7 [(Ty.nat n), (Ty.val ks2), (Ty.val x8)] ∧ Own t11 46 22 1 ks2 (List.length K2) (List.map Ty.ints K2) ∧ ChnU t11 45 22 108 x8 n c3 g4 ∧ OwnP t11 41 gv [(Ty.nat n), (Ty.val gs), (Ty.val cs)] ∧ ChnU t11 42 22 108 cs n c us ∧ Own t11 43 22 1 gs (List.length gens) (List.map Ty.ints gens) ∧ OwnP t11 51 x4 [(Ty.nat n), (Ty.val x6), (Ty.val x5)] ∧ ChnU t11 52 22 108 x5 n (g1) (g2) ∧ Own t11 53 22 1 x6 (List.length (((gens.take q).map (turnL n b)))) (List.map Ty.ints (((gens.take q).map (turnL n b)))) ∧ Own t11 52 22 1 rq1 (List.length ((g1) (1 + j)).gens) (List.map Ty.ints ((g1) (1 + j)).gens) ∧ (i ≤ (g1 (1 + j)).gens.length) ∧ (StI n b gens g1 j i K2 c3) ∧ n5 = (g1 (1 + j)).gens.length - i) ((g1 (1 + j)).gens.length - (0)) ?_ ?_
      ·
       exact ⟨s30, 0, K, c2, ks, rfl, ((F33.step0 D15.stp).step0 D16.stp), ok30, (cJ (D16.m 5 rfl)), (D16.k (D15.k q142)), (D16.k (D15.k (D14.k q138))), (D16.k (D15.k q144)), (D16.k (D15.k q145)), (D16.k (D15.k (D14.k q141))), (D16.m 3 rfl), (D16.m 4 rfl), o190, (cvo (by (simp)) (by (simp)) o191), (cvch (by (rfl)) o192), o193, o194, o195, o196, o197, o198, o201, by omega, hI, rfl⟩
      ·
       rintro n6 a34 w6 ⟨t12, i, K2, c3, ks2, rfl, F36, ok31, q162, q163, q164, q165, q166, q167, q168, q169, o202, o203, o204, o205, o206, o207, o208, o209, o210, o211, hi, hI2, rfl⟩
       have hKl := hI2.len
       refine wp_seq ?_
       refine gI a34 t12 ok31 (gS rfl (fun A B H I J => rP (y_lss (kp (J 88 rfl) H q162) (kp (J 87 rfl) H q169))) (gE ok31 fun a35 s31 ok32 D17 => ?_)); have F37 := F36.step0 D17.stp; have q170 := D17.k q162; have q171 := D17.k q163; have q172 := D17.k q164; have q173 := D17.k q165; have q174 := D17.k q166; have q175 := D17.k q167; have q176 := D17.k q168; have o212 := OwnP.k0 o202 D17.stp; have o213 := Own.k0 o203 D17.stp; have o214 := ChnU.k0 o204 D17.stp; have o215 := OwnP.k0 o205 D17.stp; have o216 := ChnU.k0 o206 D17.stp; have o217 := Own.k0 o207 D17.stp; have o218 := OwnP.k0 o208 D17.stp; have o219 := ChnU.k0 o209 D17.stp; have o220 := Own.k0 o210 D17.stp; have o221 := Own.k0 o211 D17.stp; refine tn (wp_seq ?_)
       refine cond_p (p := (((i : Nat) : Int) < (((List.length ((g1) (1 + j)).gens) : Nat) : Int))) (D17.m 0 rfl) (fun c4 => ?_) (fun c4 => ?_)
       ·
        obtain ⟨hs1, hs2, hs3, hs4⟩ := StI.at_ hn hb hG hT (show j + 1 < n by omega) (show i < (g1 (1 + j)).gens.length by omega); have hw3 := hI2.of.wc; have hAP := hI2.of.pre hs2
        refine wp_skip (tn (wp_seq (wp_block (wp_seq ?_))))
        refine gI a35 s31 ok32 (gT (Ty.val (cellPtr rq1 i)) rfl (fun A B H I J => rP (own_index1 (i := ((i : Nat) : Int)) Try.underlying24 Try.inf22 (Own.k0 o221 H) (kp (J 86 rfl) H q176) (kp (J 88 rfl) H q170) oM oM)) (gS rfl (fun A B H I J d0 => rP (own_load Try.underlying22 rfl (Own.k0 o221 H) (eI d0) (lst_get Ty.ints ((g1) (1 + j)).gens [] i oM))) (gB 0 (gE ok32 fun a36 s32 ok33 D18 => ?_)))); have q181 := D18.k q172; have o222 := OwnP.k0 o212 D18.stp; have o223 := Own.k0 o213 D18.stp; have o224 := ChnU.k0 o214 D18.stp; have o225 := OwnP.k0 o215 D18.stp; have o226 := ChnU.k0 o216 D18.stp; have o227 := Own.k0 o217 D18.stp; have o228 := OwnP.k0 o218 D18.stp; have o229 := ChnU.k0 o219 D18.stp; have o230 := Own.k0 o220 D18.stp; have o231 := Own.k0 o221 D18.stp; refine tn (wp_seq ?_)
        refine gI a36 s32 ok33 (gM q181 (gM (D18.m 2 rfl) (gT (Ty.lst Ty.int (byL ((swapL n b)) (byL ((((g1) (1 + j)).gens.getD i [])) ((swapL n b))))) rfl (fun A B H I J d0 d1 => rP (y_callv (fun p_ => #[A.eval (.tmp 93), p_]) (eI d0) Try.func91 rfl rfl (fun p_ => by simp only [List.map_toArray, List.map_cons, List.map_nil, List.append_toArray, List.cons_append, List.nil_append]) (fun p_ hp_ => gTurn_fn ((((g1) (1 + j)).gens.getD i [])) ((swapL n b)) (_) _ _ _ (eI d1) hp_ (by first | assumption | omega) (by first | assumption | omega)))) (gB 0 (gE ok33 fun a37 s33 ok34 D19 => ?_))))); have q191 := D19.k (D18.k q173); have o232 := OwnP.k0 o222 D19.stp; have o233 := Own.k0 o223 D19.stp; have o234 := ChnU.k0 o224 D19.stp; have o235 := OwnP.k0 o225 D19.stp; have o236 := ChnU.k0 o226 D19.stp; have o237 := Own.k0 o227 D19.stp; have o238 := OwnP.k0 o228 D19.stp; have o239 := ChnU.k0 o229 D19.stp; have o240 := Own.k0 o230 D19.stp; have o241 := Own.k0 o231 D19.stp
        have q197 : At (Ty.lst Ty.int (turnL n b ((g1 (1 + j)).gens.getD i []))) s33 a37 (.tmp 18) := (cvt (by (rfl)) (D19.m 3 rfl))
        refine tn (wp_seq ?_)
        refine gI a37 s33 ok34 (gM q191 (gM q197 (gE2 ok34 fun a38 s34 ok35 D20 => ?_))); have o242 := OwnP.k0 o232 D20.stp; have o243 := Own.k0 o233 D20.stp; have o244 := ChnU.k0 o234 D20.stp; have o245 := OwnP.k0 o235 D20.stp; have o246 := ChnU.k0 o236 D20.stp; have o247 := Own.k0 o237 D20.stp; have o248 := OwnP.k0 o238 D20.stp; have o249 := ChnU.k0 o239 D20.stp; have o250 := Own.k0 o240 D20.stp; have o251 := Own.k0 o241 D20.stp
        have q207 : At (Ty.val x7) s34 a38 (.tmp 96) := D20.done 0 dE
        refine tL ok35 (y_callL (L := [41, 42]) [(44, 41), (45, 42)] [(41, 44), (42, 45)] #[a38.eval (.tmp 96), a38.eval (.tmp 97)] rfl dE Try.func46 rfl rfl my2 (gHas_fn (x7) (ks2) (x8) (g4) (n) (c3) ((turnL n b ((g1 (1 + j)).gens.getD i []))) _ lW _ _ (uL q207) (uL (D20.m 1 rfl)) (OwnP.ren o242 (GW.ren_lend _ _ dE rfl)) (ChnU.ren (cvch (by (rfl)) o244) (GW.ren_lend _ _ dE rfl)) oX)) fun a39 s35 hs15 ok36 r15 sm13 => ?_
        obtain ⟨t13, ⟨hT4, o252, o253⟩, B4⟩ := r15
        have q218 : At (Ty.tup2 (Ty.bool (hasB n (c3) ((turnL n b ((g1 (1 + j)).gens.getD i []))))) (Ty.int (fitsE n ((turnL n b ((g1 (1 + j)).gens.getD i [])))))) s35 a39 (.tmp 98) := Ty.up _ B4.le hT4
        have o254 : OwnP s35 44 x7 [(Ty.nat n), (Ty.val ks2), (Ty.val x8)] := OwnP.ren o252 (B4.ren dE rfl)
        have o255 : ChnU s35 45 22 108 x8 n (c3) (g4) := ChnU.ren o253 (B4.ren dE rfl)
        refine tL ok36 (Yld.toL (y_mv q218)) fun a40 s36 hs16 ok37 r16 sm14 => ?_
        have q228 : At (Ty.tup2 (Ty.bool (hasB n (c3) ((turnL n b ((g1 (1 + j)).gens.getD i []))))) (Ty.int (fitsE n ((turnL n b ((g1 (1 + j)).gens.getD i [])))))) s36 a40 (.tmp 95) := r16
        clear r16
        refine tL (R := (fun v τ => Pr.has (Ty.pr (Ty.bool (hasB n (c3) ((turnL n b ((g1 (1 + j)).gens.getD i [])))))) τ v)) ok37 (Yld.toL (y_ext2_0 q228)) fun a41 s37 hs17 ok38 r17 sm15 => ?_
        have q239 : At (Ty.bool (hasB n (c3) ((turnL n b ((g1 (1 + j)).gens.getD i []))))) s37 a41 (.tmp 99) := r17
        clear r17
        refine tL (R := (fun v τ => Pr.has (Ty.pr (Ty.int (fitsE n ((turnL n b ((g1 (1 + j)).gens.getD i [])))))) τ v)) ok38 (Yld.toL (y_ext2_1 (kq hs17 sm15 95 q228))) fun a42 s38 hs18 ok39 r18 sm16 => ?_
        have q250 : At (Ty.int (fitsE n ((turnL n b ((g1 (1 + j)).gens.getD i []))))) s38 a42 (.tmp 100) := r18
        clear r18
        refine tL ok39 (Yld.toL (y_as (kq hs18 sm16 99 q239))) fun a43 s39 hs19 ok40 r19 sm17 => ?_
        have q261 : At (Ty.bool (hasB n (c3) ((turnL n b ((g1 (1 + j)).gens.getD i []))))) s39 a43 (.tmp 19) := r19
        clear r19
        refine tL ok40 (Yld.toL (y_as (kq hs19 sm17 100 q250))) fun a44 s40 hs20 ok41 r20 sm18 => ?_
        have q272 : At (Ty.int (fitsE n ((turnL n b ((g1 (1 + j)).gens.getD i []))))) s40 a44 (.tmp 20) := r20
        clear r20; refine wpList_nil (tn (wp_seq ?_))
        refine gI a44 s40 ok41 (gM (kq hs20 sm18 19 q261) (gS rfl (fun A B H I J d0 => rP (y_not (eI d0))) (gE ok41 fun a45 s41 ok42 D21 => ?_))); have F47 := (((((((((F37.step0 D18.stp).step0 D19.stp).step0 D20.stp).sl hs15).sl hs16).sl hs17).sl hs18).sl hs19).sl hs20).step0 D21.stp; have q273 := D21.k (kq hs20 sm18 88 (kq hs19 sm17 88 (kq hs18 sm16 88 (kq hs17 sm15 88 (kq hs16 sm14 88 (kq hs15 sm13 88 (D20.k (D19.k (D18.k q170))))))))); have q274 := D21.k (kq hs20 sm18 79 (kq hs19 sm17 79 (kq hs18 sm16 79 (kq hs17 sm15 79 (kq hs16 sm14 79 (kq hs15 sm13 79 (D20.k (D19.k (D18.k q171))))))))); have q275 := D21.k (kq hs20 sm18 8 (kq hs19 sm17 8 (kq hs18 sm16 8 (kq hs17 sm15 8 (kq hs16 sm14 8 (kq hs15 sm13 8 (D20.k (D19.k q181)))))))); have q276 := D21.k (kq hs20 sm18 13 (kq hs19 sm17 13 (kq hs18 sm16 13 (kq hs17 sm15 13 (kq hs16 sm14 13 (kq hs15 sm13 13 (D20.k q191))))))); have q277 := D21.k (kq hs20 sm18 77 (kq hs19 sm17 77 (kq hs18 sm16 77 (kq hs17 sm15 77 (kq hs16 sm14 77 (kq hs15 sm13 77 (D20.k (D19.k (D18.k q174))))))))); have q278 := D21.k (kq hs20 sm18 78 (kq hs19 sm17 78 (kq hs18 sm16 78 (kq hs17 sm15 78 (kq hs16 sm14 78 (kq hs15 sm13 78 (D20.k (D19.k (D18.k q175))))))))); have q279 := D21.k (kq hs20 sm18 86 (kq hs19 sm17 86 (kq hs18 sm16 86 (kq hs17 sm15 86 (kq hs16 sm14 86 (kq hs15 sm13 86 (D20.k (D19.k (D18.k q176))))))))); have q280 := D21.k (kq hs20 sm18 87 (kq hs19 sm17 87 (kq hs18 sm16 87 (kq hs17 sm15 87 (kq hs16 sm14 87 (kq hs15 sm13 87 (D20.k (D19.k (D18.k (D17.k q169)))))))))); have q281 := D21.k (kq hs20 sm18 18 (kq hs19 sm17 18 (kq hs18 sm16 18 (kq hs17 sm15 18 (kq hs16 sm14 18 (kq hs15 sm13 18 (D20.k q197))))))); have o314 := Own.k0 (Own.kl (Own.kl (Own.kl (Own.kl (Own.kl (Own.kl o243 hs15) hs16) hs17) hs18) hs19) hs20) D21.stp; have o315 := OwnP.k0 (OwnP.kl (OwnP.kl (OwnP.kl (OwnP.kl (OwnP.kl (OwnP.kl o245 hs15) hs16) hs17) hs18) hs19) hs20) D21.stp; have o316 := ChnU.k0 (ChnU.kl (ChnU.kl (ChnU.kl (ChnU.kl (ChnU.kl (ChnU.kl o246 hs15) hs16) hs17) hs18) hs19) hs20) D21.stp; have o317 := Own.k0 (Own.kl (Own.kl (Own.kl (Own.kl (Own.kl (Own.kl o247 hs15) hs16) hs17) hs18) hs19) hs20) D21.stp; have o318 := OwnP.k0 (OwnP.kl (OwnP.kl (OwnP.kl (OwnP.kl (OwnP.kl (OwnP.kl o248 hs15) hs16) hs17) hs18) hs19) hs20) D21.stp; have o319 := ChnU.k0 (ChnU.kl (ChnU.kl (ChnU.kl (ChnU.kl (ChnU.kl (ChnU.kl o249 hs15) hs16) hs17) hs18) hs19) hs20) D21.stp; have o320 := Own.k0 (Own.kl (Own.kl (Own.kl (Own.kl (Own.kl (Own.kl o250 hs15) hs16) hs17) hs18) hs19) hs20) D21.stp; have o321 := Own.k0 (Own.kl (Own.kl (Own.kl (Own.kl (Own.kl (Own.kl o251 hs15) hs16) hs17) hs18) hs19) hs20) D21.stp; have o322 := OwnP.k0 (OwnP.kl (OwnP.kl (OwnP.kl (OwnP.kl (OwnP.kl o254 hs16) hs17) hs18) hs19) hs20) D21.stp; have o323 := ChnU.k0 (ChnU.kl (ChnU.kl (ChnU.kl (ChnU.kl (ChnU.kl o255 hs16) hs17) hs18) hs19) hs20) D21.stp; refine tn ?_
        refine cond_t (D21.m 1 rfl) (fun c5 => ?_) (fun c5 => ?_)
        ·
         refine wp_seq ?_
         refine gI a45 s41 ok42 (gM q276 (gM q276 (gT (Ty.val x7) rfl (fun A B H I J d0 => rP (y_nilp (OwnP.k0 o322 H) (eI d0))) (gT (Ty.val (ptrAt x7 1)) rfl (fun A B H I J d0 => rP (ownp_field Try.fld95_1 Try.inf24 dE (OwnP.k0 o322 H) (eI d0))) (gS rfl (fun A B H I J d0 => rP (ownp_load Try.underlying24 rfl (OwnP.k0 o322 H) (eI d0) rfl)) (gM q281 (gT (Ty.sl 1 1 [(Ty.lst Ty.int (turnL n b ((g1 (1 + j)).gens.getD i [])))]) rfl (fun A B H I J d0 => rP (y_build1o Try.underlying24 Try.inf22 rfl (one_sl) (eI d0))) (gE2 ok42 fun a46 s42 ok43 D22 => ?_)))))))); have o324 := Own.k0 o314 D22.stp; have o325 := OwnP.k0 o315 D22.stp; have o326 := ChnU.k0 o316 D22.stp; have o327 := Own.k0 o317 D22.stp; have o328 := OwnP.k0 o318 D22.stp; have o329 := ChnU.k0 o319 D22.stp; have o330 := Own.k0 o320 D22.stp; have o331 := Own.k0 o321 D22.stp; have o332 := OwnP.k0 o322 D22.stp; have o333 := ChnU.k0 o323 D22.stp
         have q292 : At (Ty.val x7) s42 a46 (.tmp 103) := D22.done 0 dE
         have q294 := D22.m 6 rfl
         have b2 := sl_le q294
         refine tL ok43 (YldM.toL (m_append Try.underlying24 Try.inf22 dE rfl dE (al (R := (Pr.own 46 22 1 (List.length K2) (List.map Ty.ints K2))) (D22.m 4 rfl) o324) q294 (by intro U hU; simp at hU; subst hU; exact one_sl) oM oM)) fun a47 s43 hs21 ok44 r21 sm19 => ?_
         have o342 := OwnP.kl o332 hs21
         obtain ⟨x10, hx3⟩ : ∃ x, a47.eval (.tmp 110) = x := ⟨_, rfl⟩
         have q305 : At (Ty.val x10) s43 a47 (.tmp 110) := hx3
         have o334 := al2 (R := (Pr.own 46 22 1 (List.length (K2 ++ [(turnL n b ((g1 (1 + j)).gens.getD i []))])) (List.map Ty.ints (K2 ++ [(turnL n b ((g1 (1 + j)).gens.getD i []))])))) hx3 (cvo (by simp) (by first | (rw [List.map_append]; rfl) | simp) r21)
         clear r21
         refine tL (R := (fun v τ => Pr.has (Ty.pr (Ty.val x7)) τ v)) ok44 (Yld.toL (y_nilp o342 (kq hs21 sm19 103 q292))) fun a48 s44 hs22 ok45 r22 sm20 => ?_
         have o351 := OwnP.kl o342 hs22
         have q316 : At (Ty.val x7) s44 a48 (.tmp 111) := r22
         clear r22
         refine tL (R := (fun v τ => Pr.has (Ty.pr (Ty.val (ptrAt x7 1))) τ v)) ok45 (Yld.toL (ownp_field Try.fld95_1 Try.inf24 dE o351 q316)) fun a49 s45 hs23 ok46 r23 sm21 => ?_
         have o363 := Own.kl (Own.kl o334 hs22) hs23
         have q327 : At (Ty.val (ptrAt x7 1)) s45 a49 (.tmp 112) := r23
         clear r23
         refine tailL0 (L := [44]) (R := (fun _ τ => OwnP τ 44 x7 ([(Ty.nat n), (Ty.val ks2), (Ty.val x8)].set 1 (Ty.val x10)))) rfl rfl (YldM.toL (m_storep Try.inf24 dE (OwnP.kl o351 hs23) q327 (Nat.le_of_ble_eq_true rfl) (kq hs23 sm21 110 (kq hs22 sm20 110 q305)) (one_val (Own.one o363)))) (fun v3 s46 hs24 r24 => ?_)
         have q328 := kpL hs24 dE rfl (kq hs23 sm21 88 (kq hs22 sm20 88 (kq hs21 sm19 88 (D22.k q273)))); have q329 := kpL hs24 dE rfl (kq hs23 sm21 79 (kq hs22 sm20 79 (kq hs21 sm19 79 (D22.k q274)))); have q330 := kpL hs24 dE rfl (kq hs23 sm21 8 (kq hs22 sm20 8 (kq hs21 sm19 8 (D22.k q275)))); have q331 := kpL hs24 dE rfl (kq hs23 sm21 13 (kq hs22 sm20 13 (kq hs21 sm19 13 (D22.k q276)))); have q332 := kpL hs24 dE rfl (kq hs23 sm21 77 (kq hs22 sm20 77 (kq hs21 sm19 77 (D22.k q277)))); have q333 := kpL hs24 dE rfl (kq hs23 sm21 78 (kq hs22 sm20 78 (kq hs21 sm19 78 (D22.k q278)))); have q334 := kpL hs24 dE rfl (kq hs23 sm21 86 (kq hs22 sm20 86 (kq hs21 sm19 86 (D22.k q279)))); have q335 := kpL hs24 dE rfl (kq hs23 sm21 87 (kq hs22 sm20 87 (kq hs21 sm19 87 (D22.k q280)))); have q336 := kpL hs24 dE rfl (kq hs23 sm21 18 (kq hs22 sm20 18 (kq hs21 sm19 18 (D22.k q281))))
         have o364 : OwnP s46 44 x7 [(Ty.nat n), (Ty.val x10), (Ty.val x8)] := r24
         clear r24; refine wpList_nil (tn ?_)
         refine gI a49 s46 ok46 (gM q331 (gM q336 (gE2 ok46 fun a50 s47 ok47 D23 => ?_))); have o374 := OwnP.k0 (OwnP.kl (OwnP.kl (OwnP.kl (OwnP.kl o325 hs21) hs22) hs23) hs24) D23.stp; have o375 := ChnU.k0 (ChnU.kl (ChnU.kl (ChnU.kl (ChnU.kl o326 hs21) hs22) hs23) hs24) D23.stp; have o376 := Own.k0 (Own.kl (Own.kl (Own.kl (Own.kl o327 hs21) hs22) hs23) hs24) D23.stp; have o377 := OwnP.k0 (OwnP.kl (OwnP.kl (OwnP.kl (OwnP.kl o328 hs21) hs22) hs23) hs24) D23.stp; have o378 := ChnU.k0 (ChnU.kl (ChnU.kl (ChnU.kl (ChnU.kl o329 hs21) hs22) hs23) hs24) D23.stp; have o379 := Own.k0 (Own.kl (Own.kl (Own.kl (Own.kl o330 hs21) hs22) hs23) hs24) D23.stp; have o380 := Own.k0 (Own.kl (Own.kl (Own.kl (Own.kl o331 hs21) hs22) hs23) hs24) D23.stp; have o381 := ChnU.k0 (ChnU.kl (ChnU.kl (ChnU.kl (ChnU.kl o333 hs21) hs22) hs23) hs24) D23.stp; have o382 := Own.k0 (Own.kl o363 hs24) D23.stp; have o383 := OwnP.k0 o364 D23.stp
         have q346 : At (Ty.val x7) s47 a50 (.tmp 113) := D23.done 0 dE
         refine tL ok47 (y_callL (L := [41, 42]) [(44, 41), (45, 42)] [(41, 44), (42, 45)] #[a50.eval (.tmp 113), a50.eval ((Operand.const (Value.int IntKind.i64 0))), a50.eval (.tmp 114)] rfl dE Try.func92 rfl rfl my3 (gAdd_fn ((n - (0))) (x7) (x10) (x8) ((g4)) (n) (0) ((c3)) ((turnL n b ((g1 (1 + j)).gens.getD i []))) _ lW _ _ _ (uL q346) (uL (cvi (σ := s47) (by first | omega | assumption | exact hAP | exact hp.wc | exact hp.le | exact hp.row | exact hp.fx) rfl)) (uL (D23.m 1 rfl)) (OwnP.ren o383 (GW.ren_lend _ _ dE rfl)) (ChnU.ren (cvch (by (rfl)) o381) (GW.ren_lend _ _ dE rfl)) (by first | omega | assumption | exact hAP | exact hp.wc | exact hp.le | exact hp.row | exact hp.fx) (by first | omega | assumption | exact hAP | exact hp.wc | exact hp.le | exact hp.row | exact hp.fx))) fun a51 s48 hs25 ok48 r25 sm22 => ?_
         obtain ⟨t14, ⟨g5, hT5, o384, o385, hp3⟩, B5⟩ := r25
         have o386 : OwnP s48 44 x7 [(Ty.nat n), (Ty.val x10), (Ty.val x8)] := OwnP.ren o384 (B5.ren dE rfl)
         have o387 : ChnU s48 45 22 108 x8 n (g5) ((g4)) := ChnU.ren o385 (B5.ren dE rfl)
         refine wpList_nil (bn (tn ?_))
         refine gI a51 s48 ok48 (gT (Ty.nat (i + 1)) rfl (fun A B H I J => rP ((y_add (kp (J 88 rfl) H (kq hs25 sm22 88 (D23.k q328))) rfl wX).mono (fun τ _ h => cN (σ := τ) h))) (gS rfl (fun A B H I J d0 => rP (y_move (eI d0))) (gE ok48 fun a52 s49 ok49 D24 => ?_))); have o396 := OwnP.k0 (OwnP.kl o374 hs25) D24.stp; have o397 := ChnU.k0 (ChnU.kl o375 hs25) D24.stp; have o398 := Own.k0 (Own.kl o376 hs25) D24.stp; have o399 := OwnP.k0 (OwnP.kl o377 hs25) D24.stp; have o400 := ChnU.k0 (ChnU.kl o378 hs25) D24.stp; have o401 := Own.k0 (Own.kl o379 hs25) D24.stp; have o402 := Own.k0 (Own.kl o380 hs25) D24.stp; have o403 := Own.k0 (Own.kl o382 hs25) D24.stp; have o404 := OwnP.k0 o386 D24.stp; have o405 := ChnU.k0 o387 D24.stp
         exact tn ⟨(g1 (1 + j)).gens.length - ((i+1)), by omega, s49, (i+1), (K2 ++ [(turnL n b ((g1 (1 + j)).gens.getD i []))]), g5, x10, rfl, ((((((((F47.step0 D22.stp).sl hs21).sl hs22).sl hs23).sl hs24).step0 D23.stp).sl hs25).step0 D24.stp), ok49, (cJ (D24.m 1 rfl)), (D24.k (kq hs25 sm22 79 (D23.k q329))), (D24.k (kq hs25 sm22 8 (D23.k q330))), (D24.k (kq hs25 sm22 13 (D23.k q331))), (D24.k (kq hs25 sm22 77 (D23.k q332))), (D24.k (kq hs25 sm22 78 (D23.k q333))), (D24.k (kq hs25 sm22 86 (D23.k q334))), (D24.k (kq hs25 sm22 87 (D23.k q335))), o404, (cvo (by (simp)) (by (simp)) o403), (cvch (by (rfl)) o405), o396, o397, o398, o399, o400, o401, o402, by omega, hI2.new hs2 rfl hs3 hs4 hp3, rfl⟩
        ·
         have hb1 : hasB n c3 (turnL n b ((g1 (1 + j)).gens.getD i [])) = true := (by simpa using c5); have hI4 := hI2.old ((hasB_iff hI2.of hI2.row hs2).1 hb1)
         refine wp_skip (bn (tn ?_))
         refine gI a45 s41 ok42 (gT (Ty.nat (i + 1)) rfl (fun A B H I J => rP ((y_add (kp (J 88 rfl) H q273) rfl wX).mono (fun τ _ h => cN (σ := τ) h))) (gS rfl (fun A B H I J d0 => rP (y_move (eI d0))) (gE ok42 fun a53 s50 ok50 D25 => ?_))); have o406 := Own.k0 o314 D25.stp; have o407 := OwnP.k0 o315 D25.stp; have o408 := ChnU.k0 o316 D25.stp; have o409 := Own.k0 o317 D25.stp; have o410 := OwnP.k0 o318 D25.stp; have o411 := ChnU.k0 o319 D25.stp; have o412 := Own.k0 o320 D25.stp; have o413 := Own.k0 o321 D25.stp; have o414 := OwnP.k0 o322 D25.stp; have o415 := ChnU.k0 o323 D25.stp
         exact tn ⟨(g1 (1 + j)).gens.length - ((i+1)), by omega, s50, (i+1), K2, c3, ks2, rfl, (F47.step0 D25.stp), ok50, (cJ (D25.m 1 rfl)), (D25.k q274), (D25.k q275), (D25.k q276), (D25.k q277), (D25.k q278), (D25.k q279), (D25.k q280), o414, o406, (cvch (by (rfl)) o415), o407, o408, o409, o410, o411, o412, o413, by omega, hI4, rfl⟩
       ·
        have ei : i = (g1 (1 + j)).gens.length := oM; have hI3 := (ei ▸ hI2 : StI n b gens g1 j (g1 (1 + j)).gens.length K2 c3).next hlg
        refine wp_exit (tx (tx (bx (bn (tn ?_)))))
        refine gI a35 s31 ok32 (gT (Ty.nat (j + 1)) rfl (fun A B H I J => rP ((y_add (kp (J 79 rfl) H q171) rfl wX).mono (fun τ _ h => cN (σ := τ) h))) (gS rfl (fun A B H I J d0 => rP (y_move (eI d0))) (gE ok32 fun a54 s51 ok51 D26 => ?_))); have o416 := OwnP.k0 o212 D26.stp; have o417 := Own.k0 o213 D26.stp; have o418 := ChnU.k0 o214 D26.stp; have o419 := OwnP.k0 o215 D26.stp; have o420 := ChnU.k0 o216 D26.stp; have o421 := Own.k0 o217 D26.stp; have o422 := OwnP.k0 o218 D26.stp; have o423 := ChnU.k0 o219 D26.stp; have o424 := Own.k0 o220 D26.stp; have o425 := Own.k0 o221 D26.stp
        exact tn ⟨(n - 1) - ((j+1)), by omega, s51, (j+1), K2, c3, ks2, rfl, (F37.step0 D26.stp), ok51, (cJ (D26.m 1 rfl)), (D26.k q172), (D26.k q173), (D26.k q174), (D26.k q175), o416, (cvo (by (simp)) (by (simp)) o417), (cvch (by (rfl)) o418), o419, o420, o421, o422, o423, o424, by omega, hI3, rfl⟩
     ·
      have hD := StI.done hn hb hG hT hI (show j + 1 = n by omega)
      refine wp_exit (tx (tx (bx (tn (wp_seq ?_)))))
      refine gI a30 s28 ok28 (gM q144 (gB 0 (gC (Ty.int (0 : Int)) (gE ok28 fun a55 s52 ok52 D27 => ?_)))); have o426 := OwnP.k0 o166 D27.stp; have o427 := Own.k0 o167 D27.stp; have o428 := ChnU.k0 o168 D27.stp; have o429 := OwnP.k0 o169 D27.stp; have o430 := ChnU.k0 o170 D27.stp; have o431 := Own.k0 o171 D27.stp; have o432 := OwnP.k0 o172 D27.stp; have o433 := ChnU.k0 o173 D27.stp; have o434 := Own.k0 o174 D27.stp
      have q378 : At (Ty.val x7) s52 a55 (.tmp 4) := D27.done 1
      refine tn (wp_ret ?_)
      exact retL2 rfl ok52 (F33.step0 D27.stp) ⟨K, c2, g4, x7, x8, ks, (hasT2 q378 (D27.m 2 rfl)), o429, o430, o431, o426, (cvch (by (rfl)) o428), o427, (by exact hD)⟩


set_option maxHeartbeats 4000000 in
set_option maxRecDepth 100000 in
theorem gRowsL_fn (gv : Value) (gs : Value) (cs : Value) (us : List Value) (n : Nat) (c : Nat → Lev) (gens : List (List Int)) (r : List Int) (bell : Int) (σ : GW) (hlow : Low [41, 42, 43] σ) (v0 v1 v2 v3 v4 v5 v6 : Value) (hv0 : Ty.has (Ty.val gv) σ v0) (hv1 : Ty.has (Ty.nat n) σ v1) (hv2 : Ty.has (Ty.lst Ty.ints gens) σ v2) (hv3 : Ty.has (Ty.lst Ty.int r) σ v3) (hv4 : Ty.has (Ty.int (fitsE n r)) σ v4) (hv5 : Ty.has (Ty.int bell) σ v5) (hv6 : Ty.has (Ty.nat (szTo n (fun y => y ∈ gens) n)) σ v6) (ho_gv : OwnP σ 41 gv [(Ty.nat n), (Ty.val gs), (Ty.val cs)]) (ho_cs : ChnU σ 42 22 108 cs n c us) (ho_gs : Own σ 43 22 1 gs (List.length gens) (List.map Ty.ints gens)) (hC : ChnOf n gens c) (hG : ∀ x ∈ gens, RowN n x) (hGl : gens.length ≤ 8) (hL : 5040 < (szTo n (fun y => y ∈ gens) n)) :
    FnL Try.prog 47 #[v0, v1, v2, v3, v4, v5, v6] σ [41, 42, 43] (fun v τ => (Ty.has (Ty.bool true) τ v) ∧ (OwnP τ 41 gv [(Ty.nat n), (Ty.val gs), (Ty.val cs)]) ∧ (ChnU τ 42 22 108 cs n c us) ∧ (Own τ 43 22 1 gs (List.length gens) (List.map Ty.ints gens))) := by
 have hn := hC.wc.nn
 have hw := hC.wc
 have hsb := szTo_bd (n := n) (S := fun y => y ∈ gens) (k := n) hn.2
 refine fn_introL hlow Try.func47 rfl Try.ntmps47 (Nat.le_of_ble_eq_true rfl) (fun a0 F0 ok0 hargs => ?_)
 have p0 := pB (hargs 0 _ rfl) hv0
 have p1 := pB (hargs 1 _ rfl) hv1
 have p2 := pB (hargs 2 _ rfl) hv2
 have b1 := sl_le p2
 have p3 := pB (hargs 3 _ rfl) hv3
 have b2 := sl_le p3
 have p4 := pB (hargs 4 _ rfl) hv4
 have p5 := pB (hargs 5 _ rfl) hv5
 have p6 := pB (hargs 6 _ rfl) hv6
 clear hargs; refine wp_seq ?_
 refine gI a0 σ ok0 (gC (Ty.bool false) (gE ok0 fun a1 s1 ok1 D1 => ?_)); have q1 := D1.k p0; have q4 := D1.k p3; have o1 := OwnP.k0 ho_gv D1.stp; have o2 := ChnU.k0 ho_cs D1.stp; have o3 := Own.k0 ho_gs D1.stp; refine tn (wp_seq ?_)
 refine gI a1 s1 ok1 (gM q1 (gM q4 (gE2 ok1 fun a2 s2 ok2 D2 => ?_))); have o4 := OwnP.k0 o1 D2.stp; have o5 := ChnU.k0 o2 D2.stp; have o6 := Own.k0 o3 D2.stp
 refine tL ok2 (y_callL (L := [41, 42, 43]) [(41, 41), (42, 42), (43, 43)] [(41, 41), (42, 42), (43, 43)] #[a2.eval (.tmp 29), a2.eval (.tmp 30)] rfl dE Try.func59 rfl rfl my2 (gWord_fn (gv) (gs) (cs) (us) (n) (c) (gens) (r) _ lW _ _ (uL (D2.m 0 rfl)) (uL (D2.m 1 rfl)) (OwnP.ren o4 (GW.ren_lend _ _ dE rfl)) (ChnU.ren o5 (GW.ren_lend _ _ dE rfl)) (Own.ren o6 (GW.ren_lend _ _ dE rfl)) oX oX oX)) fun a3 s3 hs1 ok3 r1 sm1 => ?_
 obtain ⟨t1, ⟨g1, hT1, o7, o8, o9, hp1⟩, B1⟩ := r1
 have q24 : At (Ty.tup2 (Ty.lst Ty.int (g1)) (Ty.int (wordE n c gens r))) s3 a3 (.tmp 31) := Ty.up _ B1.le hT1
 have o10 : OwnP s3 41 gv [(Ty.nat n), (Ty.val gs), (Ty.val cs)] := OwnP.ren o7 (B1.ren dE rfl)
 have o11 : ChnU s3 42 22 108 cs n c us := ChnU.ren o8 (B1.ren dE rfl)
 have o12 : Own s3 43 22 1 gs (List.length gens) (List.map Ty.ints gens) := Own.ren o9 (B1.ren dE rfl)
 refine tL ok3 (Yld.toL (y_mv q24)) fun a4 s4 hs2 ok4 r2 sm2 => ?_
 have q32 : At (Ty.tup2 (Ty.lst Ty.int (g1)) (Ty.int (wordE n c gens r))) s4 a4 (.tmp 28) := r2
 clear r2
 refine tL (R := (fun v τ => Pr.has (Ty.pr (Ty.lst Ty.int (g1))) τ v)) ok4 (Yld.toL (y_ext2_0 q32)) fun a5 s5 hs3 ok5 r3 sm3 => ?_
 have q41 : At (Ty.lst Ty.int (g1)) s5 a5 (.tmp 32) := r3
 clear r3
 refine tL (R := (fun v τ => Pr.has (Ty.pr (Ty.int (wordE n c gens r))) τ v)) ok5 (Yld.toL (y_ext2_1 (kq hs3 sm3 28 q32))) fun a6 s6 hs4 ok6 r4 sm4 => ?_
 have q50 : At (Ty.int (wordE n c gens r)) s6 a6 (.tmp 33) := r4
 clear r4
 refine tL ok6 (Yld.toL (y_as (kq hs4 sm4 32 q41))) fun a7 s7 hs5 ok7 r5 sm5 => ?_
 have q59 : At (Ty.lst Ty.int (g1)) s7 a7 (.tmp 15) := r5
 clear r5
 refine tL ok7 (Yld.toL (y_as (kq hs5 sm5 33 q50))) fun a8 s8 hs6 ok8 r6 sm6 => ?_
 have q60 := kq hs6 sm6 0 (kq hs5 sm5 0 (kq hs4 sm4 0 (kq hs3 sm3 0 (kq hs2 sm2 0 (kq hs1 sm1 0 (D2.k q1))))))
 have q68 : At (Ty.int (wordE n c gens r)) s8 a8 (.tmp 16) := r6
 clear r6; refine wpList_nil (tn (wp_seq ?_))
 refine gI a8 s8 ok8 (gM q60 (gE2 ok8 fun a9 s9 ok9 D3 => ?_)); have o28 := OwnP.k0 (OwnP.kl (OwnP.kl (OwnP.kl (OwnP.kl (OwnP.kl o10 hs2) hs3) hs4) hs5) hs6) D3.stp; have o29 := ChnU.k0 (ChnU.kl (ChnU.kl (ChnU.kl (ChnU.kl (ChnU.kl o11 hs2) hs3) hs4) hs5) hs6) D3.stp; have o30 := Own.k0 (Own.kl (Own.kl (Own.kl (Own.kl (Own.kl o12 hs2) hs3) hs4) hs5) hs6) D3.stp
 refine tL ok9 (y_callL (L := [41, 42, 43]) [(41, 41), (42, 42), (43, 43)] [(41, 41), (42, 42), (43, 43)] #[a9.eval (.tmp 35)] rfl dE Try.func60 rfl rfl my1 (gElts_fn (gv) (gs) (cs) (us) (n) (c) (gens) _ lW _ (uL (D3.m 0 rfl)) (OwnP.ren o28 (GW.ren_lend _ _ dE rfl)) (ChnU.ren o29 (GW.ren_lend _ _ dE rfl)) (Own.ren o30 (GW.ren_lend _ _ dE rfl)) oX oX)) fun a10 s10 hs7 ok10 r7 sm7 => ?_
 obtain ⟨t2, ⟨g2, hT2, o31, o32, o33, hp2⟩, B2⟩ := r7
 have q88 : At (Ty.tup2 (Ty.lst Ty.ints (g2)) (Ty.int (eltE n gens))) s10 a10 (.tmp 36) := Ty.up _ B2.le hT2
 have o34 : OwnP s10 41 gv [(Ty.nat n), (Ty.val gs), (Ty.val cs)] := OwnP.ren o31 (B2.ren dE rfl)
 have o35 : ChnU s10 42 22 108 cs n c us := ChnU.ren o32 (B2.ren dE rfl)
 have o36 : Own s10 43 22 1 gs (List.length gens) (List.map Ty.ints gens) := Own.ren o33 (B2.ren dE rfl)
 refine tL ok10 (Yld.toL (y_mv q88)) fun a11 s11 hs8 ok11 r8 sm8 => ?_
 have q98 : At (Ty.tup2 (Ty.lst Ty.ints (g2)) (Ty.int (eltE n gens))) s11 a11 (.tmp 34) := r8
 clear r8
 refine tL (R := (fun v τ => Pr.has (Ty.pr (Ty.lst Ty.ints (g2))) τ v)) ok11 (Yld.toL (y_ext2_0 q98)) fun a12 s12 hs9 ok12 r9 sm9 => ?_
 have q109 : At (Ty.lst Ty.ints (g2)) s12 a12 (.tmp 37) := r9
 clear r9
 refine tL (R := (fun v τ => Pr.has (Ty.pr (Ty.int (eltE n gens))) τ v)) ok12 (Yld.toL (y_ext2_1 (kq hs9 sm9 34 q98))) fun a13 s13 hs10 ok13 r10 sm10 => ?_
 have q120 : At (Ty.int (eltE n gens)) s13 a13 (.tmp 38) := r10
 clear r10
 refine tL ok13 (Yld.toL (y_as (kq hs10 sm10 37 q109))) fun a14 s14 hs11 ok14 r11 sm11 => ?_
 have q131 : At (Ty.lst Ty.ints (g2)) s14 a14 (.tmp 17) := r11
 clear r11
 refine tL ok14 (Yld.toL (y_as (kq hs11 sm11 38 q120))) fun a15 s15 hs12 ok15 r12 sm12 => ?_
 have q132 := kq hs12 sm12 0 (kq hs11 sm11 0 (kq hs10 sm10 0 (kq hs9 sm9 0 (kq hs8 sm8 0 (kq hs7 sm7 0 (D3.k q60)))))); have q137 := kq hs12 sm12 5 (kq hs11 sm11 5 (kq hs10 sm10 5 (kq hs9 sm9 5 (kq hs8 sm8 5 (kq hs7 sm7 5 (D3.k (kq hs6 sm6 5 (kq hs5 sm5 5 (kq hs4 sm4 5 (kq hs3 sm3 5 (kq hs2 sm2 5 (kq hs1 sm1 5 (D2.k (D1.k p5)))))))))))))); have q138 := kq hs12 sm12 6 (kq hs11 sm11 6 (kq hs10 sm10 6 (kq hs9 sm9 6 (kq hs8 sm8 6 (kq hs7 sm7 6 (D3.k (kq hs6 sm6 6 (kq hs5 sm5 6 (kq hs4 sm4 6 (kq hs3 sm3 6 (kq hs2 sm2 6 (kq hs1 sm1 6 (D2.k (D1.k p6))))))))))))))
 have q142 : At (Ty.int (eltE n gens)) s15 a15 (.tmp 18) := r12
 clear r12; refine wpList_nil (tn (wp_seq (wp_seq ?_)))
 have hwb := word_big (c := c) (r := r) hL
 have hw0 : g1.length = 0 := (by rw [hp1.2 hwb]; rfl)
 have hE3 : eltE n gens = 3 := (by unfold eltE; rw [if_neg oM])
 have hEn : g2.length = 0 := (by rw [hp2.no oM]; rfl)
 refine gI a15 s15 ok15 (gM q138 (gS rfl (fun A B H I J d0 => rP (y_gtr (eI d0) rfl)) (gE ok15 fun a16 s16 ok16 D4 => ?_))); have q147 := D4.k (kq hs12 sm12 4 (kq hs11 sm11 4 (kq hs10 sm10 4 (kq hs9 sm9 4 (kq hs8 sm8 4 (kq hs7 sm7 4 (D3.k (kq hs6 sm6 4 (kq hs5 sm5 4 (kq hs4 sm4 4 (kq hs3 sm3 4 (kq hs2 sm2 4 (kq hs1 sm1 4 (D2.k (D1.k p4))))))))))))))); have o52 := OwnP.k0 (OwnP.kl (OwnP.kl (OwnP.kl (OwnP.kl (OwnP.kl o34 hs8) hs9) hs10) hs11) hs12) D4.stp; have o53 := ChnU.k0 (ChnU.kl (ChnU.kl (ChnU.kl (ChnU.kl (ChnU.kl o35 hs8) hs9) hs10) hs11) hs12) D4.stp; have o54 := Own.k0 (Own.kl (Own.kl (Own.kl (Own.kl (Own.kl o36 hs8) hs9) hs10) hs11) hs12) D4.stp; refine tn ?_
 refine cond_p (p := ((5040 : Int) < (((szTo n (fun y => y ∈ gens) n) : Nat) : Int))) (D4.m 1 rfl) (fun c1 => ?_) (fun c1 => ?_)
 ·
  refine wp_seq (wp_seq ?_)
  refine gI a16 s16 ok16 (gM q147 (gS rfl (fun A B H I J d0 => rP (y_eql (eI d0) rfl)) (gE ok16 fun a17 s17 ok17 D5 => ?_))); have F17 := ((((((((((((((((F0.step0 D1.stp).step0 D2.stp).sl hs1).sl hs2).sl hs3).sl hs4).sl hs5).sl hs6).step0 D3.stp).sl hs7).sl hs8).sl hs9).sl hs10).sl hs11).sl hs12).step0 D4.stp).step0 D5.stp; have q160 := D5.k (D4.k (kq hs12 sm12 15 (kq hs11 sm11 15 (kq hs10 sm10 15 (kq hs9 sm9 15 (kq hs8 sm8 15 (kq hs7 sm7 15 (D3.k (kq hs6 sm6 15 q59))))))))); have q161 := D5.k (D4.k (kq hs12 sm12 16 (kq hs11 sm11 16 (kq hs10 sm10 16 (kq hs9 sm9 16 (kq hs8 sm8 16 (kq hs7 sm7 16 (D3.k q68)))))))); have q162 := D5.k (D4.k (kq hs12 sm12 17 q131)); have q163 := D5.k (D4.k q142); have o55 := OwnP.k0 o52 D5.stp; have o56 := ChnU.k0 o53 D5.stp; have o57 := Own.k0 o54 D5.stp; refine tn ?_
  refine cond_p (p := ((fitsE n r) = (0 : Int))) (D5.m 1 rfl) (fun c2 => ?_) (fun c2 => ?_)
  ·
   have hf0 : fitsE n r = 0 := c2; have hrn := fits_ok.1 hf0; have hsz := has_sz hC hG hrn; have hGr : ∀ x ∈ gens ++ [r], RowN n x := (fun x hx => (List.mem_append.1 hx).elim (hG x) (fun h => (by rw [List.mem_singleton.1 h]; exact hrn))); have hGrl : (gens ++ [r]).length ≤ 1000 := (by rw [List.length_append, List.length_singleton]; omega)
   refine wp_seq ?_
   refine gI a17 s17 ok17 (gC (Ty.int (14 : Int)) (gE ok17 fun a18 s18 ok18 D6 => ?_)); have o58 := OwnP.k0 o55 D6.stp; have o59 := ChnU.k0 o56 D6.stp; have o60 := Own.k0 o57 D6.stp; refine tn (wp_seq ?_)
   refine gI a18 s18 ok18 (gM (D6.k (D5.k (D4.k (kq hs12 sm12 1 (kq hs11 sm11 1 (kq hs10 sm10 1 (kq hs9 sm9 1 (kq hs8 sm8 1 (kq hs7 sm7 1 (D3.k (kq hs6 sm6 1 (kq hs5 sm5 1 (kq hs4 sm4 1 (kq hs3 sm3 1 (kq hs2 sm2 1 (kq hs1 sm1 1 (D2.k (D1.k p1)))))))))))))))))) (gR (Pr.own 20 22 1 0 (List.map Ty.ints ([] : List (List Int)))) rfl (by intro A B H I J; exact rP ((y_lit0 (k := 20) Try.underlying24 Try.inf22).mono (fun _ _ h => cvo (by simp) (by simp) h))) (gM (D6.k (D5.k (D4.k (kq hs12 sm12 2 (kq hs11 sm11 2 (kq hs10 sm10 2 (kq hs9 sm9 2 (kq hs8 sm8 2 (kq hs7 sm7 2 (D3.k (kq hs6 sm6 2 (kq hs5 sm5 2 (kq hs4 sm4 2 (kq hs3 sm3 2 (kq hs2 sm2 2 (kq hs1 sm1 2 (D2.k (D1.k p2)))))))))))))))))) (gE2 ok18 fun a19 s19 ok19 D7 => ?_)))); have o61 := OwnP.k0 o58 D7.stp; have o62 := ChnU.k0 o59 D7.stp; have o63 := Own.k0 o60 D7.stp
   obtain ⟨x1, hx1⟩ : ∃ x, a19.eval (.tmp 44) = x := ⟨_, rfl⟩
   have q182 : At (Ty.val x1) s19 a19 (.tmp 44) := hx1
   have o64 := al2 (R := (Pr.own 20 22 1 0 (List.map Ty.ints ([] : List (List Int))))) hx1 (D7.done 1 dE)
   refine tL ok19 (YldM.toL (m_append Try.underlying24 Try.inf22 dE rfl dE (al (R := (Pr.own 20 22 1 0 (List.map Ty.ints ([] : List (List Int))))) q182 o64) (D7.m 2 rfl) (one_map (fun _ => one_sl)) oM oM)) fun a20 s20 hs13 ok20 r13 sm13 => ?_
   obtain ⟨x2, hx2⟩ : ∃ x, a20.eval (.tmp 46) = x := ⟨_, rfl⟩
   have q192 : At (Ty.val x2) s20 a20 (.tmp 46) := hx2
   have o65 := al2 (R := (Pr.own 20 22 1 (List.length gens) (List.map Ty.ints gens))) hx2 (cvo (by first | (simp; done) | (simp; omega)) (by first | (rw [List.map_append]; rfl) | simp) r13)
   clear r13
   refine tL ok20 (Yld.toL (y_mv (kq hs13 sm13 3 (D7.k (D6.k (D5.k (D4.k (kq hs12 sm12 3 (kq hs11 sm11 3 (kq hs10 sm10 3 (kq hs9 sm9 3 (kq hs8 sm8 3 (kq hs7 sm7 3 (D3.k (kq hs6 sm6 3 (kq hs5 sm5 3 (kq hs4 sm4 3 (kq hs3 sm3 3 (kq hs2 sm2 3 (kq hs1 sm1 3 (D2.k q4))))))))))))))))))))) fun a21 s21 hs14 ok21 r14 sm14 => ?_
   have q201 : At (Ty.lst Ty.int r) s21 a21 (.tmp 47) := r14
   clear r14
   refine tL (R := (fun v τ => Pr.has (Ty.pr (Ty.sl 1 1 [(Ty.lst Ty.int r)])) τ v)) ok21 (Yld.toL (y_build1o Try.underlying24 Try.inf22 rfl (one_sl) q201)) fun a22 s22 hs15 ok22 r15 sm15 => ?_
   have q210 : At (Ty.sl 1 1 [(Ty.lst Ty.int r)]) s22 a22 (.tmp 48) := r15
   clear r15
   refine tL ok22 (YldM.toL (m_append Try.underlying24 Try.inf22 dE rfl dE (al (R := (Pr.own 20 22 1 (List.length gens) (List.map Ty.ints gens))) (kq hs15 sm15 46 (kq hs14 sm14 46 q192)) (Own.kl (Own.kl o65 hs14) hs15)) q210 (by intro U hU; simp at hU; subst hU; exact one_sl) oM oM)) fun a23 s23 hs16 ok23 r16 sm16 => ?_
   obtain ⟨x3, hx3⟩ : ∃ x, a23.eval (.tmp 49) = x := ⟨_, rfl⟩
   have q218 : At (Ty.val x3) s23 a23 (.tmp 49) := hx3
   have o77 := al2 (R := (Pr.own 20 22 1 (List.length (gens ++ [r])) (List.map Ty.ints (gens ++ [r])))) hx3 (cvo (by simp) (by first | (rw [List.map_append]; rfl) | simp) r16)
   clear r16
   obtain ⟨t3, e1, h1, q219⟩ := Own.seal o77 dE
   rw [← e1]
   have F24 := ((((((F17.step0 D6.stp).step0 D7.stp).sl hs13).sl hs14).sl hs15).sl hs16).step h1 dE; have o81 := OwnP.keepL (OwnP.kl (OwnP.kl (OwnP.kl (OwnP.kl o61 hs13) hs14) hs15) hs16) (h1.toL (L := [20]) (by simp)) dE dE; have o82 := ChnU.keepL (ChnU.kl (ChnU.kl (ChnU.kl (ChnU.kl o62 hs13) hs14) hs15) hs16) (h1.toL (L := [20]) (by simp)) dE dE; have o83 := Own.keepL (Own.kl (Own.kl (Own.kl (Own.kl o63 hs13) hs14) hs15) hs16) (h1.toL (L := [20]) (by simp)) dE dE; have q220 := Ty.up (Ty.nat (szTo n (fun y => y ∈ gens) n)) (h1.le dE) (kq hs16 sm16 6 (kq hs15 sm15 6 (kq hs14 sm14 6 (kq hs13 sm13 6 (D7.k (D6.k (D5.k (D4.k q138)))))))); have q221 := Ty.up (Ty.lst Ty.int (g1)) (h1.le dE) (kq hs16 sm16 15 (kq hs15 sm15 15 (kq hs14 sm14 15 (kq hs13 sm13 15 (D7.k (D6.k q160)))))); have q222 := Ty.up (Ty.int (wordE n c gens r)) (h1.le dE) (kq hs16 sm16 16 (kq hs15 sm15 16 (kq hs14 sm14 16 (kq hs13 sm13 16 (D7.k (D6.k q161)))))); have q223 := Ty.up (Ty.lst Ty.ints (g2)) (h1.le dE) (kq hs16 sm16 17 (kq hs15 sm15 17 (kq hs14 sm14 17 (kq hs13 sm13 17 (D7.k (D6.k q162)))))); have q224 := Ty.up (Ty.int (eltE n gens)) (h1.le dE) (kq hs16 sm16 18 (kq hs15 sm15 18 (kq hs14 sm14 18 (kq hs13 sm13 18 (D7.k (D6.k q163)))))); have q225 := Ty.up (Ty.int (14 : Int)) (h1.le dE) (kq hs16 sm16 4 (kq hs15 sm15 4 (kq hs14 sm14 4 (kq hs13 sm13 4 (D7.k (D6.m 0 rfl)))))); have q226 := Ty.up (Ty.nat n) (h1.le dE) (kq hs16 sm16 43 (kq hs15 sm15 43 (kq hs14 sm14 43 (kq hs13 sm13 43 (D7.m 0 rfl)))))
   have q227 : At (Ty.lst Ty.ints (gens ++ [r])) t3 a23 (.tmp 49) := by have e : a23.eval (.tmp 49) = x3 := q218; show Ty.has _ _ _; rw [e]; exact q219
   refine tL (R := (fun v τ => Pr.has (Ty.pr (Ty.nat (szTo n (fun y => y ∈ ((gens ++ [r]))) n))) τ v)) ok23 (Yld.toL (y_call _ Try.func20 rfl rfl my2 (rSizes_fn (n) ((gens ++ [r])) _ _ _ q226 q227 (by first | omega | assumption | exact hst1) (by first | omega | assumption | exact hst1) (by first | omega | assumption | exact hst1)))) fun a24 s24 hs17 ok24 r17 sm17 => ?_
   have q234 : At (Ty.nat (szTo n (fun y => y ∈ ((gens ++ [r]))) n)) s24 a24 (.tmp 50) := r17
   clear r17
   refine tL ok24 (Yld.toL (y_mv (kq hs17 sm17 6 q220))) fun a25 s25 hs18 ok25 r18 sm18 => ?_
   have q241 : At (Ty.nat (szTo n (fun y => y ∈ gens) n)) s25 a25 (.tmp 51) := r18
   clear r18
   refine tL (R := (fun v τ => Pr.has (Ty.pr (Ty.bool (decide ((((szTo n (fun y => y ∈ ((gens ++ [r]))) n) : Nat) : Int) = (((szTo n (fun y => y ∈ gens) n) : Nat) : Int))))) τ v)) ok25 (Yld.toL (y_eql (kq hs18 sm18 50 q234) q241)) fun a26 s26 hs19 ok26 r19 sm19 => ?_
   have F27 := ((F24.sl hs17).sl hs18).sl hs19; have q242 := kq hs19 sm19 15 (kq hs18 sm18 15 (kq hs17 sm17 15 q221)); have q243 := kq hs19 sm19 16 (kq hs18 sm18 16 (kq hs17 sm17 16 q222)); have q244 := kq hs19 sm19 17 (kq hs18 sm18 17 (kq hs17 sm17 17 q223)); have q245 := kq hs19 sm19 18 (kq hs18 sm18 18 (kq hs17 sm17 18 q224)); have o90 := OwnP.kl (OwnP.kl (OwnP.kl o81 hs17) hs18) hs19; have o91 := ChnU.kl (ChnU.kl (ChnU.kl o82 hs17) hs18) hs19; have o92 := Own.kl (Own.kl (Own.kl o83 hs17) hs18) hs19
   have q247 : At (Ty.bool (decide ((((szTo n (fun y => y ∈ ((gens ++ [r]))) n) : Nat) : Int) = (((szTo n (fun y => y ∈ gens) n) : Nat) : Int)))) s26 a26 (.tmp 52) := r19
   clear r19; refine wpList_nil (tn ?_)
   refine cond_p (p := ((((szTo n (fun y => y ∈ ((gens ++ [r]))) n) : Nat) : Int) = (((szTo n (fun y => y ∈ gens) n) : Nat) : Int))) q247 (fun c3 => ?_) (fun c3 => ?_)
   ·
    have hwE := word_3 (c := c) (G := gens) hf0 (hsz.1 oM) hL
    refine gI a26 s26 ok26 (gC (Ty.int (3 : Int)) (gE ok26 fun a27 s27 ok27 D8 => ?_)); have o93 := OwnP.k0 o90 D8.stp; have o94 := ChnU.k0 o91 D8.stp; have o95 := Own.k0 o92 D8.stp; refine tn (wp_seq ?_)
    refine gI a27 s27 ok27 (gM (D8.k q243) (gM (D8.m 0 rfl) (gS rfl (fun A B H I J d0 d1 => rP (y_eql (eI d0) (eI d1))) (gS rfl (fun A B H I J d0 => rP (y_move (eI d0))) (gS rfl (fun A B H I J d0 => gu I (eI d0) fun hg => y_move (kp (J 15 rfl) H (D8.k q242))) (gS rfl (fun A B H I J d0 d1 => gu I (eI d1) fun hg => y_len Try.underlying22 ((ef d0 rfl).1 hg)) (gS rfl (fun A B H I J d0 d1 => gu I (eI d1) fun hg => y_eql ((ef d0 rfl).1 hg) rfl) (gS rfl (fun A B H I J d0 d1 => rP (y_pick_and (eI d0) (eI d1) rfl)) (gS rfl (fun A B H I J d0 d1 => rP (y_move (eI d0))) (gT (Ty.grd (((decide ((wordE n c gens r) = (3 : Int))) && (decide ((((List.length (g1)) : Nat) : Int) = (0 : Int)))) = true) (Ty.int (eltE n gens))) rfl (by intro A B H I J d0; refine run_guard I rfl rfl dE (eI d0) (fun hg => ?_); obtain ⟨d1, d2⟩ := Bool.and_eq_true_iff.mp hg; have d1 := of_decide_eq_true d1; have d2 := of_decide_eq_true d2; exact y_move (kp (J 18 rfl) H (D8.k q245))) (gT (Ty.grd (((decide ((wordE n c gens r) = (3 : Int))) && (decide ((((List.length (g1)) : Nat) : Int) = (0 : Int)))) = true) (Ty.bool (decide ((eltE n gens) = (3 : Int))))) rfl (by intro A B H I J d0 d1; refine run_guard I rfl rfl dE (eI d1) (fun hg => ?_); obtain ⟨d3, d4⟩ := Bool.and_eq_true_iff.mp hg; have d3 := of_decide_eq_true d3; have d4 := of_decide_eq_true d4; exact y_eql ((ef d0 rfl).1 hg) rfl) (gS rfl (fun A B H I J d0 d1 => rP (y_pick_and (eI d0) (eI d1) rfl)) (gS rfl (fun A B H I J d0 d1 => rP (y_move (eI d0))) ?_)))))))))))))
    refine gT (Ty.grd ((((decide ((wordE n c gens r) = (3 : Int))) && (decide ((((List.length (g1)) : Nat) : Int) = (0 : Int)))) && (decide ((eltE n gens) = (3 : Int)))) = true) (Ty.lst Ty.ints (g2))) rfl (by intro A B H I J d0; refine run_guard I rfl rfl dE (eI d0) (fun hg => ?_); obtain ⟨d5, d6⟩ := Bool.and_eq_true_iff.mp hg; obtain ⟨d7, d8⟩ := Bool.and_eq_true_iff.mp d5; have d7 := of_decide_eq_true d7; have d8 := of_decide_eq_true d8; have d6 := of_decide_eq_true d6; exact y_move (kp (J 17 rfl) H (D8.k q244))) (gT (Ty.grd ((((decide ((wordE n c gens r) = (3 : Int))) && (decide ((((List.length (g1)) : Nat) : Int) = (0 : Int)))) && (decide ((eltE n gens) = (3 : Int)))) = true) (Ty.nat (List.length (g2)))) rfl (by intro A B H I J d0 d1; refine run_guard I rfl rfl dE (eI d1) (fun hg => ?_); obtain ⟨d9, d10⟩ := Bool.and_eq_true_iff.mp hg; obtain ⟨d11, d12⟩ := Bool.and_eq_true_iff.mp d9; have d11 := of_decide_eq_true d11; have d12 := of_decide_eq_true d12; have d10 := of_decide_eq_true d10; exact y_len Try.underlying24 ((ef d0 rfl).1 hg)) (gT (Ty.grd ((((decide ((wordE n c gens r) = (3 : Int))) && (decide ((((List.length (g1)) : Nat) : Int) = (0 : Int)))) && (decide ((eltE n gens) = (3 : Int)))) = true) (Ty.bool (decide ((((List.length (g2)) : Nat) : Int) = (0 : Int))))) rfl (by intro A B H I J d0 d1; refine run_guard I rfl rfl dE (eI d1) (fun hg => ?_); obtain ⟨d13, d14⟩ := Bool.and_eq_true_iff.mp hg; obtain ⟨d15, d16⟩ := Bool.and_eq_true_iff.mp d13; have d15 := of_decide_eq_true d15; have d16 := of_decide_eq_true d16; have d14 := of_decide_eq_true d14; exact y_eql ((ef d0 rfl).1 hg) rfl) (gS rfl (fun A B H I J d0 d1 => rP (y_pick_and (eI d0) (eI d1) rfl)) (gB 0 (gE ok27 fun a28 s28 ok28 D9 => ?_))))); have o96 := OwnP.k0 o93 D9.stp; have o97 := ChnU.k0 o94 D9.stp; have o98 := Own.k0 o95 D9.stp; refine tn (wp_ret (tr ?_))
    exact retL1 rfl ok28 ((F27.step0 D8.stp).step0 D9.stp) ⟨(cvb (by (simp [hwE, hE3, hw0, hEn])) (D9.m 17 rfl)), o96, o97, o98⟩
   ·
    have hwE := word_14 (c := c) (G := gens) hf0 (by cases h_ : hasB n c r with | false => rfl | true => exact absurd (hsz.2 h_) oM)
    refine wp_skip (tn (wp_seq ?_))
    refine gI a26 s26 ok26 (gM q243 (gM (kq hs19 sm19 4 (kq hs18 sm18 4 (kq hs17 sm17 4 q225))) (gS rfl (fun A B H I J d0 d1 => rP (y_eql (eI d0) (eI d1))) (gS rfl (fun A B H I J d0 => rP (y_move (eI d0))) (gS rfl (fun A B H I J d0 => gu I (eI d0) fun hg => y_move (kp (J 15 rfl) H q242)) (gS rfl (fun A B H I J d0 d1 => gu I (eI d1) fun hg => y_len Try.underlying22 ((ef d0 rfl).1 hg)) (gS rfl (fun A B H I J d0 d1 => gu I (eI d1) fun hg => y_eql ((ef d0 rfl).1 hg) rfl) (gS rfl (fun A B H I J d0 d1 => rP (y_pick_and (eI d0) (eI d1) rfl)) (gS rfl (fun A B H I J d0 d1 => rP (y_move (eI d0))) (gT (Ty.grd (((decide ((wordE n c gens r) = (14 : Int))) && (decide ((((List.length (g1)) : Nat) : Int) = (0 : Int)))) = true) (Ty.int (eltE n gens))) rfl (by intro A B H I J d0; refine run_guard I rfl rfl dE (eI d0) (fun hg => ?_); obtain ⟨d17, d18⟩ := Bool.and_eq_true_iff.mp hg; have d17 := of_decide_eq_true d17; have d18 := of_decide_eq_true d18; exact y_move (kp (J 18 rfl) H q245)) (gT (Ty.grd (((decide ((wordE n c gens r) = (14 : Int))) && (decide ((((List.length (g1)) : Nat) : Int) = (0 : Int)))) = true) (Ty.bool (decide ((eltE n gens) = (3 : Int))))) rfl (by intro A B H I J d0 d1; refine run_guard I rfl rfl dE (eI d1) (fun hg => ?_); obtain ⟨d19, d20⟩ := Bool.and_eq_true_iff.mp hg; have d19 := of_decide_eq_true d19; have d20 := of_decide_eq_true d20; exact y_eql ((ef d0 rfl).1 hg) rfl) (gS rfl (fun A B H I J d0 d1 => rP (y_pick_and (eI d0) (eI d1) rfl)) (gS rfl (fun A B H I J d0 d1 => rP (y_move (eI d0))) ?_)))))))))))))
    refine gT (Ty.grd ((((decide ((wordE n c gens r) = (14 : Int))) && (decide ((((List.length (g1)) : Nat) : Int) = (0 : Int)))) && (decide ((eltE n gens) = (3 : Int)))) = true) (Ty.lst Ty.ints (g2))) rfl (by intro A B H I J d0; refine run_guard I rfl rfl dE (eI d0) (fun hg => ?_); obtain ⟨d21, d22⟩ := Bool.and_eq_true_iff.mp hg; obtain ⟨d23, d24⟩ := Bool.and_eq_true_iff.mp d21; have d23 := of_decide_eq_true d23; have d24 := of_decide_eq_true d24; have d22 := of_decide_eq_true d22; exact y_move (kp (J 17 rfl) H q244)) (gT (Ty.grd ((((decide ((wordE n c gens r) = (14 : Int))) && (decide ((((List.length (g1)) : Nat) : Int) = (0 : Int)))) && (decide ((eltE n gens) = (3 : Int)))) = true) (Ty.nat (List.length (g2)))) rfl (by intro A B H I J d0 d1; refine run_guard I rfl rfl dE (eI d1) (fun hg => ?_); obtain ⟨d25, d26⟩ := Bool.and_eq_true_iff.mp hg; obtain ⟨d27, d28⟩ := Bool.and_eq_true_iff.mp d25; have d27 := of_decide_eq_true d27; have d28 := of_decide_eq_true d28; have d26 := of_decide_eq_true d26; exact y_len Try.underlying24 ((ef d0 rfl).1 hg)) (gT (Ty.grd ((((decide ((wordE n c gens r) = (14 : Int))) && (decide ((((List.length (g1)) : Nat) : Int) = (0 : Int)))) && (decide ((eltE n gens) = (3 : Int)))) = true) (Ty.bool (decide ((((List.length (g2)) : Nat) : Int) = (0 : Int))))) rfl (by intro A B H I J d0 d1; refine run_guard I rfl rfl dE (eI d1) (fun hg => ?_); obtain ⟨d29, d30⟩ := Bool.and_eq_true_iff.mp hg; obtain ⟨d31, d32⟩ := Bool.and_eq_true_iff.mp d29; have d31 := of_decide_eq_true d31; have d32 := of_decide_eq_true d32; have d30 := of_decide_eq_true d30; exact y_eql ((ef d0 rfl).1 hg) rfl) (gS rfl (fun A B H I J d0 d1 => rP (y_pick_and (eI d0) (eI d1) rfl)) (gB 0 (gE ok26 fun a29 s29 ok29 D10 => ?_))))); have o99 := OwnP.k0 o90 D10.stp; have o100 := ChnU.k0 o91 D10.stp; have o101 := Own.k0 o92 D10.stp; refine tn (wp_ret (tr ?_))
    exact retL1 rfl ok29 (F27.step0 D10.stp) ⟨(cvb (by (simp [hwE, hE3, hw0, hEn])) (D10.m 17 rfl)), o99, o100, o101⟩
  ·
   have hwE := word_fit (c := c) (G := gens) (show fitsE n r ≠ 0 from c2)
   refine wp_skip (tn (wp_seq ?_))
   refine gI a17 s17 ok17 (gM q161 (gM (D5.k q147) (gS rfl (fun A B H I J d0 d1 => rP (y_eql (eI d0) (eI d1))) (gS rfl (fun A B H I J d0 => rP (y_move (eI d0))) (gS rfl (fun A B H I J d0 => gu I (eI d0) fun hg => y_move (kp (J 15 rfl) H q160)) (gS rfl (fun A B H I J d0 d1 => gu I (eI d1) fun hg => y_len Try.underlying22 ((ef d0 rfl).1 hg)) (gS rfl (fun A B H I J d0 d1 => gu I (eI d1) fun hg => y_eql ((ef d0 rfl).1 hg) rfl) (gS rfl (fun A B H I J d0 d1 => rP (y_pick_and (eI d0) (eI d1) rfl)) (gS rfl (fun A B H I J d0 d1 => rP (y_move (eI d0))) (gT (Ty.grd (((decide ((wordE n c gens r) = (fitsE n r))) && (decide ((((List.length (g1)) : Nat) : Int) = (0 : Int)))) = true) (Ty.int (eltE n gens))) rfl (by intro A B H I J d0; refine run_guard I rfl rfl dE (eI d0) (fun hg => ?_); obtain ⟨d33, d34⟩ := Bool.and_eq_true_iff.mp hg; have d33 := of_decide_eq_true d33; have d34 := of_decide_eq_true d34; exact y_move (kp (J 18 rfl) H q163)) (gT (Ty.grd (((decide ((wordE n c gens r) = (fitsE n r))) && (decide ((((List.length (g1)) : Nat) : Int) = (0 : Int)))) = true) (Ty.bool (decide ((eltE n gens) = (3 : Int))))) rfl (by intro A B H I J d0 d1; refine run_guard I rfl rfl dE (eI d1) (fun hg => ?_); obtain ⟨d35, d36⟩ := Bool.and_eq_true_iff.mp hg; have d35 := of_decide_eq_true d35; have d36 := of_decide_eq_true d36; exact y_eql ((ef d0 rfl).1 hg) rfl) (gS rfl (fun A B H I J d0 d1 => rP (y_pick_and (eI d0) (eI d1) rfl)) (gS rfl (fun A B H I J d0 d1 => rP (y_move (eI d0))) ?_)))))))))))))
   refine gT (Ty.grd ((((decide ((wordE n c gens r) = (fitsE n r))) && (decide ((((List.length (g1)) : Nat) : Int) = (0 : Int)))) && (decide ((eltE n gens) = (3 : Int)))) = true) (Ty.lst Ty.ints (g2))) rfl (by intro A B H I J d0; refine run_guard I rfl rfl dE (eI d0) (fun hg => ?_); obtain ⟨d37, d38⟩ := Bool.and_eq_true_iff.mp hg; obtain ⟨d39, d40⟩ := Bool.and_eq_true_iff.mp d37; have d39 := of_decide_eq_true d39; have d40 := of_decide_eq_true d40; have d38 := of_decide_eq_true d38; exact y_move (kp (J 17 rfl) H q162)) (gT (Ty.grd ((((decide ((wordE n c gens r) = (fitsE n r))) && (decide ((((List.length (g1)) : Nat) : Int) = (0 : Int)))) && (decide ((eltE n gens) = (3 : Int)))) = true) (Ty.nat (List.length (g2)))) rfl (by intro A B H I J d0 d1; refine run_guard I rfl rfl dE (eI d1) (fun hg => ?_); obtain ⟨d41, d42⟩ := Bool.and_eq_true_iff.mp hg; obtain ⟨d43, d44⟩ := Bool.and_eq_true_iff.mp d41; have d43 := of_decide_eq_true d43; have d44 := of_decide_eq_true d44; have d42 := of_decide_eq_true d42; exact y_len Try.underlying24 ((ef d0 rfl).1 hg)) (gT (Ty.grd ((((decide ((wordE n c gens r) = (fitsE n r))) && (decide ((((List.length (g1)) : Nat) : Int) = (0 : Int)))) && (decide ((eltE n gens) = (3 : Int)))) = true) (Ty.bool (decide ((((List.length (g2)) : Nat) : Int) = (0 : Int))))) rfl (by intro A B H I J d0 d1; refine run_guard I rfl rfl dE (eI d1) (fun hg => ?_); obtain ⟨d45, d46⟩ := Bool.and_eq_true_iff.mp hg; obtain ⟨d47, d48⟩ := Bool.and_eq_true_iff.mp d45; have d47 := of_decide_eq_true d47; have d48 := of_decide_eq_true d48; have d46 := of_decide_eq_true d46; exact y_eql ((ef d0 rfl).1 hg) rfl) (gS rfl (fun A B H I J d0 d1 => rP (y_pick_and (eI d0) (eI d1) rfl)) (gB 0 (gE ok17 fun a30 s30 ok30 D11 => ?_))))); have o102 := OwnP.k0 o55 D11.stp; have o103 := ChnU.k0 o56 D11.stp; have o104 := Own.k0 o57 D11.stp; refine tn (wp_ret (tr ?_))
   exact retL1 rfl ok30 (F17.step0 D11.stp) ⟨(cvb (by (simp [hwE, hE3, hw0, hEn])) (D11.m 17 rfl)), o102, o103, o104⟩
 ·
  exfalso
  omega


end Go.Proofs.Ytkjifbgofckfeaa
